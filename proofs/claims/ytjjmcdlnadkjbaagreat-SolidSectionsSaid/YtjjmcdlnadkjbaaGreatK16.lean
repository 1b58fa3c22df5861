/- W_Allc -/
import Derived.Test.YtjjmcdlnadkjbaaGreatK15
namespace Go.Proofs.YtjjmcdlnadkjbaaGreat
open Go Go.Am Go.Sh
set_option maxHeartbeats 8000000
set_option maxRecDepth 100000
theorem quj (g : List Int) (l : List Bool) (r : List qe) (n : qcf g l = some r) : Pure Tryz.prog tab 94 [.sl 1 (g.map (eI .i64)),.sl 1 (l.map eB)] (.sl 2 (r.map qo)):=by
 unfold qcf at n
 refine qn Tryz.func94 ee (by kernel_rfl) (by kernel_rfl) ee<|sr_<|as_ ee<|qs<|as_ ee<|q0<|qa<|sr_<|as_ ee<|q0 ?_
 obtain ⟨s,aj,n⟩:=q6 n
 refine qp (fun h=>h = s) (fun (h : List qe)=>⟨[(5,.hs 0 2 0 h.length)],[(0,.dat 2 (h.map qo))],1⟩) (by simp) ?_ ?_
 ·refine qt (q95 g l) (fun (b : Int × List qe)=>⟨[(0,.d (.sl 1 (g.map (eI .i64)))),(1,.d (.sl 1 (l.map eB))),(5,.hs 0 2 0 b.2.length),(6,di_ b.1)],[(0,.dat 2 (b.2.map qo))],1⟩) (0,[]) s aj (wkA [] [] [0]) ?_
  intro b av f
  unfold q95 at f
  refine qa<|sr_<|mv_ ee<|v_ (.d (i_ (w64 (b.1 + 1)))) ee<|mv_ ee<|ln_ ee<|v_ (.d (.bool (decide ((w64 (b.1 + 1)) < (g.length : Int))))) ee<|q0 ?_
  refine qg ee f (fun _ f=>?_) (fun _ f=>?_)
  ·refine qh<|qa ?_
   obtain ⟨ak,a,f⟩:=q6 f
   refine qp (fun m=>m = ak) (fun (m : List qe)=>⟨[(0,.d (.sl 1 (g.map (eI .i64)))),(1,.d (.sl 1 (l.map eB))),(5,.hs 0 2 0 m.length),(6,di_ b.1)],[(0,.dat 2 (m.map qo))],1⟩) (by simp) ?_ ?_
   ·refine qa<|sr_<|mv_ ee<|mv_ ee ?_
    obtain ⟨t,al,a⟩:=q6 a
    refine ix_ (enc:=eB) al ee<|v_ (db_ t) ee<|v_ (db_ (!t)) ee<|q0 ?_
    refine qg ee a (fun _ a=>?_) (fun _ a=>?_)
    ·refine qv ?_
     obtain rfl:=q9 a
     exact ⟨_,ee,wkA [(0,0)] [] []⟩
    refine qh<|sr_<|mv_ ee<|v_ (di_ (b.2.length : Int)) ee<|as_ ee<|q0<|qa<|qm [(some [],[]),(some [],[]),(some [],[]),(some [],[]),(some [],[]),(some [],[]),(some [0],[]),(some [],[]),(some [],[]),(some [],[]),(some [],[]),(some [],[]),(some [],[]),(some [],[]),(some [],[])] (by kernel_rfl)<|mv_ ee<|v_ (.d (.bool (decide ((b.2.length : Int) > 0)))) ee ?_
    obtain ⟨am,c,a⟩:=q6 a
    refine qq 13 (fun A st=>∃ (u w x y z aa ab ac ad ae af ag : V),st = A [(36,db_ am),(35,ag),(34,af),(33,ae),(32,ad),(31,ac),(30,ab),(29,aa),(28,z),(27,y),(26,x),(25,w),(24,u)]) ?_ ?_
    ·refine qu ee ee c (fun c=>?_) (fun c=>?_)
     ·refine mv_ ee<|mv_ ee<|v_ (.d (i_ (w64 ((b.2.length : Int) - 1)))) ee ?_
      obtain ⟨o,ah,c⟩:=q6 c
      refine ih_ ah ee ee<|v_ (.ref 0 2 (w64 ((b.2.length : Int) - 1)).toNat 1) ee<|lh_ (di_ o.Hi) ah ee<|mv_ ee<|mv_ ee ?_
      obtain ⟨p,an,c⟩:=q6 c
      refine ix_ (enc:=(eI .i64)) an ee<|v_ (di_ p) ee<|v_ (db_ (o.Hi == p)) ee<|v_ (db_ (o.Hi == p)) ee<|q0 ?_
      obtain rfl:=q9 c
      exact ⟨_,_,_,_,_,_,_,_,_,_,_,_,ee⟩
     refine q7 ee<|q7 ee<|q7 ee<|q7 ee<|q7 ee<|q7 ee<|q7 ee<|q7 ee<|q7 ee<|q7 ee<|q7 ee<|v_ (db_ false) ee<|q0 ?_
     obtain rfl:=q9 c
     exact ⟨_,_,_,_,_,_,_,_,_,_,_,_,ee⟩
    rintro _ ⟨u,w,x,y,z,aa,ab,ac,ad,ae,af,ag,rfl⟩
    refine q0 ?_
    refine qg ee a (fun _ a=>?_) (fun _ a=>?_)
    ·refine qi<|mv_ ee<|mv_ ee<|v_ (.d (i_ (w64 ((b.2.length : Int) - 1)))) ee<|mv_ ee<|mv_ ee<|v_ (.d (i_ (w64 (b.1 + 1)))) ee ?_
     obtain ⟨q,ao,a⟩:=q6 a
     refine ix_ (enc:=(eI .i64)) ao ee<|v_ (di_ q) ee ?_
     obtain ⟨ap,ai,a⟩:=q6 a
     refine ih_ ai ee ee<|v_ (.ref 0 2 (w64 ((b.2.length : Int) - 1)).toNat 1) ee<|q18 (ds:=[i_ q]) ({Lo:=ap.Lo,Hi:=q} : qe) ai ee ee ee ee ee ee ee ee (leb ee) ee<|nl_ ?_
     obtain rfl:=q9 a
     exact ⟨_,ee,wkE [(0,0)] [] [] ee ⟨⟨_,ee,.d (.refl _)⟩,⟨_,ee,.d (.refl _)⟩,⟨_,ee,q16 (by simp) ee (by decide) (ltd ee)⟩,⟨_,ee,.d (.refl _)⟩,trivial⟩ ⟨⟨ltd ee,.inr ⟨by decide,_,ee,.dat _ _⟩⟩,trivial⟩⟩
    refine qm [(some [],[]),(some [0,1],[0,2]),(some [],[1]),(some [],[]),(some [],[]),(some [],[]),(some [],[]),(some [],[]),(some [],[]),(some [],[]),(some [],[]),(some [],[]),(some [],[]),(some [],[])] (by kernel_rfl)<|mv_ ee<|mv_ ee<|mv_ ee ?_
    obtain ⟨j,aq,a⟩:=q6 a
    refine ix_ (enc:=(eI .i64)) aq ee<|v_ (di_ j) ee<|mv_ ee<|mv_ ee<|v_ (.d (i_ (w64 (b.1 + 1)))) ee ?_
    obtain ⟨k,ar,a⟩:=q6 a
    refine ix_ (enc:=(eI .i64)) ar ee<|v_ (di_ k) ee<|v_ (.d (.agg [i_ j,i_ k])) ee<|q20 (.hs 1 2 0 [({Lo:=j,Hi:=k} : qe)].length) (.dat 2 ([({Lo:=j,Hi:=k} : qe)].map qo)) ee ?_
    obtain ⟨aw,au,a⟩:=q6 a
    refine q7c (xs:=b.2) (ys:=[({Lo:=j,Hi:=k} : qe)]) (enc:=qo) (.hs 1 2 0 [({Lo:=j,Hi:=k} : qe)].length) au ee ee ee ee ee ee ee (q4w ee ee) ee ee ee ee<|as_ ee<|nl_ ?_
    obtain rfl:=q9 a
    exact ⟨_,ee,wkA [(0,2)] [] []⟩
   intro m hb
   subst hb
   refine qi<|mv_ ee<|v_ (.d (i_ (w64 (b.1 + 1)))) ee<|as_ ee<|nl_ ?_
   exact ⟨_,(Option.some.inj f).symm,wkA [(0,0)] [] []⟩
  refine qv ?_
  refine ⟨_,(Option.some.inj f).symm,fun hm=>?_⟩
  subst hm
  exact ⟨_,ee,wkA [(0,0)] [] []⟩
 intro h hb
 subst hb
 refine sr_<|mv_ ee<|as_ ee<|nt_ ?_
 obtain rfl:=q9 n
 exact finD (.inr ee) (v:=.hs 0 2 0 h.length) ee (qc1 ee ee) (.refl _)
theorem qw1 (c : List qe) (f : List qe) (r : Bool) (b : qf6 c f = some r) : Pure Tryz.prog tab 95 [.sl 2 (c.map qo),.sl 2 (f.map qo)] (.bool r):=by
 unfold qf6 at b
 refine qn Tryz.func95 ee (by kernel_rfl) (by kernel_rfl) ee<|sr_<|as_ ee<|q0<|qa<|sr_<|mv_ ee<|ln_ ee<|mv_ ee<|ln_ ee<|v_ (.d (.bool ((c.length : Int) != (f.length : Int)))) ee<|q0 ?_
 refine qg ee b (fun _ b=>?_) (fun _ b=>?_)
 ·refine sr_<|as_ ee<|nt_ ?_
  obtain rfl:=q9 b
  exact fR_ (db_ false) ee
 refine qh<|qa<|sr_<|as_ ee<|q0 ?_
 obtain ⟨l,m,b⟩:=q6 b
 refine qp (fun k=>.inl k = l) (fun (k : Unit)=>⟨[],[],0⟩) (by simp) ?_ ?_
 ·refine qt (qfj c f) (fun (g : Int)=>⟨[(0,.d (.sl 2 (c.map qo))),(1,.d (.sl 2 (f.map qo))),(5,di_ g)],[],0⟩) 0 l m (wkA [] [] []) ?_
  intro g p a
  unfold qfj at a
  refine qa<|sr_<|mv_ ee<|mv_ ee<|ln_ ee<|v_ (.d (.bool (decide (g < (c.length : Int))))) ee<|q0 ?_
  refine qg ee a (fun _ a=>?_) (fun _ a=>?_)
  ·refine qh<|qa<|ql<|qa<|qm [(some [],[]),(some [],[]),(some [],[]),(some [],[]),(some [],[]),(some [],[]),(some [],[]),(some [],[]),(some [],[])] (by kernel_rfl)<|mv_ ee<|mv_ ee ?_
   obtain ⟨h,n,a⟩:=q6 a
   refine ix_ (enc:=qo) n ee<|v_ (.d (.agg [i_ h.Lo,i_ h.Hi])) ee<|mv_ ee<|mv_ ee ?_
   obtain ⟨j,o,a⟩:=q6 a
   refine ix_ (enc:=qo) o ee<|v_ (.d (.agg [i_ j.Lo,i_ j.Hi])) ee<|v_ (.d (.bool (!((h.Lo == j.Lo) && ((h.Hi == j.Hi) && true))))) ee<|q0 ?_
   refine qg ee a (fun _ a=>?_) (fun _ a=>?_)
   ·refine sr_<|as_ ee<|nt_ ?_
    refine ⟨_,(Option.some.inj a).symm,fun hm=>?_⟩
    subst hm
    obtain rfl:=q9 b
    exact fR_ (db_ false) ee
   refine qh<|qz<|qw<|qi<|mv_ ee<|v_ (.d (i_ (w64 (g + 1)))) ee<|as_ ee<|nl_ ?_
   exact ⟨_,(Option.some.inj a).symm,wkA [] [] []⟩
  refine qv ?_
  refine ⟨_,(Option.some.inj a).symm,fun hm=>?_⟩
  subst hm
  exact ⟨_,ee,wkA [] [] []⟩
 intro k hb
 subst hb
 refine sr_<|as_ ee<|nt_ ?_
 obtain rfl:=q9 b
 exact fR_ (db_ true) ee
theorem qdo (k : Int) (f : List qb) (g : List qb) (r : List qb) (o : q64 k f g = some r) : Pure Tryz.prog tab 67 [i_ k,.sl 4 (f.map qd),.sl 4 (g.map qd)] (.sl 4 (r.map qd)):=by
 unfold q64 at o
 refine qn Tryz.func67 ee (by kernel_rfl) (by kernel_rfl) ee<|sr_<|as_ ee<|qs<|mv_ ee<|mv_ ee ?_
 obtain ⟨j,h2,o⟩:=q6 o
 refine pc_ (qzy f g j h2) ee<|mv_ ee<|mv_ ee ?_
 obtain ⟨l,h4,o⟩:=q6 o
 refine pc_ (q100 f g l h4) ee<|as_ ee<|as_ ee<|qs<|as_ ee<|qs<|as_ ee<|qs<|as_ ee<|q0<|qa<|sr_<|as_ ee<|q0 ?_
 obtain ⟨ah,ba,o⟩:=q6 o
 refine qp (fun z=>z = ah) (fun (z : List qb)=>⟨[(9,.hs 0 4 0 z.length)],[(0,.dat 4 (z.map qd))],1⟩) (by simp) ?_ ?_
 ·refine qt (q7l j l f g k) (fun (a : List qe × Int × Int × List qb)=>⟨[(0,di_ k),(1,.d (.sl 4 (f.map qd))),(2,.d (.sl 4 (g.map qd))),(7,.d (.sl 1 (j.map (eI .i64)))),(8,.d (.sl 1 (l.map (eI .i64)))),(9,.hs 0 4 0 a.2.2.2.length),(10,.d (.sl 2 (a.1.map qo))),(11,di_ a.2.1),(12,di_ a.2.2.1)],[(0,.dat 4 (a.2.2.2.map qd))],1⟩) ([],0,0,[]) ah ba (wkA [] [] [0]) ?_
  intro a bz p
  unfold q7l at p
  refine qa<|sr_<|mv_ ee<|v_ (.d (i_ (w64 (a.2.2.1 + 1)))) ee<|mv_ ee<|ln_ ee<|v_ (.d (.bool (decide ((w64 (a.2.2.1 + 1)) < (j.length : Int))))) ee<|q0 ?_
  refine qg ee p (fun _ p=>?_) (fun _ p=>?_)
  ·refine qh<|qa ?_
   obtain ⟨bb,h,p⟩:=q6 p
   refine qp (fun t=>t = bb) (fun (t : List qe × Int × List qb)=>⟨[(0,di_ k),(1,.d (.sl 4 (f.map qd))),(2,.d (.sl 4 (g.map qd))),(7,.d (.sl 1 (j.map (eI .i64)))),(8,.d (.sl 1 (l.map (eI .i64)))),(9,.hs 0 4 0 t.2.2.length),(10,.d (.sl 2 (t.1.map qo))),(11,di_ t.2.1),(12,di_ a.2.2.1)],[(0,.dat 4 (t.2.2.map qd))],1⟩) (by simp) ?_ ?_
   ·refine sr_<|as_ ee<|q0<|qa<|sr_<|as_ ee<|q0 ?_
    obtain ⟨ai,bc,h⟩:=q6 h
    refine qp (fun u=>u = ai) (fun (u : List Bool)=>⟨[(0,di_ k),(1,.d (.sl 4 (f.map qd))),(2,.d (.sl 4 (g.map qd))),(7,.d (.sl 1 (j.map (eI .i64)))),(8,.d (.sl 1 (l.map (eI .i64)))),(9,.hs 0 4 0 a.2.2.2.length),(10,.d (.sl 2 (a.1.map qo))),(11,di_ a.2.1),(12,di_ a.2.2.1),(13,.hs 1 1 0 u.length)],[(0,.dat 4 (a.2.2.2.map qd)),(1,.dat 1 (u.map eB))],2⟩) (by simp) ?_ ?_
    ·refine qt (q8b l j a f g k) (fun (w : Int × List Bool)=>⟨[(0,di_ k),(1,.d (.sl 4 (f.map qd))),(2,.d (.sl 4 (g.map qd))),(7,.d (.sl 1 (j.map (eI .i64)))),(8,.d (.sl 1 (l.map (eI .i64)))),(9,.hs 0 4 0 a.2.2.2.length),(10,.d (.sl 2 (a.1.map qo))),(11,di_ a.2.1),(12,di_ a.2.2.1),(13,.hs 1 1 0 w.2.length),(14,di_ w.1)],[(0,.dat 4 (a.2.2.2.map qd)),(1,.dat 1 (w.2.map eB))],2⟩) (0,[]) ai bc (wkA [(0,0)] [] [1]) ?_
     intro w ca b
     unfold q8b at b
     refine qa<|sr_<|mv_ ee<|mv_ ee<|ln_ ee<|v_ (.d (.bool (decide (w.1 < (l.length : Int))))) ee<|q0 ?_
     refine qg ee b (fun _ b=>?_) (fun _ b=>?_)
     ·refine qh<|qa<|ql<|qm [(some [],[]),(some [1,2],[1,3]),(some [],[2]),(some [],[]),(some [],[]),(some [],[]),(some [],[]),(some [],[]),(some [],[]),(some [],[]),(some [],[]),(some [],[]),(some [],[]),(some [],[]),(some [],[]),(some [],[]),(some [],[]),(some [],[]),(some [],[]),(some [],[]),(some [],[]),(some [],[]),(some [],[]),(some [],[]),(some [],[]),(some [],[])] (by kernel_rfl)<|mv_ ee<|mv_ ee<|mv_ ee<|mv_ ee<|mv_ ee ?_
      obtain ⟨aj,bd,b⟩:=q6 b
      refine ix_ (enc:=(eI .i64)) bd ee<|v_ (di_ aj) ee<|mv_ ee<|mv_ ee ?_
      obtain ⟨ak,be,b⟩:=q6 b
      refine ix_ (enc:=(eI .i64)) be ee<|v_ (di_ ak) ee ?_
      obtain ⟨al,bf,b⟩:=q6 b
      refine pc_ (qjk f aj ak al bf) ee<|mv_ ee<|mv_ ee<|mv_ ee ?_
      obtain ⟨am,bg,b⟩:=q6 b
      refine ix_ (enc:=(eI .i64)) bg ee<|v_ (di_ am) ee<|mv_ ee<|mv_ ee ?_
      obtain ⟨an,bh,b⟩:=q6 b
      refine ix_ (enc:=(eI .i64)) bh ee<|v_ (di_ an) ee ?_
      obtain ⟨ao,bi,b⟩:=q6 b
      refine pc_ (qjk g am an ao bi) ee ?_
      obtain ⟨ad,bj,b⟩:=q6 b
      refine pc_ (quk k al ao ad bj) ee<|q20 (.hs 2 1 0 [ad].length) (.dat 1 ([ad].map eB)) ee ?_
      obtain ⟨cb,bk,b⟩:=q6 b
      refine q7c (xs:=w.2) (ys:=[ad]) (enc:=eB) (.hs 2 1 0 [ad].length) bk ee ee ee ee ee ee ee (q4w ee ee) ee ee ee ee<|as_ ee<|nl_<|qw<|qi<|mv_ ee<|v_ (.d (i_ (w64 (w.1 + 1)))) ee<|as_ ee<|nl_ ?_
      exact ⟨_,(Option.some.inj b).symm,wkA [(0,0),(1,3)] [] []⟩
     refine qv ?_
     refine ⟨_,(Option.some.inj b).symm,fun hm=>?_⟩
     subst hm
     exact ⟨_,ee,wkA [(0,0),(1,1)] [] []⟩
    intro u hb
    subst hb
    refine qa ?_
    refine qad (st':=⟨[(0,di_ k),(1,.d (.sl 4 (f.map qd))),(2,.d (.sl 4 (g.map qd))),(7,.d (.sl 1 (j.map (eI .i64)))),(8,.d (.sl 1 (l.map (eI .i64)))),(9,.hs 0 4 0 a.2.2.2.length),(10,.d (.sl 2 (a.1.map qo))),(11,di_ a.2.1),(12,di_ a.2.2.1),(13,.d (.sl 1 (u.map eB)))],[(0,.dat 4 (a.2.2.2.map qd))],1⟩) (wkA [(0,0)] [1] []) ?_ (by simp)
    refine qi<|mv_ ee<|mv_ ee ?_
    obtain ⟨aa,bl,h⟩:=q6 h
    refine pc_ (quj l u aa bl) ee<|as_ ee<|q0<|qa<|sr_<|mv_ ee<|v_ (.d (.bool (decide (a.2.2.1 > 0)))) ee ?_
    obtain ⟨bm,x,h⟩:=q6 h
    refine qq 5 (fun A st=>∃ (ap aq ar au : V),st = A [(71,db_ bm),(70,au),(69,ar),(68,aq),(67,ap)]) ?_ ?_
    ·refine qu ee ee x (fun x=>?_) (fun x=>?_)
     ·refine mv_ ee<|mv_ ee ?_
      obtain ⟨av,bn,x⟩:=q6 x
      refine pc_ (qw1 aa a.1 av bn) ee<|v_ (db_ av) ee<|q0 ?_
      obtain rfl:=q9 x
      exact ⟨_,_,_,_,ee⟩
     refine q7 ee<|q7 ee<|q7 ee<|v_ (db_ false) ee<|q0 ?_
     obtain rfl:=q9 x
     exact ⟨_,_,_,_,ee⟩
    rintro _ ⟨ap,aq,ar,au,rfl⟩
    refine q0 ?_
    refine qg ee h (fun _ h=>?_) (fun _ h=>?_)
    ·refine qa<|sr_<|mv_ ee<|as_ ee<|q0 ?_
     obtain ⟨aw,bo,h⟩:=q6 h
     refine qp (fun ae=>ae = aw) (fun (ae : List qb)=>⟨[(0,di_ k),(1,.d (.sl 4 (f.map qd))),(2,.d (.sl 4 (g.map qd))),(7,.d (.sl 1 (j.map (eI .i64)))),(8,.d (.sl 1 (l.map (eI .i64)))),(9,.hs 0 4 0 ae.length),(10,.d (.sl 2 (a.1.map qo))),(11,di_ a.2.1),(12,di_ a.2.2.1)],[(0,.dat 4 (ae.map qd))],1⟩) (by simp) ?_ ?_
     ·refine qt (q8c j a) (fun (n : Int × List qb)=>⟨[(0,di_ k),(1,.d (.sl 4 (f.map qd))),(2,.d (.sl 4 (g.map qd))),(7,.d (.sl 1 (j.map (eI .i64)))),(8,.d (.sl 1 (l.map (eI .i64)))),(9,.hs 0 4 0 n.2.length),(10,.d (.sl 2 (a.1.map qo))),(11,di_ a.2.1),(12,di_ a.2.2.1),(16,di_ n.1)],[(0,.dat 4 (n.2.map qd))],1⟩) (a.2.1,a.2.2.2) aw bo (wkA [(0,0)] [] []) ?_
      intro n cc m
      unfold q8c at m
      refine qa<|sr_<|mv_ ee<|mv_ ee<|v_ (di_ (n.2.length : Int)) ee<|v_ (.d (.bool (decide (n.1 < (n.2.length : Int))))) ee<|q0 ?_
      refine qg ee m (fun _ m=>?_) (fun _ m=>?_)
      ·refine qh<|qa<|ql<|qi<|mv_ ee<|mv_ ee<|mv_ ee<|mv_ ee<|v_ (.d (i_ (w64 (a.2.2.1 + 1)))) ee ?_
       obtain ⟨af,bp,m⟩:=q6 m
       refine ix_ (enc:=(eI .i64)) bp ee<|v_ (di_ af) ee ?_
       obtain ⟨ag,ax,m⟩:=q6 m
       refine ih_ ax ee ee<|v_ (.ref 0 4 n.1.toNat 2) ee<|q18 (ds:=[i_ af]) ({X0:=ag.X0,Y0:=ag.Y0,X1:=af,Y1:=ag.Y1} : qb) ax ee ee ee ee ee ee ee ee (leb ee) ee<|nl_<|qw<|qi<|mv_ ee<|v_ (.d (i_ (w64 (n.1 + 1)))) ee<|as_ ee<|nl_ ?_
       exact ⟨_,(Option.some.inj m).symm,wkE [(0,0)] [] [] ee ⟨⟨_,ee,.d (.refl _)⟩,⟨_,ee,.d (.refl _)⟩,⟨_,ee,.d (.refl _)⟩,⟨_,ee,.d (.refl _)⟩,⟨_,ee,.d (.refl _)⟩,⟨_,ee,q16 (by simp) ee (by decide) (ltd ee)⟩,⟨_,ee,.d (.refl _)⟩,⟨_,ee,.d (.refl _)⟩,⟨_,ee,.d (.refl _)⟩,⟨_,ee,.d (.refl _)⟩,trivial⟩ ⟨⟨ltd ee,.inr ⟨by decide,_,ee,.dat _ _⟩⟩,trivial⟩⟩
      refine qv ?_
      refine ⟨_,(Option.some.inj m).symm,fun hm=>?_⟩
      subst hm
      exact ⟨_,ee,wkA [(0,0)] [] []⟩
     intro ae hb
     subst hb
     refine qv ?_
     obtain rfl:=q9 h
     exact ⟨_,ee,wkA [(0,0)] [] []⟩
    refine qh<|sr_<|mv_ ee<|v_ (di_ (a.2.2.2.length : Int)) ee<|mv_ ee<|as_ ee<|as_ ee<|qs<|as_ ee<|q0 ?_
    obtain ⟨bq,br,h⟩:=q6 h
    refine ql<|qt (q9h aa j a) (fun (y : Int × List qb)=>⟨[(0,di_ k),(1,.d (.sl 4 (f.map qd))),(2,.d (.sl 4 (g.map qd))),(7,.d (.sl 1 (j.map (eI .i64)))),(8,.d (.sl 1 (l.map (eI .i64)))),(9,.hs 0 4 0 y.2.length),(10,.d (.sl 2 (aa.map qo))),(11,di_ (a.2.2.2.length : Int)),(12,di_ a.2.2.1),(15,.d (.sl 2 (aa.map qo))),(17,di_ y.1)],[(0,.dat 4 (y.2.map qd))],1⟩) (0,a.2.2.2) bq br (wkA [(0,0)] [] []) ?_
    intro y cd c
    unfold q9h at c
    refine qa<|sr_<|mv_ ee<|mv_ ee<|ln_ ee<|v_ (.d (.bool (decide (y.1 < (aa.length : Int))))) ee<|q0 ?_
    refine qg ee c (fun _ c=>?_) (fun _ c=>?_)
    ·refine qh<|qa<|ql<|qm [(some [],[]),(some [0,1],[0,2]),(some [],[1]),(some [],[]),(some [],[]),(some [],[]),(some [],[]),(some [],[]),(some [],[]),(some [],[]),(some [],[]),(some [],[]),(some [],[]),(some [],[]),(some [],[]),(some [],[]),(some [],[]),(some [],[]),(some [],[]),(some [],[]),(some [],[]),(some [],[]),(some [],[]),(some [],[])] (by kernel_rfl)<|mv_ ee<|mv_ ee<|mv_ ee ?_
     obtain ⟨ab,bs,c⟩:=q6 c
     refine ix_ (enc:=(eI .i64)) bs ee<|v_ (di_ ab) ee<|mv_ ee<|mv_ ee ?_
     obtain ⟨q,bt,c⟩:=q6 c
     refine ix_ (enc:=qo) bt ee<|v_ (.dref [i_ q.Lo,i_ q.Hi] 0) ee<|v_ (di_ q.Lo) ee<|mv_ ee<|mv_ ee<|v_ (.d (i_ (w64 (a.2.2.1 + 1)))) ee ?_
     obtain ⟨ac,bu,c⟩:=q6 c
     refine ix_ (enc:=(eI .i64)) bu ee<|v_ (di_ ac) ee<|mv_ ee<|mv_ ee ?_
     obtain ⟨s,bv,c⟩:=q6 c
     refine ix_ (enc:=qo) bv ee<|v_ (.dref [i_ s.Lo,i_ s.Hi] 1) ee<|v_ (di_ s.Hi) ee<|v_ (.d (.agg [i_ ab,i_ q.Lo,i_ ac,i_ s.Hi])) ee<|q20 (.hs 1 4 0 [({X0:=ab,Y0:=q.Lo,X1:=ac,Y1:=s.Hi} : qb)].length) (.dat 4 ([({X0:=ab,Y0:=q.Lo,X1:=ac,Y1:=s.Hi} : qb)].map qd)) ee ?_
     obtain ⟨ce,bw,c⟩:=q6 c
     refine q7c (xs:=y.2) (ys:=[({X0:=ab,Y0:=q.Lo,X1:=ac,Y1:=s.Hi} : qb)]) (enc:=qd) (.hs 1 4 0 [({X0:=ab,Y0:=q.Lo,X1:=ac,Y1:=s.Hi} : qb)].length) bw ee ee ee ee ee ee ee (q4w ee ee) ee ee ee ee<|as_ ee<|nl_<|qw<|qi<|mv_ ee<|v_ (.d (i_ (w64 (y.1 + 1)))) ee<|as_ ee<|nl_ ?_
     exact ⟨_,(Option.some.inj c).symm,wkA [(0,2)] [] []⟩
    refine qv ?_
    refine ⟨_,(Option.some.inj c).symm,fun hm=>?_⟩
    subst hm
    obtain rfl:=q9 h
    exact ⟨_,ee,wkA [(0,0)] [] []⟩
   intro t hb
   subst hb
   refine qi<|mv_ ee<|v_ (.d (i_ (w64 (a.2.2.1 + 1)))) ee<|as_ ee<|nl_ ?_
   exact ⟨_,(Option.some.inj p).symm,wkA [(0,0)] [] []⟩
  refine qv ?_
  refine ⟨_,(Option.some.inj p).symm,fun hm=>?_⟩
  subst hm
  exact ⟨_,ee,wkA [(0,0)] [] []⟩
 intro z hb
 subst hb
 refine sr_<|mv_ ee<|as_ ee<|nt_ ?_
 obtain rfl:=q9 o
 exact finD (.inr ee) (v:=.hs 0 4 0 z.length) ee (qc1 ee ee) (.refl _)
theorem qgx (g : List qb) (h : List qb) (r : Bool) (b : q8e g h = some r) : Pure Tryz.prog tab 36 [.sl 4 (g.map qd),.sl 4 (h.map qd)] (.bool r):=by
 unfold q8e at b
 refine qn Tryz.func36 ee (by kernel_rfl) (by kernel_rfl) ee<|sr_<|as_ ee<|q0<|qa<|sr_<|mv_ ee<|ln_ ee<|mv_ ee<|ln_ ee<|v_ (.d (.bool ((g.length : Int) != (h.length : Int)))) ee<|q0 ?_
 refine qg ee b (fun _ b=>?_) (fun _ b=>?_)
 ·refine sr_<|as_ ee<|nt_ ?_
  obtain rfl:=q9 b
  exact fR_ (db_ false) ee
 refine qh<|qa<|sr_<|as_ ee<|q0 ?_
 obtain ⟨l,m,b⟩:=q6 b
 refine qp (fun k=>.inl k = l) (fun (k : Unit)=>⟨[],[],0⟩) (by simp) ?_ ?_
 ·refine qt (qaw g h) (fun (j : Int)=>⟨[(0,.d (.sl 4 (g.map qd))),(1,.d (.sl 4 (h.map qd))),(5,di_ j)],[],0⟩) 0 l m (wkA [] [] []) ?_
  intro j p a
  unfold qaw at a
  refine qa<|sr_<|mv_ ee<|mv_ ee<|ln_ ee<|v_ (.d (.bool (decide (j < (g.length : Int))))) ee<|q0 ?_
  refine qg ee a (fun _ a=>?_) (fun _ a=>?_)
  ·refine qh<|qa<|ql<|qa<|qm [(some [],[]),(some [],[]),(some [],[]),(some [],[]),(some [],[]),(some [],[]),(some [],[]),(some [],[]),(some [],[])] (by kernel_rfl)<|mv_ ee<|mv_ ee ?_
   obtain ⟨c,n,a⟩:=q6 a
   refine ix_ (enc:=qd) n ee<|v_ (.d (.agg [i_ c.X0,i_ c.Y0,i_ c.X1,i_ c.Y1])) ee<|mv_ ee<|mv_ ee ?_
   obtain ⟨f,o,a⟩:=q6 a
   refine ix_ (enc:=qd) o ee<|v_ (.d (.agg [i_ f.X0,i_ f.Y0,i_ f.X1,i_ f.Y1])) ee<|v_ (.d (.bool (!((c.X0 == f.X0) && ((c.Y0 == f.Y0) && ((c.X1 == f.X1) && ((c.Y1 == f.Y1) && true))))))) ee<|q0 ?_
   refine qg ee a (fun _ a=>?_) (fun _ a=>?_)
   ·refine sr_<|as_ ee<|nt_ ?_
    refine ⟨_,(Option.some.inj a).symm,fun hm=>?_⟩
    subst hm
    obtain rfl:=q9 b
    exact fR_ (db_ false) ee
   refine qh<|qz<|qw<|qi<|mv_ ee<|v_ (.d (i_ (w64 (j + 1)))) ee<|as_ ee<|nl_ ?_
   exact ⟨_,(Option.some.inj a).symm,wkA [] [] []⟩
  refine qv ?_
  refine ⟨_,(Option.some.inj a).symm,fun hm=>?_⟩
  subst hm
  exact ⟨_,ee,wkA [] [] []⟩
 intro k hb
 subst hb
 refine sr_<|as_ ee<|nt_ ?_
 obtain rfl:=q9 b
 exact fR_ (db_ true) ee
theorem qk2 (s : Int) (f : List q8) (g : List q8) (r : List q8 × Bool) (w : q9u s f g = some r) : Pure Tryz.prog tab 55 [i_ s,.sl 6 (f.map qf),.sl 6 (g.map qf)] (.tup [.sl 6 (r.1.map qf),.bool r.2]):=by
 unfold q9u at w
 refine qn Tryz.func55 ee (by kernel_rfl) (by kernel_rfl) ee<|sr_<|as_ ee<|as_ ee<|qs<|mv_ ee<|mv_ ee ?_
 obtain ⟨o,h2,w⟩:=q6 w
 refine pc_ (qw5 f g o h2) ee<|as_ ee<|qs<|as_ ee<|qs<|as_ ee<|qs<|as_ ee<|q0<|qa<|sr_<|as_ ee<|q0 ?_
 obtain ⟨ai,bv,w⟩:=q6 w
 refine qp (fun t=>.inl t = ai) (fun (t : List q8)=>⟨[(9,.hs 0 6 0 t.length)],[(0,.dat 6 (t.map qf))],1⟩) (by simp) ?_ ?_
 ·refine qt (q6q o f g s) (fun (b : List qb × Int × Int × List q8)=>⟨[(0,di_ s),(1,.d (.sl 6 (f.map qf))),(2,.d (.sl 6 (g.map qf))),(8,.d (.sl 1 (o.map (eI .i64)))),(9,.hs 0 6 0 b.2.2.2.length),(10,.d (.sl 4 (b.1.map qd))),(11,di_ b.2.1),(12,di_ b.2.2.1)],[(0,.dat 6 (b.2.2.2.map qf))],1⟩) ([],0,0,[]) ai bv (wkA [] [] [0]) ?_
  intro b cz u
  unfold q6q at u
  refine qa<|sr_<|mv_ ee<|v_ (.d (i_ (w64 (b.2.2.1 + 1)))) ee<|mv_ ee<|ln_ ee<|v_ (.d (.bool (decide ((w64 (b.2.2.1 + 1)) < (o.length : Int))))) ee<|q0 ?_
  refine qg ee u (fun _ u=>?_) (fun _ u=>?_)
  ·refine qh<|qa ?_
   obtain ⟨bw,a,u⟩:=q6 u
   refine qp (fun x=>.inl x = bw) (fun (x : List qb × Int × List q8)=>⟨[(0,di_ s),(1,.d (.sl 6 (f.map qf))),(2,.d (.sl 6 (g.map qf))),(8,.d (.sl 1 (o.map (eI .i64)))),(9,.hs 0 6 0 x.2.2.length),(10,.d (.sl 4 (x.1.map qd))),(11,di_ x.2.1),(12,di_ b.2.2.1)],[(0,.dat 6 (x.2.2.map qf))],1⟩) (by simp) ?_ ?_
   ·refine qa<|qm [(some [],[]),(some [],[]),(some [],[]),(some [],[]),(some [],[]),(some [],[]),(some [],[]),(some [],[]),(some [],[]),(some [],[]),(some [],[]),(some [],[]),(some [],[]),(some [],[]),(some [],[])] (by kernel_rfl)<|mv_ ee<|mv_ ee<|mv_ ee<|mv_ ee ?_
    obtain ⟨aj,bz,a⟩:=q6 a
    refine ix_ (enc:=(eI .i64)) bz ee<|v_ (di_ aj) ee ?_
    obtain ⟨ak,ca,a⟩:=q6 a
    refine pc_ (qhp f aj ak ca) ee<|mv_ ee<|mv_ ee<|mv_ ee ?_
    obtain ⟨al,cb,a⟩:=q6 a
    refine ix_ (enc:=(eI .i64)) cb ee<|v_ (di_ al) ee ?_
    obtain ⟨am,cc,a⟩:=q6 a
    refine pc_ (qhp g al am cc) ee ?_
    obtain ⟨y,cd,a⟩:=q6 a
    refine pc_ (qdo s ak am y cd) ee<|as_ ee<|q0<|qa<|sr_<|mv_ ee<|ln_ ee<|v_ (.d (.bool (decide ((y.length : Int) > 400)))) ee ?_
    obtain ⟨ce,h,a⟩:=q6 a
    refine qq 11 (fun A st=>∃ (an ao ap aq ar au av aw ax ay : V),st = A [(53,db_ ce),(52,ay),(51,ax),(50,aw),(49,av),(48,au),(47,ar),(46,aq),(45,ap),(44,ao),(43,an)]) ?_ ?_
    ·refine qu ee ee h (fun h=>?_) (fun h=>?_)
     ·refine q7 ee<|q7 ee<|q7 ee<|q7 ee<|q7 ee<|q7 ee<|q7 ee<|q7 ee<|q7 ee<|v_ (db_ true) ee<|q0 ?_
      obtain rfl:=q9 h
      exact ⟨_,_,_,_,_,_,_,_,_,_,ee⟩
     refine mv_ ee<|mv_ ee<|mv_ ee ?_
     obtain ⟨az,cf,h⟩:=q6 h
     refine ix_ (enc:=(eI .i64)) cf ee<|v_ (di_ az) ee ?_
     obtain ⟨ba,cg,h⟩:=q6 h
     refine pc_ (qhp f az ba cg) ee ?_
     obtain ⟨ae,ch,h⟩:=q6 h
     refine pc_ (qf5 (.cons (.refl _) (.cons (.refl _) (.cons (.nil _) .nil))) (qdo 2 ba [] ae ch)) ee<|ln_ ee<|v_ (.d (.bool (decide ((ae.length : Int) > 400)))) ee<|v_ (.d (.bool (decide ((ae.length : Int) > 400)))) ee<|q0 ?_
     obtain rfl:=q9 h
     exact ⟨_,_,_,_,_,_,_,_,_,_,ee⟩
    rintro _ ⟨an,ao,ap,aq,ar,au,av,aw,ax,ay,rfl⟩
    obtain ⟨ci,j,a⟩:=q6 a
    refine qq 11 (fun A st=>∃ (bb bc bd be bf bg bh bi bj bk : V),st = A [(64,db_ ci),(63,bk),(62,bj),(61,bi),(60,bh),(59,bg),(58,bf),(57,be),(56,bd),(55,bc),(54,bb)]) ?_ ?_
    ·refine qu ee ee j (fun j=>?_) (fun j=>?_)
     ·refine q7 ee<|q7 ee<|q7 ee<|q7 ee<|q7 ee<|q7 ee<|q7 ee<|q7 ee<|q7 ee<|v_ (db_ true) ee<|q0 ?_
      obtain rfl:=q9 j
      exact ⟨_,_,_,_,_,_,_,_,_,_,ee⟩
     refine mv_ ee<|mv_ ee<|mv_ ee ?_
     obtain ⟨bl,cj,j⟩:=q6 j
     refine ix_ (enc:=(eI .i64)) cj ee<|v_ (di_ bl) ee ?_
     obtain ⟨bm,ck,j⟩:=q6 j
     refine pc_ (qhp g bl bm ck) ee ?_
     obtain ⟨af,cl,j⟩:=q6 j
     refine pc_ (qf5 (.cons (.refl _) (.cons (.refl _) (.cons (.nil _) .nil))) (qdo 2 bm [] af cl)) ee<|ln_ ee<|v_ (.d (.bool (decide ((af.length : Int) > 400)))) ee<|v_ (.d (.bool (decide ((af.length : Int) > 400)))) ee<|q0 ?_
     obtain rfl:=q9 j
     exact ⟨_,_,_,_,_,_,_,_,_,_,ee⟩
    rintro _ ⟨bb,bc,bd,be,bf,bg,bh,bi,bj,bk,rfl⟩
    refine q0 ?_
    refine qg ee a (fun _ a=>?_) (fun _ a=>?_)
    ·refine sr_<|as_ ee<|as_ ee<|nt_ ?_
     obtain rfl:=q9 a
     refine ⟨_,(Option.some.inj u).symm,fun hm=>?_⟩
     subst hm
     obtain rfl:=q9 w
     exact finD (.inr ee) (v:=.d (.tup [.nilsl,.bool false])) ee ee (q7i (.cons (.nil _) (.cons (.refl _) .nil)))
    refine qh<|qa<|sr_<|mv_ ee<|v_ (.d (.bool (decide (b.2.2.1 > 0)))) ee ?_
    obtain ⟨cm,z,a⟩:=q6 a
    refine qq 5 (fun A st=>∃ (bn bo bp bq : V),st = A [(71,db_ cm),(70,bq),(69,bp),(68,bo),(67,bn)]) ?_ ?_
    ·refine qu ee ee z (fun z=>?_) (fun z=>?_)
     ·refine mv_ ee<|mv_ ee ?_
      obtain ⟨br,cn,z⟩:=q6 z
      refine pc_ (qgx y b.1 br cn) ee<|v_ (db_ br) ee<|q0 ?_
      obtain rfl:=q9 z
      exact ⟨_,_,_,_,ee⟩
     refine q7 ee<|q7 ee<|q7 ee<|v_ (db_ false) ee<|q0 ?_
     obtain rfl:=q9 z
     exact ⟨_,_,_,_,ee⟩
    rintro _ ⟨bn,bo,bp,bq,rfl⟩
    refine q0 ?_
    refine qg ee a (fun _ a=>?_) (fun _ a=>?_)
    ·refine qa<|sr_<|mv_ ee<|as_ ee<|q0 ?_
     obtain ⟨bs,co,a⟩:=q6 a
     refine qp (fun ad=>ad = bs) (fun (ad : List q8)=>⟨[(0,di_ s),(1,.d (.sl 6 (f.map qf))),(2,.d (.sl 6 (g.map qf))),(8,.d (.sl 1 (o.map (eI .i64)))),(9,.hs 0 6 0 ad.length),(10,.d (.sl 4 (b.1.map qd))),(11,di_ b.2.1),(12,di_ b.2.2.1)],[(0,.dat 6 (ad.map qf))],1⟩) (by simp) ?_ ?_
     ·refine qt (q8f o b) (fun (p : Int × List q8)=>⟨[(0,di_ s),(1,.d (.sl 6 (f.map qf))),(2,.d (.sl 6 (g.map qf))),(8,.d (.sl 1 (o.map (eI .i64)))),(9,.hs 0 6 0 p.2.length),(10,.d (.sl 4 (b.1.map qd))),(11,di_ b.2.1),(12,di_ b.2.2.1),(14,di_ p.1)],[(0,.dat 6 (p.2.map qf))],1⟩) (b.2.1,b.2.2.2) bs co (wkA [(0,0)] [] []) ?_
      intro p da q
      unfold q8f at q
      refine qa<|sr_<|mv_ ee<|mv_ ee<|v_ (di_ (p.2.length : Int)) ee<|v_ (.d (.bool (decide (p.1 < (p.2.length : Int))))) ee<|q0 ?_
      refine qg ee q (fun _ q=>?_) (fun _ q=>?_)
      ·refine qh<|qa<|ql<|qi<|mv_ ee<|mv_ ee<|mv_ ee<|mv_ ee<|v_ (.d (i_ (w64 (b.2.2.1 + 1)))) ee ?_
       obtain ⟨ag,cp,q⟩:=q6 q
       refine ix_ (enc:=(eI .i64)) cp ee<|v_ (di_ ag) ee ?_
       obtain ⟨ah,bt,q⟩:=q6 q
       refine ih_ bt ee ee<|v_ (.ref 0 6 p.1.toNat 3) ee<|v_ (.ref 0 6 p.1.toNat 5) ee<|q18 (ds:=[i_ ag]) ({Lo:=ah.Lo,Hi:=({X:=ah.Hi.X,Y:=ah.Hi.Y,Z:=ag} : qk)} : q8) bt ee ee ee ee ee ee ee ee (leb ee) ee<|nl_<|qw<|qi<|mv_ ee<|v_ (.d (i_ (w64 (p.1 + 1)))) ee<|as_ ee<|nl_ ?_
       exact ⟨_,(Option.some.inj q).symm,wkE [(0,0)] [] [] ee ⟨⟨_,ee,.d (.refl _)⟩,⟨_,ee,.d (.refl _)⟩,⟨_,ee,.d (.refl _)⟩,⟨_,ee,.d (.refl _)⟩,⟨_,ee,q16 (by simp) ee (by decide) (ltd ee)⟩,⟨_,ee,.d (.refl _)⟩,⟨_,ee,.d (.refl _)⟩,⟨_,ee,.d (.refl _)⟩,⟨_,ee,.d (.refl _)⟩,trivial⟩ ⟨⟨ltd ee,.inr ⟨by decide,_,ee,.dat _ _⟩⟩,trivial⟩⟩
      refine qv ?_
      refine ⟨_,(Option.some.inj q).symm,fun hm=>?_⟩
      subst hm
      exact ⟨_,ee,wkA [(0,0)] [] []⟩
     intro ad hb
     subst hb
     refine qv ?_
     obtain rfl:=q9 a
     exact ⟨_,ee,wkA [(0,0)] [] []⟩
    refine qh<|sr_<|mv_ ee<|v_ (di_ (b.2.2.2.length : Int)) ee<|mv_ ee<|as_ ee<|as_ ee<|qs<|as_ ee<|q0 ?_
    obtain ⟨cq,cr,a⟩:=q6 a
    refine ql<|qt (q9i y o b) (fun (aa : Int × List q8)=>⟨[(0,di_ s),(1,.d (.sl 6 (f.map qf))),(2,.d (.sl 6 (g.map qf))),(8,.d (.sl 1 (o.map (eI .i64)))),(9,.hs 0 6 0 aa.2.length),(10,.d (.sl 4 (y.map qd))),(11,di_ (b.2.2.2.length : Int)),(12,di_ b.2.2.1),(13,.d (.sl 4 (y.map qd))),(15,di_ aa.1)],[(0,.dat 6 (aa.2.map qf))],1⟩) (0,b.2.2.2) cq cr (wkA [(0,0)] [] []) ?_
    intro aa dc c
    unfold q9i at c
    refine qa<|sr_<|mv_ ee<|mv_ ee<|ln_ ee<|v_ (.d (.bool (decide (aa.1 < (y.length : Int))))) ee<|q0 ?_
    refine qg ee c (fun _ c=>?_) (fun _ c=>?_)
    ·refine qh<|qa<|ql<|qm [(some [],[]),(some [0,1],[0,2]),(some [],[1]),(some [],[]),(some [],[]),(some [],[]),(some [],[]),(some [],[]),(some [],[]),(some [],[]),(some [],[]),(some [],[]),(some [],[]),(some [],[]),(some [],[]),(some [],[]),(some [],[]),(some [],[]),(some [],[]),(some [],[]),(some [],[]),(some [],[]),(some [],[]),(some [],[]),(some [],[]),(some [],[]),(some [],[]),(some [],[]),(some [],[]),(some [],[]),(some [],[]),(some [],[]),(some [],[]),(some [],[]),(some [],[]),(some [],[])] (by kernel_rfl)<|mv_ ee<|mv_ ee<|mv_ ee ?_
     obtain ⟨k,cs,c⟩:=q6 c
     refine ix_ (enc:=qd) cs ee<|v_ (.dref [i_ k.X0,i_ k.Y0,i_ k.X1,i_ k.Y1] 0) ee<|v_ (di_ k.X0) ee<|mv_ ee<|mv_ ee ?_
     obtain ⟨l,ct,c⟩:=q6 c
     refine ix_ (enc:=qd) ct ee<|v_ (.dref [i_ l.X0,i_ l.Y0,i_ l.X1,i_ l.Y1] 1) ee<|v_ (di_ l.Y0) ee<|mv_ ee<|mv_ ee ?_
     obtain ⟨ab,cu,c⟩:=q6 c
     refine ix_ (enc:=(eI .i64)) cu ee<|v_ (di_ ab) ee<|v_ (.d (.agg [i_ k.X0,i_ l.Y0,i_ ab])) ee<|mv_ ee<|mv_ ee ?_
     obtain ⟨m,cv,c⟩:=q6 c
     refine ix_ (enc:=qd) cv ee<|v_ (.dref [i_ m.X0,i_ m.Y0,i_ m.X1,i_ m.Y1] 2) ee<|v_ (di_ m.X1) ee<|mv_ ee<|mv_ ee ?_
     obtain ⟨n,cw,c⟩:=q6 c
     refine ix_ (enc:=qd) cw ee<|v_ (.dref [i_ n.X0,i_ n.Y0,i_ n.X1,i_ n.Y1] 3) ee<|v_ (di_ n.Y1) ee<|mv_ ee<|mv_ ee<|v_ (.d (i_ (w64 (b.2.2.1 + 1)))) ee ?_
     obtain ⟨ac,cx,c⟩:=q6 c
     refine ix_ (enc:=(eI .i64)) cx ee<|v_ (di_ ac) ee<|v_ (.d (.agg [i_ m.X1,i_ n.Y1,i_ ac])) ee<|v_ (.d (.agg [i_ k.X0,i_ l.Y0,i_ ab,i_ m.X1,i_ n.Y1,i_ ac])) ee<|q20 (.hs 1 6 0 [({Lo:=({X:=k.X0,Y:=l.Y0,Z:=ab} : qk),Hi:=({X:=m.X1,Y:=n.Y1,Z:=ac} : qk)} : q8)].length) (.dat 6 ([({Lo:=({X:=k.X0,Y:=l.Y0,Z:=ab} : qk),Hi:=({X:=m.X1,Y:=n.Y1,Z:=ac} : qk)} : q8)].map qf)) ee ?_
     obtain ⟨dd,cy,c⟩:=q6 c
     refine q7c (xs:=aa.2) (ys:=[({Lo:=({X:=k.X0,Y:=l.Y0,Z:=ab} : qk),Hi:=({X:=m.X1,Y:=n.Y1,Z:=ac} : qk)} : q8)]) (enc:=qf) (.hs 1 6 0 [({Lo:=({X:=k.X0,Y:=l.Y0,Z:=ab} : qk),Hi:=({X:=m.X1,Y:=n.Y1,Z:=ac} : qk)} : q8)].length) cy ee ee ee ee ee ee ee (q4w ee ee) ee ee ee ee<|as_ ee<|nl_<|qw<|qi<|mv_ ee<|v_ (.d (i_ (w64 (aa.1 + 1)))) ee<|as_ ee<|nl_ ?_
     exact ⟨_,(Option.some.inj c).symm,wkA [(0,2)] [] []⟩
    refine qv ?_
    refine ⟨_,(Option.some.inj c).symm,fun hm=>?_⟩
    subst hm
    obtain rfl:=q9 a
    exact ⟨_,ee,wkA [(0,0)] [] []⟩
   intro x hb
   subst hb
   refine qi<|mv_ ee<|v_ (.d (i_ (w64 (b.2.2.1 + 1)))) ee<|as_ ee<|nl_ ?_
   exact ⟨_,(Option.some.inj u).symm,wkA [(0,0)] [] []⟩
  refine qv ?_
  refine ⟨_,(Option.some.inj u).symm,fun hm=>?_⟩
  subst hm
  exact ⟨_,ee,wkA [(0,0)] [] []⟩
 intro t hb
 subst hb
 refine sr_<|mv_ ee<|mv_ ee<|v_ (di_ (t.length : Int)) ee<|v_ (.d (.bool (decide ((t.length : Int)≤400)))) ee<|as_ ee<|as_ ee<|nt_ ?_
 obtain rfl:=q9 w
 exact finD (.inr ee) (v:=.tup [.hs 0 6 0 t.length,.d (.bool (decide ((t.length : Int)≤400)))]) ee (qpv (qcv (qc1 ee ee) (qcv ee ee))) (.refl _)
theorem qw7 (c : List q8) (r : List q8 × Int) (a : qh1 c = some r) : Pure Tryz.prog tab 15 [.sl 6 (c.map qf)] (.tup [.sl 6 (r.1.map qf),i_ r.2]):=by
 unfold qh1 at a
 refine qn Tryz.func15 ee (by kernel_rfl) (by kernel_rfl) ee<|sr_<|as_ ee<|as_ ee<|q0<|qa<|sr_<|mv_ ee<|ln_ ee<|v_ (.d (.bool (decide ((c.length : Int) > 400)))) ee<|q0 ?_
 refine qg ee a (fun _ a=>?_) (fun _ a=>?_)
 ·refine sr_<|as_ ee<|as_ ee<|nt_ ?_
  obtain rfl:=q9 a
  exact finD (.inr ee) (v:=.d (.tup [.nilsl,i_ 4])) ee ee (q7i (.cons (.nil _) (.cons (.refl _) .nil)))
 refine qh<|qa<|sr_<|as_ ee<|q0 ?_
 obtain ⟨k,m,a⟩:=q6 a
 refine qp (fun j=>.inl j = k) (fun (j : Unit)=>⟨[(0,.d (.sl 6 (c.map qf)))],[],0⟩) (by simp) ?_ ?_
 ·refine qt (qbj c) (fun (h : Int)=>⟨[(0,.d (.sl 6 (c.map qf))),(4,di_ h)],[],0⟩) 0 k m (wkA [] [] []) ?_
  intro h q b
  unfold qbj at b
  refine qa<|sr_<|mv_ ee<|mv_ ee<|ln_ ee<|v_ (.d (.bool (decide (h < (c.length : Int))))) ee<|q0 ?_
  refine qg ee b (fun _ b=>?_) (fun _ b=>?_)
  ·refine qh<|qa<|ql<|sr_<|mv_ ee<|mv_ ee ?_
   obtain ⟨f,n,b⟩:=q6 b
   refine ix_ (enc:=qf) n ee<|v_ (.d (.agg [i_ f.Lo.X,i_ f.Lo.Y,i_ f.Lo.Z,i_ f.Hi.X,i_ f.Hi.Y,i_ f.Hi.Z])) ee ?_
   obtain ⟨l,o,b⟩:=q6 b
   refine pc_ (qlf f l o) ee<|v_ (db_ (!l)) ee<|q0 ?_
   refine qg ee b (fun _ b=>?_) (fun _ b=>?_)
   ·refine sr_<|as_ ee<|as_ ee<|nt_ ?_
    refine ⟨_,(Option.some.inj b).symm,fun hm=>?_⟩
    subst hm
    obtain rfl:=q9 a
    exact finD (.inr ee) (v:=.d (.tup [.nilsl,i_ 8])) ee ee (q7i (.cons (.nil _) (.cons (.refl _) .nil)))
   refine qh<|qz<|qw<|qi<|mv_ ee<|v_ (.d (i_ (w64 (h + 1)))) ee<|as_ ee<|nl_ ?_
   exact ⟨_,(Option.some.inj b).symm,wkA [] [] []⟩
  refine qv ?_
  refine ⟨_,(Option.some.inj b).symm,fun hm=>?_⟩
  subst hm
  exact ⟨_,ee,wkA [] [] []⟩
 intro j hb
 subst hb
 refine sr_<|mv_ ee ?_
 obtain ⟨g,p,a⟩:=q6 a
 refine pc_ (qf5 (.cons (.refl _) (.cons (.refl _) (.cons (.nil _) .nil))) (qk2 2 c [] g p)) ee<|mv_ ee<|v_ (.d (.sl 6 (g.1.map qf))) ee<|v_ (db_ g.2) ee<|as_ ee<|as_ ee<|q0<|qa<|sr_<|mv_ ee<|v_ (db_ (!g.2)) ee<|q0 ?_
 refine qg ee a (fun _ a=>?_) (fun _ a=>?_)
 ·refine sr_<|as_ ee<|as_ ee<|nt_ ?_
  obtain rfl:=q9 a
  exact finD (.inr ee) (v:=.d (.tup [.nilsl,i_ 4])) ee ee (q7i (.cons (.nil _) (.cons (.refl _) .nil)))
 refine qh<|sr_<|mv_ ee<|as_ ee<|as_ ee<|nt_ ?_
 obtain rfl:=q9 a
 exact fR_ (.d (.tup [.sl 6 (g.1.map qf),i_ 0])) ee
theorem qc3 (f : List q8) (j : q8→Option Bool) (p1F : FuncId) (p1C : List DV) (p1Ok : ∀ (c : q8) (r : Bool),j c = some r→Pure Tryz.prog tab p1F ([.agg [i_ c.Lo.X,i_ c.Lo.Y,i_ c.Lo.Z,i_ c.Hi.X,i_ c.Hi.Y,i_ c.Hi.Z]] ++ p1C) (.bool r)) (r : Int) (g : q4f f j = some r) : Pure Tryz.prog tab 86 [.sl 6 (f.map qf),.fn p1F p1C] (i_ r):=by
 unfold q4f at g
 refine qn Tryz.func86 ee (by kernel_rfl) (by kernel_rfl) ee<|sr_<|as_ ee<|q0<|qa<|sr_<|mv_ ee<|ln_ ee<|mv_ ee<|q0 ?_
 obtain ⟨l,m,g⟩:=q6 g
 refine qp (fun k=>.inl k = l) (fun (k : Unit)=>⟨[],[],0⟩) (by simp) ?_ ?_
 ·refine qt (q12 f j) (fun (h : Int)=>⟨[(0,.d (.sl 6 (f.map qf))),(1,.d (.fn p1F p1C)),(7,di_ (f.length : Int)),(8,di_ h)],[],0⟩) 0 l m (wkA [] [] []) ?_
  intro h q a
  unfold q12 at a
  refine sr_<|v_ (.d (.bool (decide (h < (f.length : Int))))) ee<|q0<|qa ?_
  refine qg ee a (fun _ a=>?_) (fun _ a=>?_)
  ·refine qh<|qa<|ql<|sr_<|mv_ ee<|as_ ee<|qs<|mv_ ee<|mv_ ee<|mv_ ee ?_
   obtain ⟨b,n,a⟩:=q6 a
   refine ix_ (enc:=qf) n ee<|v_ (.d (.agg [i_ b.Lo.X,i_ b.Lo.Y,i_ b.Lo.Z,i_ b.Hi.X,i_ b.Hi.Y,i_ b.Hi.Z])) ee ?_
   obtain ⟨o,p,a⟩:=q6 a
   refine q81 [.d (.agg [i_ b.Lo.X,i_ b.Lo.Y,i_ b.Lo.Z,i_ b.Hi.X,i_ b.Hi.Y,i_ b.Hi.Z])] (p1Ok b o p) ee ee ee (.inl ee)<|q0 ?_
   refine qg ee a (fun _ a=>?_) (fun _ a=>?_)
   ·refine sr_<|mv_ ee<|as_ ee<|nt_ ?_
    refine ⟨_,(Option.some.inj a).symm,fun hm=>?_⟩
    subst hm
    obtain rfl:=q9 g
    exact fR_ (di_ h) ee
   refine qh<|qz<|qw<|qi<|v_ (.d (i_ (w64 (h + 1)))) ee<|mv_ ee<|nl_ ?_
   exact ⟨_,(Option.some.inj a).symm,wkA [] [] []⟩
  refine qv ?_
  refine ⟨_,(Option.some.inj a).symm,fun hm=>?_⟩
  subst hm
  exact ⟨_,ee,wkA [] [] []⟩
 intro k hb
 subst hb
 refine sr_<|as_ ee<|nt_ ?_
 obtain rfl:=q9 g
 exact fR_ (di_ (-1)) ee
theorem q7e (c : List q8) (f : q8→Option Bool) (p1F : FuncId) (p1C : List DV) (p1Ok : ∀ (a : q8) (r : Bool),f a = some r→Pure Tryz.prog tab p1F ([.agg [i_ a.Lo.X,i_ a.Lo.Y,i_ a.Lo.Z,i_ a.Hi.X,i_ a.Hi.Y,i_ a.Hi.Z]] ++ p1C) (.bool r)) (r : Bool) (b : q1t c f = some r) : Pure Tryz.prog tab 57 [.sl 6 (c.map qf),.fn p1F p1C] (.bool r):=by
 unfold q1t at b
 refine qn Tryz.func57 ee (by kernel_rfl) (by kernel_rfl) ee<|sr_<|as_ ee<|qs<|mv_ ee<|mv_ ee ?_
 obtain ⟨g,h,b⟩:=q6 b
 refine pc_ (qc3 c f p1F p1C p1Ok g h) ee<|v_ (.d (.bool (decide (g ≥ 0)))) ee<|as_ ee<|nt_ ?_
 obtain rfl:=q9 b
 exact fR_ (.d (.bool (decide (g ≥ 0)))) ee
theorem qom (a : q8) (r : Bool) (b : q7n a = some r) : Pure Tryz.prog tab 58 [.agg [i_ a.Lo.X,i_ a.Lo.Y,i_ a.Lo.Z,i_ a.Hi.X,i_ a.Hi.Y,i_ a.Hi.Z]] (.bool r):=by
 unfold q7n at b
 refine qn Tryz.func58 ee (by kernel_rfl) (by kernel_rfl) ee<|sr_<|q20 (.ref 0 6 0 0) (.dat 6 [[i_ a.Lo.X,i_ a.Lo.Y,i_ a.Lo.Z,i_ a.Hi.X,i_ a.Hi.Y,i_ a.Hi.Z]]) ee<|as_ ee<|qs<|v_ (.d (.agg [i_ a.Lo.X,i_ a.Lo.Y,i_ a.Lo.Z,i_ a.Hi.X,i_ a.Hi.Y,i_ a.Hi.Z])) ee ?_
 obtain ⟨c,f,b⟩:=q6 b
 refine pc_ (qiu a c f) ee<|v_ (db_ (!c)) ee<|as_ ee<|nt_ ?_
 obtain rfl:=q9 b
 exact fR_ (db_ (!c)) ee
theorem q8r (g : List q8) (h : List q8) (r : Bool) (f : q51 g h = some r) : Pure Tryz.prog tab 59 [.sl 6 (g.map qf),.sl 6 (h.map qf)] (.bool r):=by
 unfold q51 at f
 refine qn Tryz.func59 ee (by kernel_rfl) (by kernel_rfl) ee<|sr_<|as_ ee<|q0<|qa<|sr_<|mv_ ee<|ln_ ee<|mv_ ee<|ln_ ee<|v_ (.d (.bool ((g.length : Int) != (h.length : Int)))) ee<|q0 ?_
 refine qg ee f (fun _ f=>?_) (fun _ f=>?_)
 ·refine sr_<|as_ ee<|nt_ ?_
  obtain rfl:=q9 f
  exact fR_ (db_ false) ee
 refine qh<|qa<|sr_<|mv_ ee<|ln_ ee<|mv_ ee<|q0 ?_
 obtain ⟨l,m,f⟩:=q6 f
 refine qp (fun k=>.inl k = l) (fun (k : Unit)=>⟨[],[],0⟩) (by simp) ?_ ?_
 ·refine qt (q6k g h) (fun (j : Int)=>⟨[(0,.d (.sl 6 (g.map qf))),(1,.d (.sl 6 (h.map qf))),(12,di_ (g.length : Int)),(13,di_ j)],[],0⟩) 0 l m (wkA [] [] []) ?_
  intro j p a
  unfold q6k at a
  refine sr_<|v_ (.d (.bool (decide (j < (g.length : Int))))) ee<|q0<|qa ?_
  refine qg ee a (fun _ a=>?_) (fun _ a=>?_)
  ·refine qh<|qa<|ql<|sr_<|mv_ ee<|as_ ee<|q0<|qa<|qm [(some [],[]),(some [],[]),(some [],[]),(some [],[]),(some [],[]),(some [],[]),(some [],[]),(some [],[]),(some [],[])] (by kernel_rfl)<|mv_ ee<|mv_ ee ?_
   obtain ⟨b,n,a⟩:=q6 a
   refine ix_ (enc:=qf) n ee<|v_ (.d (.agg [i_ b.Lo.X,i_ b.Lo.Y,i_ b.Lo.Z,i_ b.Hi.X,i_ b.Hi.Y,i_ b.Hi.Z])) ee<|mv_ ee<|mv_ ee ?_
   obtain ⟨c,o,a⟩:=q6 a
   refine ix_ (enc:=qf) o ee<|v_ (.d (.agg [i_ c.Lo.X,i_ c.Lo.Y,i_ c.Lo.Z,i_ c.Hi.X,i_ c.Hi.Y,i_ c.Hi.Z])) ee<|v_ (.d (.bool (!((b.Lo.X == c.Lo.X) && ((b.Lo.Y == c.Lo.Y) && ((b.Lo.Z == c.Lo.Z) && ((b.Hi.X == c.Hi.X) && ((b.Hi.Y == c.Hi.Y) && ((b.Hi.Z == c.Hi.Z) && true))))))))) ee<|q0 ?_
   refine qg ee a (fun _ a=>?_) (fun _ a=>?_)
   ·refine sr_<|as_ ee<|nt_ ?_
    refine ⟨_,(Option.some.inj a).symm,fun hm=>?_⟩
    subst hm
    obtain rfl:=q9 f
    exact fR_ (db_ false) ee
   refine qh<|qz<|qw<|qi<|v_ (.d (i_ (w64 (j + 1)))) ee<|mv_ ee<|nl_ ?_
   exact ⟨_,(Option.some.inj a).symm,wkA [] [] []⟩
  refine qv ?_
  refine ⟨_,(Option.some.inj a).symm,fun hm=>?_⟩
  subst hm
  exact ⟨_,ee,wkA [] [] []⟩
 intro k hb
 subst hb
 refine sr_<|as_ ee<|nt_ ?_
 obtain rfl:=q9 f
 exact fR_ (db_ true) ee
theorem q90 (b : List q8) (r : Int) (a : q77 b = some r) : Pure Tryz.prog tab 18 [.sl 6 (b.map qf)] (i_ r):=by
 unfold q77 at a
 refine qn Tryz.func18 ee (by kernel_rfl) (by kernel_rfl) ee<|sr_<|as_ ee<|q0<|qa<|sr_<|mv_ ee<|ln_ ee<|v_ (.d (.bool (decide ((b.length : Int) > 400)))) ee<|q0 ?_
 refine qg ee a (fun _ a=>?_) (fun _ a=>?_)
 ·refine sr_<|as_ ee<|nt_ ?_
  obtain rfl:=q9 a
  exact fR_ (di_ 4) ee
 refine qh<|qa<|sr_<|mv_ ee ?_
 obtain ⟨o,p,a⟩:=q6 a
 refine pc_ (q7e b (fun g=>q7n g) 58 [] (fun g r hr=>qom g r hr) o p) ee<|q0 ?_
 refine qg ee a (fun _ a=>?_) (fun _ a=>?_)
 ·refine sr_<|as_ ee<|nt_ ?_
  obtain rfl:=q9 a
  exact fR_ (di_ 8) ee
 refine qh<|qa<|sr_<|v_ (.d (.agg [.nilf])) ee<|mv_ ee<|qu5 (es:=1) ([b].map qy) ee ee ee ee ee ?_
 obtain ⟨f,q,a⟩:=q6 a
 refine pc_ (qd4 b f q) ee<|mv_ ee<|v_ (.d (.sl 6 (f.1.map qf))) ee<|v_ (di_ f.2) ee<|as_ ee<|as_ ee<|qs<|mv_ ee<|v_ (db_ (f.2 != 0)) ee ?_
 obtain ⟨s,c,a⟩:=q6 a
 refine qq 6 (fun A st=>∃ (j k l m n : V),st = A [(24,db_ s),(23,n),(22,m),(21,l),(20,k),(19,j)]) ?_ ?_
 ·refine qu ee ee c (fun c=>?_) (fun c=>?_)
  ·refine q7 ee<|q7 ee<|q7 ee<|q7 ee<|v_ (db_ true) ee<|q0 ?_
   obtain rfl:=q9 c
   exact ⟨_,_,_,_,_,ee⟩
  refine mv_ ee<|mv_ ee ?_
  obtain ⟨h,t,c⟩:=q6 c
  refine pc_ (q8r f.1 b h t) ee<|v_ (db_ (!h)) ee<|v_ (db_ (!h)) ee<|q0 ?_
  obtain rfl:=q9 c
  exact ⟨_,_,_,_,_,ee⟩
 rintro _ ⟨j,k,l,m,n,rfl⟩
 refine q0 ?_
 refine qg ee a (fun _ a=>?_) (fun _ a=>?_)
 ·refine sr_<|as_ ee<|nt_ ?_
  obtain rfl:=q9 a
  exact fR_ (di_ 8) ee
 refine qh<|sr_<|as_ ee<|nt_ ?_
 obtain rfl:=q9 a
 exact fR_ (di_ 0) ee
theorem qk6 (a : q8) (r : Int × Int × Int) (b : qd2 a = some r) : Pure Tryz.prog tab 56 [.agg [i_ a.Lo.X,i_ a.Lo.Y,i_ a.Lo.Z,i_ a.Hi.X,i_ a.Hi.Y,i_ a.Hi.Z]] (.tup [i_ r.1,i_ r.2.1,i_ r.2.2]):=by
 unfold qd2 at b
 refine qn Tryz.func56 ee (by kernel_rfl) (by kernel_rfl) ee<|sr_<|q20 (.ref 0 6 0 0) (.dat 6 [[i_ a.Lo.X,i_ a.Lo.Y,i_ a.Lo.Z,i_ a.Hi.X,i_ a.Hi.Y,i_ a.Hi.Z]]) ee<|as_ ee<|as_ ee<|as_ ee<|q0<|qa<|qm [(some [],[]),(some [],[]),(some [],[]),(some [],[]),(some [0],[]),(some [],[]),(some [],[]),(some [0],[]),(some [],[]),(some [],[]),(some [],[]),(some [0],[]),(some [],[]),(some [],[]),(some [0],[]),(some [],[]),(some [],[]),(some [],[]),(some [0],[]),(some [],[]),(some [],[]),(some [0],[]),(some [],[]),(some [],[])] (by kernel_rfl)<|v_ (.ref 0 6 0 3) ee<|v_ (.ref 0 6 0 3) ee<|v_ (di_ a.Hi.X) ee<|v_ (.ref 0 6 0 0) ee<|v_ (.ref 0 6 0 0) ee<|v_ (di_ a.Lo.X) ee<|v_ (.d (i_ (w64 (a.Hi.X - a.Lo.X)))) ee<|v_ (.ref 0 6 0 3) ee<|v_ (.ref 0 6 0 4) ee<|v_ (di_ a.Hi.Y) ee<|v_ (.ref 0 6 0 0) ee<|v_ (.ref 0 6 0 1) ee<|v_ (di_ a.Lo.Y) ee<|v_ (.d (i_ (w64 (a.Hi.Y - a.Lo.Y)))) ee<|v_ (.ref 0 6 0 3) ee<|v_ (.ref 0 6 0 5) ee<|v_ (di_ a.Hi.Z) ee<|v_ (.ref 0 6 0 0) ee<|v_ (.ref 0 6 0 2) ee<|v_ (di_ a.Lo.Z) ee<|v_ (.d (i_ (w64 (a.Hi.Z - a.Lo.Z)))) ee<|as_ ee<|as_ ee<|as_ ee<|nt_ ?_
 obtain rfl:=q9 b
 exact fR_ (.d (.tup [i_ (w64 (a.Hi.X - a.Lo.X)),i_ (w64 (a.Hi.Y - a.Lo.Y)),i_ (w64 (a.Hi.Z - a.Lo.Z))])) ee
theorem qer (g : List q8) (r : Int × Int) (c : q98 g = some r) : Pure Tryz.prog tab 16 [.sl 6 (g.map qf)] (.tup [i_ r.1,i_ r.2]):=by
 unfold q98 at c
 refine qn Tryz.func16 ee (by kernel_rfl) (by kernel_rfl) ee<|sr_<|as_ ee<|as_ ee<|q0<|qa<|sr_<|mv_ ee ?_
 obtain ⟨k,m,c⟩:=q6 c
 refine pc_ (q90 g k m) ee<|as_ ee<|qs<|mv_ ee<|v_ (db_ (k != 0)) ee<|q0 ?_
 refine qg ee c (fun _ c=>?_) (fun _ c=>?_)
 ·refine sr_<|mv_ ee<|as_ ee<|as_ ee<|nt_ ?_
  obtain rfl:=q9 c
  exact fR_ (.d (.tup [i_ 0,i_ k])) ee
 refine qh<|sr_<|as_ ee<|q0<|qa<|sr_<|mv_ ee<|ln_ ee<|mv_ ee<|q0 ?_
 obtain ⟨l,n,c⟩:=q6 c
 refine qp (fun j=>j = l) (fun (j : Int)=>⟨[(5,di_ j)],[],0⟩) (by simp) ?_ ?_
 ·refine qt (q83 g) (fun (h : Int × Int)=>⟨[(5,di_ h.1),(16,.d (.sl 6 (g.map qf))),(17,di_ (g.length : Int)),(18,di_ h.2)],[],0⟩) (0,0) l n (wkA [] [] []) ?_
  intro h q f
  unfold q83 at f
  refine sr_<|v_ (.d (.bool (decide (h.2 < (g.length : Int))))) ee<|q0<|qa ?_
  refine qg ee f (fun _ f=>?_) (fun _ f=>?_)
  ·refine qh<|qa<|ql<|sr_ ?_
   obtain ⟨a,o,f⟩:=q6 f
   refine ix_ (enc:=qf) o ee<|v_ (.d (.agg [i_ a.Lo.X,i_ a.Lo.Y,i_ a.Lo.Z,i_ a.Hi.X,i_ a.Hi.Y,i_ a.Hi.Z])) ee<|q13 ee ee<|q1f 0 (.dat 6 [[i_ a.Lo.X,i_ a.Lo.Y,i_ a.Lo.Z,i_ a.Hi.X,i_ a.Hi.Y,i_ a.Hi.Z]]) ee<|qs<|v_ (.d (.agg [i_ a.Lo.X,i_ a.Lo.Y,i_ a.Lo.Z,i_ a.Hi.X,i_ a.Hi.Y,i_ a.Hi.Z])) ee ?_
   obtain ⟨b,p,f⟩:=q6 f
   refine pc_ (qk6 a b p) ee<|mv_ ee<|v_ (di_ b.1) ee<|v_ (di_ b.2.1) ee<|v_ (di_ b.2.2) ee<|as_ ee<|as_ ee<|as_ ee<|q0<|qi<|mv_ ee<|mv_ ee<|mv_ ee<|v_ (.d (i_ (w64 (b.1 * b.2.1)))) ee<|mv_ ee<|v_ (.d (i_ (w64 ((w64 (b.1 * b.2.1)) * b.2.2)))) ee<|v_ (.d (i_ (w64 (h.1 + (w64 ((w64 (b.1 * b.2.1)) * b.2.2)))))) ee<|as_ ee<|nl_<|qw<|qi<|v_ (.d (i_ (w64 (h.2 + 1)))) ee<|mv_ ee<|nl_ ?_
   exact ⟨_,(Option.some.inj f).symm,wkA [] [] []⟩
  refine qv ?_
  refine ⟨_,(Option.some.inj f).symm,fun hm=>?_⟩
  subst hm
  exact ⟨_,ee,wkA [] [] []⟩
 intro j hb
 subst hb
 refine sr_<|mv_ ee<|as_ ee<|as_ ee<|nt_ ?_
 obtain rfl:=q9 c
 exact fR_ (.d (.tup [i_ j,i_ 0])) ee
theorem q7r (g : List q8) (h : List q8) (r : Bool) (f : q6r g h = some r) : Pure Tryz.prog tab 20 [.sl 6 (g.map qf),.sl 6 (h.map qf)] (.bool r):=by
 unfold q6r at f
 refine qn Tryz.func20 ee (by kernel_rfl) (by kernel_rfl) ee<|sr_<|as_ ee<|q0<|qa<|sr_<|mv_ ee<|ln_ ee<|mv_ ee<|ln_ ee<|v_ (.d (.bool ((g.length : Int) != (h.length : Int)))) ee<|q0 ?_
 refine qg ee f (fun _ f=>?_) (fun _ f=>?_)
 ·refine sr_<|as_ ee<|nt_ ?_
  obtain rfl:=q9 f
  exact fR_ (db_ false) ee
 refine qh<|qa<|sr_<|as_ ee<|q0 ?_
 obtain ⟨l,m,f⟩:=q6 f
 refine qp (fun k=>.inl k = l) (fun (k : Unit)=>⟨[],[],0⟩) (by simp) ?_ ?_
 ·refine qt (qax g h) (fun (j : Int)=>⟨[(0,.d (.sl 6 (g.map qf))),(1,.d (.sl 6 (h.map qf))),(5,di_ j)],[],0⟩) 0 l m (wkA [] [] []) ?_
  intro j p a
  unfold qax at a
  refine qa<|sr_<|mv_ ee<|mv_ ee<|ln_ ee<|v_ (.d (.bool (decide (j < (g.length : Int))))) ee<|q0 ?_
  refine qg ee a (fun _ a=>?_) (fun _ a=>?_)
  ·refine qh<|qa<|ql<|qa<|qm [(some [],[]),(some [],[]),(some [],[]),(some [],[]),(some [],[]),(some [],[]),(some [],[]),(some [],[]),(some [],[])] (by kernel_rfl)<|mv_ ee<|mv_ ee ?_
   obtain ⟨b,n,a⟩:=q6 a
   refine ix_ (enc:=qf) n ee<|v_ (.d (.agg [i_ b.Lo.X,i_ b.Lo.Y,i_ b.Lo.Z,i_ b.Hi.X,i_ b.Hi.Y,i_ b.Hi.Z])) ee<|mv_ ee<|mv_ ee ?_
   obtain ⟨c,o,a⟩:=q6 a
   refine ix_ (enc:=qf) o ee<|v_ (.d (.agg [i_ c.Lo.X,i_ c.Lo.Y,i_ c.Lo.Z,i_ c.Hi.X,i_ c.Hi.Y,i_ c.Hi.Z])) ee<|v_ (.d (.bool (!((b.Lo.X == c.Lo.X) && ((b.Lo.Y == c.Lo.Y) && ((b.Lo.Z == c.Lo.Z) && ((b.Hi.X == c.Hi.X) && ((b.Hi.Y == c.Hi.Y) && ((b.Hi.Z == c.Hi.Z) && true))))))))) ee<|q0 ?_
   refine qg ee a (fun _ a=>?_) (fun _ a=>?_)
   ·refine sr_<|as_ ee<|nt_ ?_
    refine ⟨_,(Option.some.inj a).symm,fun hm=>?_⟩
    subst hm
    obtain rfl:=q9 f
    exact fR_ (db_ false) ee
   refine qh<|qz<|qw<|qi<|mv_ ee<|v_ (.d (i_ (w64 (j + 1)))) ee<|as_ ee<|nl_ ?_
   exact ⟨_,(Option.some.inj a).symm,wkA [] [] []⟩
  refine qv ?_
  refine ⟨_,(Option.some.inj a).symm,fun hm=>?_⟩
  subst hm
  exact ⟨_,ee,wkA [] [] []⟩
 intro k hb
 subst hb
 refine sr_<|as_ ee<|nt_ ?_
 obtain rfl:=q9 f
 exact fR_ (db_ true) ee
theorem qak (c : List q8) (r : Int) (a : q8p c = some r) : Pure Tryz.prog tab 19 [.sl 6 (c.map qf)] (i_ r):=by
 unfold q8p at a
 refine qn Tryz.func19 ee (by kernel_rfl) (by kernel_rfl) ee<|sr_<|as_ ee<|q0<|qa<|sr_<|mv_ ee<|ln_ ee<|v_ (.d (.bool (decide ((c.length : Int) > 400)))) ee<|q0 ?_
 refine qg ee a (fun _ a=>?_) (fun _ a=>?_)
 ·refine sr_<|as_ ee<|nt_ ?_
  obtain rfl:=q9 a
  exact fR_ (di_ 4) ee
 refine qh<|qa<|sr_<|as_ ee<|q0 ?_
 obtain ⟨m,u,a⟩:=q6 a
 refine qp (fun k=>.inl k = m) (fun (k : Unit)=>⟨[(0,.d (.sl 6 (c.map qf)))],[],0⟩) (by simp) ?_ ?_
 ·refine qt (qaj c) (fun (j : Int)=>⟨[(0,.d (.sl 6 (c.map qf))),(3,di_ j)],[],0⟩) 0 m u (wkA [] [] []) ?_
  intro j aa b
  unfold qaj at b
  refine qa<|sr_<|mv_ ee<|mv_ ee<|ln_ ee<|v_ (.d (.bool (decide (j < (c.length : Int))))) ee<|q0 ?_
  refine qg ee b (fun _ b=>?_) (fun _ b=>?_)
  ·refine qh<|qa<|ql<|sr_<|mv_ ee<|mv_ ee ?_
   obtain ⟨f,v,b⟩:=q6 b
   refine ix_ (enc:=qf) v ee<|v_ (.d (.agg [i_ f.Lo.X,i_ f.Lo.Y,i_ f.Lo.Z,i_ f.Hi.X,i_ f.Hi.Y,i_ f.Hi.Z])) ee ?_
   obtain ⟨n,w,b⟩:=q6 b
   refine pc_ (qlf f n w) ee<|v_ (db_ (!n)) ee<|q0 ?_
   refine qg ee b (fun _ b=>?_) (fun _ b=>?_)
   ·refine sr_<|as_ ee<|nt_ ?_
    refine ⟨_,(Option.some.inj b).symm,fun hm=>?_⟩
    subst hm
    obtain rfl:=q9 a
    exact fR_ (di_ 8) ee
   refine qh<|qz<|qw<|qi<|mv_ ee<|v_ (.d (i_ (w64 (j + 1)))) ee<|as_ ee<|nl_ ?_
   exact ⟨_,(Option.some.inj b).symm,wkA [] [] []⟩
  refine qv ?_
  refine ⟨_,(Option.some.inj b).symm,fun hm=>?_⟩
  subst hm
  exact ⟨_,ee,wkA [] [] []⟩
 intro k hb
 subst hb
 refine sr_<|mv_ ee ?_
 obtain ⟨h,x,a⟩:=q6 a
 refine pc_ (qf5 (.cons (.refl _) (.cons (.refl _) (.cons (.nil _) .nil))) (qk2 2 c [] h x)) ee<|mv_ ee<|v_ (.d (.sl 6 (h.1.map qf))) ee<|v_ (db_ h.2) ee<|as_ ee<|as_ ee<|q0<|qa<|sr_<|mv_ ee<|v_ (db_ (!h.2)) ee ?_
 obtain ⟨y,g,a⟩:=q6 a
 refine qq 6 (fun A st=>∃ (o p q s t : V),st = A [(33,db_ y),(32,t),(31,s),(30,q),(29,p),(28,o)]) ?_ ?_
 ·refine qu ee ee g (fun g=>?_) (fun g=>?_)
  ·refine q7 ee<|q7 ee<|q7 ee<|q7 ee<|v_ (db_ true) ee<|q0 ?_
   obtain rfl:=q9 g
   exact ⟨_,_,_,_,_,ee⟩
  refine mv_ ee<|mv_ ee ?_
  obtain ⟨l,z,g⟩:=q6 g
  refine pc_ (q7r h.1 c l z) ee<|v_ (db_ (!l)) ee<|v_ (db_ (!l)) ee<|q0 ?_
  obtain rfl:=q9 g
  exact ⟨_,_,_,_,_,ee⟩
 rintro _ ⟨o,p,q,s,t,rfl⟩
 refine q0 ?_
 refine qg ee a (fun _ a=>?_) (fun _ a=>?_)
 ·refine sr_<|as_ ee<|nt_ ?_
  obtain rfl:=q9 a
  exact fR_ (di_ 8) ee
 refine qh<|sr_<|as_ ee<|nt_ ?_
 obtain rfl:=q9 a
 exact fR_ (di_ 0) ee
theorem qsf (l : List q8) (r : Int × Int) (k : qek l = some r) : Pure Tryz.prog tab 17 [.sl 6 (l.map qf)] (.tup [i_ r.1,i_ r.2]):=by
 unfold qek at k
 refine qn Tryz.func17 ee (by kernel_rfl) (by kernel_rfl) ee<|sr_<|as_ ee<|as_ ee<|q0<|qa<|sr_<|mv_ ee ?_
 obtain ⟨o,s,k⟩:=q6 k
 refine pc_ (qak l o s) ee<|v_ (db_ (o != 0)) ee<|q0 ?_
 refine qg ee k (fun _ k=>?_) (fun _ k=>?_)
 ·refine sr_<|mv_ ee ?_
  obtain ⟨p,t,k⟩:=q6 k
  refine pc_ (qak l p t) ee<|as_ ee<|as_ ee<|nt_ ?_
  obtain rfl:=q9 k
  exact fR_ (.d (.tup [i_ 0,i_ p])) ee
 refine qh<|sr_<|as_ ee<|q0<|qa<|sr_<|as_ ee<|q0 ?_
 obtain ⟨q,u,k⟩:=q6 k
 refine qp (fun n=>n = q) (fun (n : Int)=>⟨[(4,di_ n)],[],0⟩) (by simp) ?_ ?_
 ·refine qt (q9j l) (fun (m : Int × Int)=>⟨[(0,.d (.sl 6 (l.map qf))),(4,di_ m.1),(5,di_ m.2)],[],0⟩) (0,0) q u (wkA [] [] []) ?_
  intro m ab a
  unfold q9j at a
  refine qa<|sr_<|mv_ ee<|mv_ ee<|ln_ ee<|v_ (.d (.bool (decide (m.2 < (l.length : Int))))) ee<|q0 ?_
  refine qg ee a (fun _ a=>?_) (fun _ a=>?_)
  ·refine qh<|qa<|ql<|qm [(some [],[]),(some [],[]),(some [],[]),(some [],[]),(some [],[]),(some [],[]),(some [],[]),(some [],[]),(some [],[]),(some [],[]),(some [],[]),(some [],[]),(some [],[]),(some [],[]),(some [],[]),(some [],[]),(some [],[]),(some [],[]),(some [],[]),(some [],[]),(some [],[]),(some [],[]),(some [],[]),(some [],[]),(some [],[]),(some [],[]),(some [],[]),(some [],[]),(some [],[]),(some [],[]),(some [],[]),(some [],[]),(some [],[]),(some [],[]),(some [],[]),(some [],[]),(some [],[]),(some [],[]),(some [],[]),(some [],[]),(some [],[]),(some [],[]),(some [],[]),(some [],[])] (by kernel_rfl)<|mv_ ee<|mv_ ee<|mv_ ee ?_
   obtain ⟨b,v,a⟩:=q6 a
   refine ix_ (enc:=qf) v ee<|v_ (.dref [i_ b.Lo.X,i_ b.Lo.Y,i_ b.Lo.Z,i_ b.Hi.X,i_ b.Hi.Y,i_ b.Hi.Z] 3) ee<|v_ (.dref [i_ b.Lo.X,i_ b.Lo.Y,i_ b.Lo.Z,i_ b.Hi.X,i_ b.Hi.Y,i_ b.Hi.Z] 3) ee<|v_ (di_ b.Hi.X) ee<|mv_ ee<|mv_ ee ?_
   obtain ⟨c,w,a⟩:=q6 a
   refine ix_ (enc:=qf) w ee<|v_ (.dref [i_ c.Lo.X,i_ c.Lo.Y,i_ c.Lo.Z,i_ c.Hi.X,i_ c.Hi.Y,i_ c.Hi.Z] 0) ee<|v_ (.dref [i_ c.Lo.X,i_ c.Lo.Y,i_ c.Lo.Z,i_ c.Hi.X,i_ c.Hi.Y,i_ c.Hi.Z] 0) ee<|v_ (di_ c.Lo.X) ee<|v_ (.d (i_ (w64 (b.Hi.X - c.Lo.X)))) ee<|mv_ ee<|mv_ ee ?_
   obtain ⟨f,x,a⟩:=q6 a
   refine ix_ (enc:=qf) x ee<|v_ (.dref [i_ f.Lo.X,i_ f.Lo.Y,i_ f.Lo.Z,i_ f.Hi.X,i_ f.Hi.Y,i_ f.Hi.Z] 3) ee<|v_ (.dref [i_ f.Lo.X,i_ f.Lo.Y,i_ f.Lo.Z,i_ f.Hi.X,i_ f.Hi.Y,i_ f.Hi.Z] 4) ee<|v_ (di_ f.Hi.Y) ee<|mv_ ee<|mv_ ee ?_
   obtain ⟨g,y,a⟩:=q6 a
   refine ix_ (enc:=qf) y ee<|v_ (.dref [i_ g.Lo.X,i_ g.Lo.Y,i_ g.Lo.Z,i_ g.Hi.X,i_ g.Hi.Y,i_ g.Hi.Z] 0) ee<|v_ (.dref [i_ g.Lo.X,i_ g.Lo.Y,i_ g.Lo.Z,i_ g.Hi.X,i_ g.Hi.Y,i_ g.Hi.Z] 1) ee<|v_ (di_ g.Lo.Y) ee<|v_ (.d (i_ (w64 (f.Hi.Y - g.Lo.Y)))) ee<|v_ (.d (i_ (w64 ((w64 (b.Hi.X - c.Lo.X)) * (w64 (f.Hi.Y - g.Lo.Y)))))) ee<|mv_ ee<|mv_ ee ?_
   obtain ⟨h,z,a⟩:=q6 a
   refine ix_ (enc:=qf) z ee<|v_ (.dref [i_ h.Lo.X,i_ h.Lo.Y,i_ h.Lo.Z,i_ h.Hi.X,i_ h.Hi.Y,i_ h.Hi.Z] 3) ee<|v_ (.dref [i_ h.Lo.X,i_ h.Lo.Y,i_ h.Lo.Z,i_ h.Hi.X,i_ h.Hi.Y,i_ h.Hi.Z] 5) ee<|v_ (di_ h.Hi.Z) ee<|mv_ ee<|mv_ ee ?_
   obtain ⟨j,aa,a⟩:=q6 a
   refine ix_ (enc:=qf) aa ee<|v_ (.dref [i_ j.Lo.X,i_ j.Lo.Y,i_ j.Lo.Z,i_ j.Hi.X,i_ j.Hi.Y,i_ j.Hi.Z] 0) ee<|v_ (.dref [i_ j.Lo.X,i_ j.Lo.Y,i_ j.Lo.Z,i_ j.Hi.X,i_ j.Hi.Y,i_ j.Hi.Z] 2) ee<|v_ (di_ j.Lo.Z) ee<|v_ (.d (i_ (w64 (h.Hi.Z - j.Lo.Z)))) ee<|v_ (.d (i_ (w64 ((w64 ((w64 (b.Hi.X - c.Lo.X)) * (w64 (f.Hi.Y - g.Lo.Y)))) * (w64 (h.Hi.Z - j.Lo.Z)))))) ee<|v_ (.d (i_ (w64 (m.1 + (w64 ((w64 ((w64 (b.Hi.X - c.Lo.X)) * (w64 (f.Hi.Y - g.Lo.Y)))) * (w64 (h.Hi.Z - j.Lo.Z)))))))) ee<|as_ ee<|nl_<|qw<|qi<|mv_ ee<|v_ (.d (i_ (w64 (m.2 + 1)))) ee<|as_ ee<|nl_ ?_
   exact ⟨_,(Option.some.inj a).symm,wkA [] [] []⟩
  refine qv ?_
  refine ⟨_,(Option.some.inj a).symm,fun hm=>?_⟩
  subst hm
  exact ⟨_,ee,wkA [] [] []⟩
 intro n hb
 subst hb
 refine sr_<|mv_ ee<|as_ ee<|as_ ee<|nt_ ?_
 obtain rfl:=q9 k
 exact fR_ (.d (.tup [i_ n,i_ 0])) ee
theorem qqr (b : q8) (a : qk) (r : Bool) (c : qbm b a = some r) : Pure Tryz.prog tab 60 [.agg [i_ b.Lo.X,i_ b.Lo.Y,i_ b.Lo.Z,i_ b.Hi.X,i_ b.Hi.Y,i_ b.Hi.Z],.box [i_ a.X,i_ a.Y,i_ a.Z]] (.bool r):=by
 unfold qbm at c
 refine qn Tryz.func60 ee (by kernel_rfl) (by kernel_rfl) ee<|sr_<|q20 (.ref 0 6 0 0) (.dat 6 [[i_ b.Lo.X,i_ b.Lo.Y,i_ b.Lo.Z,i_ b.Hi.X,i_ b.Hi.Y,i_ b.Hi.Z]]) ee<|as_ ee<|qs<|v_ (.ref 0 6 0 0) ee<|v_ (.ref 0 6 0 0) ee<|v_ (di_ b.Lo.X) ee<|v_ (.dref [i_ a.X,i_ a.Y,i_ a.Z] 0) ee<|v_ (di_ a.X) ee<|v_ (.d (.bool (decide (b.Lo.X≤a.X)))) ee ?_
 obtain ⟨c1,f,c⟩:=q6 c
 refine qq 8 (fun A st=>∃ (l m n o p q s : V),st = A [(17,db_ c1),(16,s),(15,q),(14,p),(13,o),(12,n),(11,m),(10,l)]) ?_ ?_
 ·refine qu ee ee f (fun f=>?_) (fun f=>?_)
  ·refine v_ (.dref [i_ a.X,i_ a.Y,i_ a.Z] 0) ee<|v_ (di_ a.X) ee<|v_ (.ref 0 6 0 3) ee<|v_ (.ref 0 6 0 3) ee<|v_ (di_ b.Hi.X) ee<|v_ (.d (.bool (decide (a.X < b.Hi.X)))) ee<|v_ (.d (.bool (decide (a.X < b.Hi.X)))) ee<|q0 ?_
   obtain rfl:=q9 f
   exact ⟨_,_,_,_,_,_,_,ee⟩
  refine q7 ee<|q7 ee<|q7 ee<|q7 ee<|q7 ee<|q7 ee<|v_ (db_ false) ee<|q0 ?_
  obtain rfl:=q9 f
  exact ⟨_,_,_,_,_,_,_,ee⟩
 rintro _ ⟨l,m,n,o,p,q,s,rfl⟩
 obtain ⟨az,g,c⟩:=q6 c
 refine qq 8 (fun A st=>∃ (t u v w x y z : V),st = A [(25,db_ az),(24,z),(23,y),(22,x),(21,w),(20,v),(19,u),(18,t)]) ?_ ?_
 ·refine qu ee ee g (fun g=>?_) (fun g=>?_)
  ·refine v_ (.ref 0 6 0 0) ee<|v_ (.ref 0 6 0 1) ee<|v_ (di_ b.Lo.Y) ee<|v_ (.dref [i_ a.X,i_ a.Y,i_ a.Z] 1) ee<|v_ (di_ a.Y) ee<|v_ (.d (.bool (decide (b.Lo.Y≤a.Y)))) ee<|v_ (.d (.bool (decide (b.Lo.Y≤a.Y)))) ee<|q0 ?_
   obtain rfl:=q9 g
   exact ⟨_,_,_,_,_,_,_,ee⟩
  refine q7 ee<|q7 ee<|q7 ee<|q7 ee<|q7 ee<|q7 ee<|v_ (db_ false) ee<|q0 ?_
  obtain rfl:=q9 g
  exact ⟨_,_,_,_,_,_,_,ee⟩
 rintro _ ⟨t,u,v,w,x,y,z,rfl⟩
 obtain ⟨ba,h,c⟩:=q6 c
 refine qq 8 (fun A st=>∃ (aa ab ac ad ae af ag : V),st = A [(33,db_ ba),(32,ag),(31,af),(30,ae),(29,ad),(28,ac),(27,ab),(26,aa)]) ?_ ?_
 ·refine qu ee ee h (fun h=>?_) (fun h=>?_)
  ·refine v_ (.dref [i_ a.X,i_ a.Y,i_ a.Z] 1) ee<|v_ (di_ a.Y) ee<|v_ (.ref 0 6 0 3) ee<|v_ (.ref 0 6 0 4) ee<|v_ (di_ b.Hi.Y) ee<|v_ (.d (.bool (decide (a.Y < b.Hi.Y)))) ee<|v_ (.d (.bool (decide (a.Y < b.Hi.Y)))) ee<|q0 ?_
   obtain rfl:=q9 h
   exact ⟨_,_,_,_,_,_,_,ee⟩
  refine q7 ee<|q7 ee<|q7 ee<|q7 ee<|q7 ee<|q7 ee<|v_ (db_ false) ee<|q0 ?_
  obtain rfl:=q9 h
  exact ⟨_,_,_,_,_,_,_,ee⟩
 rintro _ ⟨aa,ab,ac,ad,ae,af,ag,rfl⟩
 obtain ⟨bb,j,c⟩:=q6 c
 refine qq 8 (fun A st=>∃ (ah ai aj ak al am an : V),st = A [(41,db_ bb),(40,an),(39,am),(38,al),(37,ak),(36,aj),(35,ai),(34,ah)]) ?_ ?_
 ·refine qu ee ee j (fun j=>?_) (fun j=>?_)
  ·refine v_ (.ref 0 6 0 0) ee<|v_ (.ref 0 6 0 2) ee<|v_ (di_ b.Lo.Z) ee<|v_ (.dref [i_ a.X,i_ a.Y,i_ a.Z] 2) ee<|v_ (di_ a.Z) ee<|v_ (.d (.bool (decide (b.Lo.Z≤a.Z)))) ee<|v_ (.d (.bool (decide (b.Lo.Z≤a.Z)))) ee<|q0 ?_
   obtain rfl:=q9 j
   exact ⟨_,_,_,_,_,_,_,ee⟩
  refine q7 ee<|q7 ee<|q7 ee<|q7 ee<|q7 ee<|q7 ee<|v_ (db_ false) ee<|q0 ?_
  obtain rfl:=q9 j
  exact ⟨_,_,_,_,_,_,_,ee⟩
 rintro _ ⟨ah,ai,aj,ak,al,am,an,rfl⟩
 obtain ⟨ao,k,c⟩:=q6 c
 refine qq 8 (fun A st=>∃ (ap aq ar au av aw ax : V),st = A [(49,db_ ao),(48,ax),(47,aw),(46,av),(45,au),(44,ar),(43,aq),(42,ap)]) ?_ ?_
 ·refine qu ee ee k (fun k=>?_) (fun k=>?_)
  ·refine v_ (.dref [i_ a.X,i_ a.Y,i_ a.Z] 2) ee<|v_ (di_ a.Z) ee<|v_ (.ref 0 6 0 3) ee<|v_ (.ref 0 6 0 5) ee<|v_ (di_ b.Hi.Z) ee<|v_ (.d (.bool (decide (a.Z < b.Hi.Z)))) ee<|v_ (.d (.bool (decide (a.Z < b.Hi.Z)))) ee<|q0 ?_
   obtain rfl:=q9 k
   exact ⟨_,_,_,_,_,_,_,ee⟩
  refine q7 ee<|q7 ee<|q7 ee<|q7 ee<|q7 ee<|q7 ee<|v_ (db_ false) ee<|q0 ?_
  obtain rfl:=q9 k
  exact ⟨_,_,_,_,_,_,_,ee⟩
 rintro _ ⟨ap,aq,ar,au,av,aw,ax,rfl⟩
 refine as_ ee<|nt_ ?_
 obtain rfl:=q9 c
 exact fR_ (db_ ao) ee
theorem qen (b : List q8) (a : qk) (r : Bool) (c : qau b a = some r) : Pure Tryz.prog tab 21 [.sl 6 (b.map qf),.agg [i_ a.X,i_ a.Y,i_ a.Z]] (.bool r):=by
 unfold qau at c
 refine qn Tryz.func21 ee (by kernel_rfl) (by kernel_rfl) ee<|sr_<|q20 (.ref 0 3 0 0) (.dat 3 [[i_ a.X,i_ a.Y,i_ a.Z]]) ee<|as_ ee<|qs<|mv_ ee<|v_ (.fn 60 [.ref 0 3 0 0]) ee ?_
 obtain ⟨g,h,c⟩:=q6 c
 refine qpb [.d (.sl 6 (b.map qf)),.fn 60 [.ref 0 3 0 0]] (q7e b (fun f=>qbm f a) 60 [.box [i_ a.X,i_ a.Y,i_ a.Z]] (fun f r hr=>qqr f a r hr) g h) ee ee (qaf ee (qaf (q151 (qcv ee ee)) ee)) (.inr ee)<|as_ ee<|nt_ ?_
 obtain rfl:=q9 c
 exact fR_ (db_ g) ee
theorem q102 (a : q8) (b : qk) (r : Bool) (c : qld a b = some r) : Pure Tryz.prog tab 61 [.agg [i_ a.Lo.X,i_ a.Lo.Y,i_ a.Lo.Z,i_ a.Hi.X,i_ a.Hi.Y,i_ a.Hi.Z],.agg [i_ b.X,i_ b.Y,i_ b.Z]] (.bool r):=by
 unfold qld at c
 refine qn Tryz.func61 ee (by kernel_rfl) (by kernel_rfl) ee<|sr_<|q20 (.ref 0 6 0 0) (.dat 6 [[i_ a.Lo.X,i_ a.Lo.Y,i_ a.Lo.Z,i_ a.Hi.X,i_ a.Hi.Y,i_ a.Hi.Z]]) ee<|q20 (.ref 1 3 0 0) (.dat 3 [[i_ b.X,i_ b.Y,i_ b.Z]]) ee<|as_ ee<|qs<|v_ (.ref 0 6 0 0) ee<|v_ (.ref 0 6 0 0) ee<|v_ (di_ a.Lo.X) ee<|v_ (.ref 1 3 0 0) ee<|v_ (di_ b.X) ee<|v_ (.d (.bool (decide (a.Lo.X≤b.X)))) ee ?_
 obtain ⟨c1,f,c⟩:=q6 c
 refine qq 8 (fun A st=>∃ (l m n o p q s : V),st = A [(18,db_ c1),(17,s),(16,q),(15,p),(14,o),(13,n),(12,m),(11,l)]) ?_ ?_
 ·refine qu ee ee f (fun f=>?_) (fun f=>?_)
  ·refine v_ (.ref 1 3 0 0) ee<|v_ (di_ b.X) ee<|v_ (.ref 0 6 0 3) ee<|v_ (.ref 0 6 0 3) ee<|v_ (di_ a.Hi.X) ee<|v_ (.d (.bool (decide (b.X < a.Hi.X)))) ee<|v_ (.d (.bool (decide (b.X < a.Hi.X)))) ee<|q0 ?_
   obtain rfl:=q9 f
   exact ⟨_,_,_,_,_,_,_,ee⟩
  refine q7 ee<|q7 ee<|q7 ee<|q7 ee<|q7 ee<|q7 ee<|v_ (db_ false) ee<|q0 ?_
  obtain rfl:=q9 f
  exact ⟨_,_,_,_,_,_,_,ee⟩
 rintro _ ⟨l,m,n,o,p,q,s,rfl⟩
 obtain ⟨az,g,c⟩:=q6 c
 refine qq 8 (fun A st=>∃ (t u v w x y z : V),st = A [(26,db_ az),(25,z),(24,y),(23,x),(22,w),(21,v),(20,u),(19,t)]) ?_ ?_
 ·refine qu ee ee g (fun g=>?_) (fun g=>?_)
  ·refine v_ (.ref 0 6 0 0) ee<|v_ (.ref 0 6 0 1) ee<|v_ (di_ a.Lo.Y) ee<|v_ (.ref 1 3 0 1) ee<|v_ (di_ b.Y) ee<|v_ (.d (.bool (decide (a.Lo.Y≤b.Y)))) ee<|v_ (.d (.bool (decide (a.Lo.Y≤b.Y)))) ee<|q0 ?_
   obtain rfl:=q9 g
   exact ⟨_,_,_,_,_,_,_,ee⟩
  refine q7 ee<|q7 ee<|q7 ee<|q7 ee<|q7 ee<|q7 ee<|v_ (db_ false) ee<|q0 ?_
  obtain rfl:=q9 g
  exact ⟨_,_,_,_,_,_,_,ee⟩
 rintro _ ⟨t,u,v,w,x,y,z,rfl⟩
 obtain ⟨ba,h,c⟩:=q6 c
 refine qq 8 (fun A st=>∃ (aa ab ac ad ae af ag : V),st = A [(34,db_ ba),(33,ag),(32,af),(31,ae),(30,ad),(29,ac),(28,ab),(27,aa)]) ?_ ?_
 ·refine qu ee ee h (fun h=>?_) (fun h=>?_)
  ·refine v_ (.ref 1 3 0 1) ee<|v_ (di_ b.Y) ee<|v_ (.ref 0 6 0 3) ee<|v_ (.ref 0 6 0 4) ee<|v_ (di_ a.Hi.Y) ee<|v_ (.d (.bool (decide (b.Y < a.Hi.Y)))) ee<|v_ (.d (.bool (decide (b.Y < a.Hi.Y)))) ee<|q0 ?_
   obtain rfl:=q9 h
   exact ⟨_,_,_,_,_,_,_,ee⟩
  refine q7 ee<|q7 ee<|q7 ee<|q7 ee<|q7 ee<|q7 ee<|v_ (db_ false) ee<|q0 ?_
  obtain rfl:=q9 h
  exact ⟨_,_,_,_,_,_,_,ee⟩
 rintro _ ⟨aa,ab,ac,ad,ae,af,ag,rfl⟩
 obtain ⟨bb,j,c⟩:=q6 c
 refine qq 8 (fun A st=>∃ (ah ai aj ak al am an : V),st = A [(42,db_ bb),(41,an),(40,am),(39,al),(38,ak),(37,aj),(36,ai),(35,ah)]) ?_ ?_
 ·refine qu ee ee j (fun j=>?_) (fun j=>?_)
  ·refine v_ (.ref 0 6 0 0) ee<|v_ (.ref 0 6 0 2) ee<|v_ (di_ a.Lo.Z) ee<|v_ (.ref 1 3 0 2) ee<|v_ (di_ b.Z) ee<|v_ (.d (.bool (decide (a.Lo.Z≤b.Z)))) ee<|v_ (.d (.bool (decide (a.Lo.Z≤b.Z)))) ee<|q0 ?_
   obtain rfl:=q9 j
   exact ⟨_,_,_,_,_,_,_,ee⟩
  refine q7 ee<|q7 ee<|q7 ee<|q7 ee<|q7 ee<|q7 ee<|v_ (db_ false) ee<|q0 ?_
  obtain rfl:=q9 j
  exact ⟨_,_,_,_,_,_,_,ee⟩
 rintro _ ⟨ah,ai,aj,ak,al,am,an,rfl⟩
 obtain ⟨ao,k,c⟩:=q6 c
 refine qq 8 (fun A st=>∃ (ap aq ar au av aw ax : V),st = A [(50,db_ ao),(49,ax),(48,aw),(47,av),(46,au),(45,ar),(44,aq),(43,ap)]) ?_ ?_
 ·refine qu ee ee k (fun k=>?_) (fun k=>?_)
  ·refine v_ (.ref 1 3 0 2) ee<|v_ (di_ b.Z) ee<|v_ (.ref 0 6 0 3) ee<|v_ (.ref 0 6 0 5) ee<|v_ (di_ a.Hi.Z) ee<|v_ (.d (.bool (decide (b.Z < a.Hi.Z)))) ee<|v_ (.d (.bool (decide (b.Z < a.Hi.Z)))) ee<|q0 ?_
   obtain rfl:=q9 k
   exact ⟨_,_,_,_,_,_,_,ee⟩
  refine q7 ee<|q7 ee<|q7 ee<|q7 ee<|q7 ee<|q7 ee<|v_ (db_ false) ee<|q0 ?_
  obtain rfl:=q9 k
  exact ⟨_,_,_,_,_,_,_,ee⟩
 rintro _ ⟨ap,aq,ar,au,av,aw,ax,rfl⟩
 refine as_ ee<|nt_ ?_
 obtain rfl:=q9 c
 exact fR_ (db_ ao) ee
theorem qy7 (f : List q8) (a : qk) (r : Bool) (g : qik f a = some r) : Pure Tryz.prog tab 22 [.sl 6 (f.map qf),.agg [i_ a.X,i_ a.Y,i_ a.Z]] (.bool r):=by
 unfold qik at g
 refine qn Tryz.func22 ee (by kernel_rfl) (by kernel_rfl) ee<|sr_<|q20 (.ref 0 3 0 0) (.dat 3 [[i_ a.X,i_ a.Y,i_ a.Z]]) ee<|as_ ee<|q0<|qa<|sr_<|as_ ee<|q0 ?_
 obtain ⟨k,l,g⟩:=q6 g
 refine qp (fun j=>.inl j = k) (fun (j : Unit)=>⟨[],[],0⟩) (by simp) ?_ ?_
 ·refine qt (qcy f a) (fun (h : Int)=>⟨[(0,.d (.sl 6 (f.map qf))),(3,.ref 0 3 0 0),(5,di_ h)],[(0,.dat 3 [[i_ a.X,i_ a.Y,i_ a.Z]])],1⟩) 0 k l (wkA [(0,0)] [] []) ?_
  intro h p b
  unfold qcy at b
  refine qa<|sr_<|mv_ ee<|mv_ ee<|ln_ ee<|v_ (.d (.bool (decide (h < (f.length : Int))))) ee<|q0 ?_
  refine qg ee b (fun _ b=>?_) (fun _ b=>?_)
  ·refine qh<|qa<|ql<|qa<|qm [(some [],[]),(some [0],[]),(some [],[]),(some [],[]),(some [],[]),(some [],[])] (by kernel_rfl)<|mv_ ee<|mv_ ee ?_
   obtain ⟨c,m,b⟩:=q6 b
   refine ix_ (enc:=qf) m ee<|v_ (.d (.agg [i_ c.Lo.X,i_ c.Lo.Y,i_ c.Lo.Z,i_ c.Hi.X,i_ c.Hi.Y,i_ c.Hi.Z])) ee<|v_ (.d (.agg [i_ a.X,i_ a.Y,i_ a.Z])) ee ?_
   obtain ⟨n,o,b⟩:=q6 b
   refine pc_ (q102 c a n o) ee<|q0 ?_
   refine qg ee b (fun _ b=>?_) (fun _ b=>?_)
   ·refine sr_<|as_ ee<|nt_ ?_
    refine ⟨_,(Option.some.inj b).symm,fun hm=>?_⟩
    subst hm
    obtain rfl:=q9 g
    exact fR_ (db_ true) ee
   refine qh<|qz<|qw<|qi<|mv_ ee<|v_ (.d (i_ (w64 (h + 1)))) ee<|as_ ee<|nl_ ?_
   exact ⟨_,(Option.some.inj b).symm,wkA [(0,0)] [] []⟩
  refine qv ?_
  refine ⟨_,(Option.some.inj b).symm,fun hm=>?_⟩
  subst hm
  exact ⟨_,ee,wkA [] [] []⟩
 intro j hb
 subst hb
 refine sr_<|as_ ee<|nt_ ?_
 obtain rfl:=q9 g
 exact fR_ (db_ false) ee
theorem qss (b : List q8) (c : List q8) (r : Bool) (a : qep b c = some r) : Pure Tryz.prog tab 23 [.sl 6 (b.map qf),.sl 6 (c.map qf)] (.bool r):=by
 unfold qep at a
 refine qn Tryz.func23 ee (by kernel_rfl) (by kernel_rfl) ee<|sr_<|as_ ee<|qs<|mv_ ee<|mv_ ee ?_
 obtain ⟨d,f,a⟩:=q6 a
 refine pc_ (q8r b c d f) ee<|as_ ee<|nt_ ?_
 obtain rfl:=q9 a
 exact fR_ (db_ d) ee
theorem q10l (c : List q8) (q : List q8) (b : qk) (r : Bool) (a : qcs c q b = some r) : Pure Tryz.prog tab 3 [.sl 6 (c.map qf),.sl 6 (q.map qf),.agg [i_ b.X,i_ b.Y,i_ b.Z]] (.bool r):=by
 unfold qcs at a
 refine qn Tryz.func3 ee (by kernel_rfl) (by kernel_rfl) ee<|sr_<|q20 (.ref 0 3 0 0) (.dat 3 [[i_ b.X,i_ b.Y,i_ b.Z]]) ee<|as_ ee<|q0<|qa<|sr_<|mv_ ee ?_
 obtain ⟨r1,h2,a⟩:=q6 a
 refine pc_ (qlc c r1 h2) ee ?_
 obtain ⟨c5,h,a⟩:=q6 a
 refine qq 4 (fun A st=>∃ (z j8 j9 : V),st = A [(21,db_ c5),(20,j9),(19,j8),(18,z)]) ?_ ?_
 ·refine qu ee ee h (fun h=>?_) (fun h=>?_)
  ·refine q7 ee<|q7 ee<|v_ (db_ true) ee<|q0 ?_
   obtain rfl:=q9 h
   exact ⟨_,_,_,ee⟩
  refine mv_ ee ?_
  obtain ⟨ac,bz,h⟩:=q6 h
  refine pc_ (qlc q ac bz) ee<|v_ (db_ ac) ee<|q0 ?_
  obtain rfl:=q9 h
  exact ⟨_,_,_,ee⟩
 rintro _ ⟨z,j8,j9,rfl⟩
 refine q0 ?_
 refine qg ee a (fun _ a=>?_) (fun _ a=>?_)
 ·refine sr_<|as_ ee<|nt_ ?_
  obtain rfl:=q9 a
  exact fR_ (db_ true) ee
 refine qh<|sr_<|mv_ ee ?_
 obtain ⟨j,ca,a⟩:=q6 a
 refine pc_ (qw9 c j ca) ee<|as_ ee<|qs<|mv_ ee ?_
 obtain ⟨o,cb,a⟩:=q6 a
 refine pc_ (qg3 j o cb) ee<|mv_ ee<|v_ (.d (.sl 6 (o.1.map qf))) ee<|v_ (di_ o.2) ee<|as_ ee<|as_ ee<|qs<|mv_ ee ?_
 obtain ⟨p,cc,a⟩:=q6 a
 refine pc_ (qw7 c p cc) ee<|mv_ ee<|v_ (.d (.sl 6 (p.1.map qf))) ee<|v_ (di_ p.2) ee<|as_ ee<|as_ ee<|qs<|mv_ ee ?_
 obtain ⟨k,cd,a⟩:=q6 a
 refine pc_ (qer j k cd) ee<|mv_ ee<|v_ (di_ k.1) ee<|v_ (di_ k.2) ee<|as_ ee<|as_ ee<|qs<|mv_ ee ?_
 obtain ⟨l,ce,a⟩:=q6 a
 refine pc_ (qsf c l ce) ee<|mv_ ee<|v_ (di_ l.1) ee<|v_ (di_ l.2) ee<|as_ ee<|as_ ee<|q0<|qa<|qm [(some [],[]),(some [],[]),(some [],[]),(some [],[]),(some [],[]),(some [],[]),(some [],[]),(some [],[]),(some [],[]),(some [],[]),(some [],[]),(some [],[]),(some [],[]),(some [],[]),(some [],[]),(some [],[]),(some [],[]),(some [],[]),(some [0],[]),(some [],[]),(some [],[]),(some [0],[]),(some [],[]),(some [],[]),(some [],[]),(some [],[]),(some [],[]),(some [],[]),(some [],[]),(some [],[]),(some [],[]),(some [],[]),(some [],[]),(some [],[]),(some [],[]),(some [],[]),(some [],[]),(some [],[]),(some [],[]),(some [],[]),(some [],[]),(some [],[]),(some [],[]),(some [],[]),(some [],[]),(some [],[]),(some [],[]),(some [],[]),(some [],[])] (by kernel_rfl)<|mv_ ee ?_
 obtain ⟨ad,cf,a⟩:=q6 a
 refine pc_ (q90 j ad cf) ee<|mv_ ee ?_
 obtain ⟨ae,cg,a⟩:=q6 a
 refine pc_ (qak c ae cg) ee<|v_ (db_ (ad == ae)) ee ?_
 obtain ⟨ch,m,a⟩:=q6 a
 refine qq 5 (fun A st=>∃ (af ag ah ai : V),st = A [(53,db_ ch),(52,ai),(51,ah),(50,ag),(49,af)]) ?_ ?_
 ·refine qu ee ee m (fun m=>?_) (fun m=>?_)
  ·refine mv_ ee<|mv_ ee ?_
   obtain ⟨aj,ci,m⟩:=q6 m
   refine pc_ (q7r o.1 p.1 aj ci) ee<|v_ (db_ aj) ee<|q0 ?_
   obtain rfl:=q9 m
   exact ⟨_,_,_,_,ee⟩
  refine q7 ee<|q7 ee<|q7 ee<|v_ (db_ false) ee<|q0 ?_
  obtain rfl:=q9 m
  exact ⟨_,_,_,_,ee⟩
 rintro _ ⟨af,ag,ah,ai,rfl⟩
 obtain ⟨cj,s,a⟩:=q6 a
 refine qq 5 (fun A st=>∃ (ak al am an : V),st = A [(58,db_ cj),(57,an),(56,am),(55,al),(54,ak)]) ?_ ?_
 ·refine qu ee ee s (fun s=>?_) (fun s=>?_)
  ·refine mv_ ee<|mv_ ee<|v_ (db_ (o.2 == p.2)) ee<|v_ (db_ (o.2 == p.2)) ee<|q0 ?_
   obtain rfl:=q9 s
   exact ⟨_,_,_,_,ee⟩
  refine q7 ee<|q7 ee<|q7 ee<|v_ (db_ false) ee<|q0 ?_
  obtain rfl:=q9 s
  exact ⟨_,_,_,_,ee⟩
 rintro _ ⟨ak,al,am,an,rfl⟩
 obtain ⟨ck,t,a⟩:=q6 a
 refine qq 5 (fun A st=>∃ (ao ap aq ar : V),st = A [(63,db_ ck),(62,ar),(61,aq),(60,ap),(59,ao)]) ?_ ?_
 ·refine qu ee ee t (fun t=>?_) (fun t=>?_)
  ·refine mv_ ee<|mv_ ee<|v_ (db_ (k.1 == l.1)) ee<|v_ (db_ (k.1 == l.1)) ee<|q0 ?_
   obtain rfl:=q9 t
   exact ⟨_,_,_,_,ee⟩
  refine q7 ee<|q7 ee<|q7 ee<|v_ (db_ false) ee<|q0 ?_
  obtain rfl:=q9 t
  exact ⟨_,_,_,_,ee⟩
 rintro _ ⟨ao,ap,aq,ar,rfl⟩
 obtain ⟨cl,u,a⟩:=q6 a
 refine qq 5 (fun A st=>∃ (au av aw ax : V),st = A [(68,db_ cl),(67,ax),(66,aw),(65,av),(64,au)]) ?_ ?_
 ·refine qu ee ee u (fun u=>?_) (fun u=>?_)
  ·refine mv_ ee<|mv_ ee<|v_ (db_ (k.2 == l.2)) ee<|v_ (db_ (k.2 == l.2)) ee<|q0 ?_
   obtain rfl:=q9 u
   exact ⟨_,_,_,_,ee⟩
  refine q7 ee<|q7 ee<|q7 ee<|v_ (db_ false) ee<|q0 ?_
  obtain rfl:=q9 u
  exact ⟨_,_,_,_,ee⟩
 rintro _ ⟨au,av,aw,ax,rfl⟩
 obtain ⟨cm,f,a⟩:=q6 a
 refine qq 9 (fun A st=>∃ (ay az ba bb bc bd be bf : V),st = A [(77,db_ cm),(76,bf),(75,be),(74,bd),(73,bc),(72,bb),(71,ba),(70,az),(69,ay)]) ?_ ?_
 ·refine qu ee ee f (fun f=>?_) (fun f=>?_)
  ·refine mv_ ee<|v_ (.d (.agg [i_ b.X,i_ b.Y,i_ b.Z])) ee ?_
   obtain ⟨v,cn,f⟩:=q6 f
   refine pc_ (qen j b v cn) ee<|mv_ ee<|v_ (.d (.agg [i_ b.X,i_ b.Y,i_ b.Z])) ee ?_
   obtain ⟨w,co,f⟩:=q6 f
   refine pc_ (qy7 c b w co) ee<|v_ (db_ (v == w)) ee<|v_ (db_ (v == w)) ee<|q0 ?_
   obtain rfl:=q9 f
   exact ⟨_,_,_,_,_,_,_,_,ee⟩
  refine q7 ee<|q7 ee<|q7 ee<|q7 ee<|q7 ee<|q7 ee<|q7 ee<|v_ (db_ false) ee<|q0 ?_
  obtain rfl:=q9 f
  exact ⟨_,_,_,_,_,_,_,_,ee⟩
 rintro _ ⟨ay,az,ba,bb,bc,bd,be,bf,rfl⟩
 obtain ⟨cp,g,a⟩:=q6 a
 refine qq 9 (fun A st=>∃ (bg bh bi bj bk bl bm bn : V),st = A [(86,db_ cp),(85,bn),(84,bm),(83,bl),(82,bk),(81,bj),(80,bi),(79,bh),(78,bg)]) ?_ ?_
 ·refine qu ee ee g (fun g=>?_) (fun g=>?_)
  ·refine mv_ ee<|mv_ ee ?_
   obtain ⟨x,cq,g⟩:=q6 g
   refine pc_ (qss j q x cq) ee<|mv_ ee<|mv_ ee ?_
   obtain ⟨y,cr,g⟩:=q6 g
   refine pc_ (q7r c q y cr) ee<|v_ (db_ (x == y)) ee<|v_ (db_ (x == y)) ee<|q0 ?_
   obtain rfl:=q9 g
   exact ⟨_,_,_,_,_,_,_,_,ee⟩
  refine q7 ee<|q7 ee<|q7 ee<|q7 ee<|q7 ee<|q7 ee<|q7 ee<|v_ (db_ false) ee<|q0 ?_
  obtain rfl:=q9 g
  exact ⟨_,_,_,_,_,_,_,_,ee⟩
 rintro _ ⟨bg,bh,bi,bj,bk,bl,bm,bn,rfl⟩
 obtain ⟨bo,n,a⟩:=q6 a
 refine qq 5 (fun A st=>∃ (bp bq br bs : V),st = A [(91,db_ bo),(90,bs),(89,br),(88,bq),(87,bp)]) ?_ ?_
 ·refine qu ee ee n (fun n=>?_) (fun n=>?_)
  ·refine mv_ ee<|mv_ ee ?_
   obtain ⟨bt,cs,n⟩:=q6 n
   refine pc_ (q7r j c bt cs) ee<|v_ (db_ bt) ee<|q0 ?_
   obtain rfl:=q9 n
   exact ⟨_,_,_,_,ee⟩
  refine q7 ee<|q7 ee<|q7 ee<|v_ (db_ false) ee<|q0 ?_
  obtain rfl:=q9 n
  exact ⟨_,_,_,_,ee⟩
 rintro _ ⟨bp,bq,br,bs,rfl⟩
 refine as_ ee<|nt_ ?_
 obtain rfl:=q9 a
 exact fR_ (db_ bo) ee
theorem qba (c : List qb) (j : qb→Option Bool) (p1F : FuncId) (p1C : List DV) (p1Ok : ∀ (f : qb) (r : Bool),j f = some r→Pure Tryz.prog tab p1F ([.agg [i_ f.X0,i_ f.Y0,i_ f.X1,i_ f.Y1]] ++ p1C) (.bool r)) (r : Int) (g : q53 c j = some r) : Pure Tryz.prog tab 128 [.sl 4 (c.map qd),.fn p1F p1C] (i_ r):=by
 unfold q53 at g
 refine qn Tryz.func128 ee (by kernel_rfl) (by kernel_rfl) ee<|sr_<|as_ ee<|q0<|qa<|sr_<|mv_ ee<|ln_ ee<|mv_ ee<|q0 ?_
 obtain ⟨l,m,g⟩:=q6 g
 refine qp (fun k=>.inl k = l) (fun (k : Unit)=>⟨[],[],0⟩) (by simp) ?_ ?_
 ·refine qt (q1m c j) (fun (h : Int)=>⟨[(0,.d (.sl 4 (c.map qd))),(1,.d (.fn p1F p1C)),(7,di_ (c.length : Int)),(8,di_ h)],[],0⟩) 0 l m (wkA [] [] []) ?_
  intro h q a
  unfold q1m at a
  refine sr_<|v_ (.d (.bool (decide (h < (c.length : Int))))) ee<|q0<|qa ?_
  refine qg ee a (fun _ a=>?_) (fun _ a=>?_)
  ·refine qh<|qa<|ql<|sr_<|mv_ ee<|as_ ee<|qs<|mv_ ee<|mv_ ee<|mv_ ee ?_
   obtain ⟨b,n,a⟩:=q6 a
   refine ix_ (enc:=qd) n ee<|v_ (.d (.agg [i_ b.X0,i_ b.Y0,i_ b.X1,i_ b.Y1])) ee ?_
   obtain ⟨o,p,a⟩:=q6 a
   refine q81 [.d (.agg [i_ b.X0,i_ b.Y0,i_ b.X1,i_ b.Y1])] (p1Ok b o p) ee ee ee (.inl ee)<|q0 ?_
   refine qg ee a (fun _ a=>?_) (fun _ a=>?_)
   ·refine sr_<|mv_ ee<|as_ ee<|nt_ ?_
    refine ⟨_,(Option.some.inj a).symm,fun hm=>?_⟩
    subst hm
    obtain rfl:=q9 g
    exact fR_ (di_ h) ee
   refine qh<|qz<|qw<|qi<|v_ (.d (i_ (w64 (h + 1)))) ee<|mv_ ee<|nl_ ?_
   exact ⟨_,(Option.some.inj a).symm,wkA [] [] []⟩
  refine qv ?_
  refine ⟨_,(Option.some.inj a).symm,fun hm=>?_⟩
  subst hm
  exact ⟨_,ee,wkA [] [] []⟩
 intro k hb
 subst hb
 refine sr_<|as_ ee<|nt_ ?_
 obtain rfl:=q9 g
 exact fR_ (di_ (-1)) ee
theorem qan (c : List qb) (f : qb→Option Bool) (p1F : FuncId) (p1C : List DV) (p1Ok : ∀ (a : qb) (r : Bool),f a = some r→Pure Tryz.prog tab p1F ([.agg [i_ a.X0,i_ a.Y0,i_ a.X1,i_ a.Y1]] ++ p1C) (.bool r)) (r : Bool) (b : q32 c f = some r) : Pure Tryz.prog tab 105 [.sl 4 (c.map qd),.fn p1F p1C] (.bool r):=by
 unfold q32 at b
 refine qn Tryz.func105 ee (by kernel_rfl) (by kernel_rfl) ee<|sr_<|as_ ee<|qs<|mv_ ee<|mv_ ee ?_
 obtain ⟨g,h,b⟩:=q6 b
 refine pc_ (qba c f p1F p1C p1Ok g h) ee<|v_ (.d (.bool (decide (g ≥ 0)))) ee<|as_ ee<|nt_ ?_
 obtain rfl:=q9 b
 exact fR_ (.d (.bool (decide (g ≥ 0)))) ee
theorem qmp (a : qb) (r : Bool) (b : q70 a = some r) : Pure Tryz.prog tab 106 [.agg [i_ a.X0,i_ a.Y0,i_ a.X1,i_ a.Y1]] (.bool r):=by
 unfold q70 at b
 refine qn Tryz.func106 ee (by kernel_rfl) (by kernel_rfl) ee<|sr_<|q20 (.ref 0 4 0 0) (.dat 4 [[i_ a.X0,i_ a.Y0,i_ a.X1,i_ a.Y1]]) ee<|as_ ee<|qs<|v_ (.d (.agg [i_ a.X0,i_ a.Y0,i_ a.X1,i_ a.Y1])) ee ?_
 obtain ⟨c,f,b⟩:=q6 b
 refine pc_ (qhr a c f) ee<|v_ (db_ (!c)) ee<|as_ ee<|nt_ ?_
 obtain rfl:=q9 b
 exact fR_ (db_ (!c)) ee
theorem qpj (c : List qb) (r : Int) (a : qck c = some r) : Pure Tryz.prog tab 79 [.sl 4 (c.map qd)] (i_ r):=by
 unfold qck at a
 refine qn Tryz.func79 ee (by kernel_rfl) (by kernel_rfl) ee<|sr_<|as_ ee<|q0<|qa<|sr_<|mv_ ee<|ln_ ee<|v_ (.d (.bool (decide ((c.length : Int) > 400)))) ee<|q0 ?_
 refine qg ee a (fun _ a=>?_) (fun _ a=>?_)
 ·refine sr_<|as_ ee<|nt_ ?_
  obtain rfl:=q9 a
  exact fR_ (di_ 4) ee
 refine qh<|qa<|sr_<|mv_ ee ?_
 obtain ⟨o,p,a⟩:=q6 a
 refine pc_ (qan c (fun g=>q70 g) 106 [] (fun g r hr=>qmp g r hr) o p) ee<|q0 ?_
 refine qg ee a (fun _ a=>?_) (fun _ a=>?_)
 ·refine sr_<|as_ ee<|nt_ ?_
  obtain rfl:=q9 a
  exact fR_ (di_ 8) ee
 refine qh<|qa<|sr_<|mv_ ee ?_
 obtain ⟨f,q,a⟩:=q6 a
 refine pc_ (qil c f q) ee<|mv_ ee<|v_ (.d (.sl 4 (f.1.map qd))) ee<|v_ (di_ f.2) ee<|as_ ee<|as_ ee<|qs<|mv_ ee<|v_ (db_ (f.2 != 0)) ee ?_
 obtain ⟨s,b,a⟩:=q6 a
 refine qq 6 (fun A st=>∃ (j k l m n : V),st = A [(22,db_ s),(21,n),(20,m),(19,l),(18,k),(17,j)]) ?_ ?_
 ·refine qu ee ee b (fun b=>?_) (fun b=>?_)
  ·refine q7 ee<|q7 ee<|q7 ee<|q7 ee<|v_ (db_ true) ee<|q0 ?_
   obtain rfl:=q9 b
   exact ⟨_,_,_,_,_,ee⟩
  refine mv_ ee<|mv_ ee ?_
  obtain ⟨h,t,b⟩:=q6 b
  refine pc_ (q82 f.1 c h t) ee<|v_ (db_ (!h)) ee<|v_ (db_ (!h)) ee<|q0 ?_
  obtain rfl:=q9 b
  exact ⟨_,_,_,_,_,ee⟩
 rintro _ ⟨j,k,l,m,n,rfl⟩
 refine q0 ?_
 refine qg ee a (fun _ a=>?_) (fun _ a=>?_)
 ·refine sr_<|as_ ee<|nt_ ?_
  obtain rfl:=q9 a
  exact fR_ (di_ 8) ee
 refine qh<|sr_<|as_ ee<|nt_ ?_
 obtain rfl:=q9 a
 exact fR_ (di_ 0) ee
theorem qw3 (b : List q8) (c : List q8) (r : Int) (a : qgy b c = some r) : Pure Tryz.prog tab 64 [.sl 6 (b.map qf),.sl 6 (c.map qf)] (i_ r):=by
 unfold qgy at a
 refine qn Tryz.func64 ee (by kernel_rfl) (by kernel_rfl) ee<|sr_<|as_ ee<|q0<|qa<|sr_<|mv_ ee ?_
 obtain ⟨d,h,a⟩:=q6 a
 refine pc_ (qak b d h) ee<|v_ (db_ (d != 0)) ee<|q0 ?_
 refine qg ee a (fun _ a=>?_) (fun _ a=>?_)
 ·refine sr_<|mv_ ee ?_
  obtain ⟨f,j,a⟩:=q6 a
  refine pc_ (qak b f j) ee<|as_ ee<|nt_ ?_
  obtain rfl:=q9 a
  exact fR_ (di_ f) ee
 refine qh<|sr_<|mv_ ee ?_
 obtain ⟨g,k,a⟩:=q6 a
 refine pc_ (qak c g k) ee<|as_ ee<|nt_ ?_
 obtain rfl:=q9 a
 exact fR_ (di_ g) ee
end Go.Proofs.YtjjmcdlnadkjbaaGreat
