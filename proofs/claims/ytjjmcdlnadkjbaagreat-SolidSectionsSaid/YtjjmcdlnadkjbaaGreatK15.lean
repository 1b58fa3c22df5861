/- W_Allb -/
import Derived.Test.YtjjmcdlnadkjbaaGreatK14
namespace Go.Proofs.YtjjmcdlnadkjbaaGreat
open Go Go.Am Go.Sh
set_option maxHeartbeats 8000000
set_option maxRecDepth 100000
theorem qbc (q1 : qc→qc→Option Int) (q1F : FuncId) (q1C : List DV) (q1Ok : ∀ (x0 : qc) (x1 : qc) (r : Int),q1 x0 x1 = some r→Pure Tryz.prog tab q1F ([.agg [i_ x0.at_,i_ x0.list_,i_ x0.by_],.agg [i_ x1.at_,i_ x1.list_,i_ x1.by_]] ++ q1C) (i_ r)) (j : List qc) (b : Int) (s : Int) (k : Int) (r : Int × Bool × List qc) (a : q48 q1 j b s k = some r) : q1j Tryz.prog tab 177 [.hs 0 3 0 j.length,di_ b,di_ s,di_ k,.d (.fn q1F q1C)] [(0,.dat 3 (j.map qj))] 1 (.d (.tup [i_ r.1,.bool r.2.1])) [(0,.dat 3 (r.2.2.map qj))] 1:=by
 unfold q48 at a
 refine q1a Tryz.func177 ee (by kernel_rfl) (by kernel_rfl) ee<|sr_<|as_ ee<|as_ ee<|q0<|qa<|qm [(some [0],[0]),(some [],[]),(some [0],[0]),(some [],[]),(some [0],[]),(some [],[]),(some [],[]),(some [],[]),(some [0],[]),(some [],[]),(some [],[]),(some [],[]),(some [],[]),(some [],[]),(some [],[]),(some [],[])] (by kernel_rfl)<|mv_ ee<|mv_ ee<|mv_ ee<|mv_ ee<|mv_ ee<|mv_ ee ?_
 obtain ⟨f,bd,a⟩:=q6 a
 refine ih_ bd ee ee<|lh_ (.d (.agg [i_ f.at_,i_ f.list_,i_ f.by_])) bd ee<|mv_ ee<|mv_ ee ?_
 obtain ⟨g,be,a⟩:=q6 a
 refine ih_ be ee ee<|lh_ (.d (.agg [i_ g.at_,i_ g.list_,i_ g.by_])) be ee ?_
 obtain ⟨gd,bf,a⟩:=q6 a
 refine ih_ bf ee ee<|q18 (ds:=[i_ f.at_,i_ f.list_,i_ f.by_]) f bf ee ee ee ee ee ee ee ee (leb ee) ee ?_
 obtain ⟨ge,bg,a⟩:=q6 a
 refine ih_ bg (by simp) ee<|q18 (ds:=[i_ g.at_,i_ g.list_,i_ g.by_]) g bg ee ee ee ee ee ee ee ee (leb ee) ee<|qs<|mv_ ee<|v_ (.d (i_ (w64 (b + 1)))) ee<|mv_ ee<|v_ (.d (i_ (w64 (s - 1)))) ee<|as_ ee<|as_ ee<|q0<|qa ?_
 obtain ⟨bh,fq,a⟩:=q6 a
 refine qp (fun l=>l = bh) (fun (l : Int)=>⟨[(0,.hs 0 3 0 ((j.set b.toNat f).set k.toNat g).length),(1,di_ b),(4,.d (.fn q1F q1C)),(12,di_ l),(13,.d (i_ (w64 (s - 1))))],[(0,.dat 3 (((j.set b.toNat f).set k.toNat g).map qj))],1⟩) (by simp) ?_ ?_
 ·refine qt (q3h s j b f k g q1) (fun (av : Int)=>⟨[(0,.hs 0 3 0 ((j.set b.toNat f).set k.toNat g).length),(1,di_ b),(4,.d (.fn q1F q1C)),(12,di_ av),(13,.d (i_ (w64 (s - 1))))],[(0,.dat 3 (((j.set b.toNat f).set k.toNat g).map qj))],1⟩) (w64 (b + 1)) bh fq (wkE [] [] [] ee ⟨⟨_,ee,q16 (by simp) ee (by decide) (ltd ee)⟩,⟨_,ee,.d (.refl _)⟩,⟨_,ee,.d (.refl _)⟩,⟨_,ee,.d (.refl _)⟩,⟨_,ee,.d (.refl _)⟩,trivial⟩ ⟨⟨ltd ee,.inr ⟨by decide,_,ee,.dat _ _⟩⟩,trivial⟩) ?_
  intro av gf t
  unfold q3h at t
  refine qa<|qa<|qm [(some [],[]),(some [],[]),(some [],[]),(some [0],[]),(some [],[]),(some [],[]),(some [],[]),(some [0],[]),(some [],[]),(some [],[]),(some [],[]),(some [],[]),(some [],[]),(some [],[]),(some [],[]),(some [],[])] (by kernel_rfl)<|mv_ ee<|mv_ ee<|v_ (.d (.bool (decide (av≤(w64 (s - 1)))))) ee ?_
  obtain ⟨fr,m,t⟩:=q6 t
  refine qq 13 (fun A st=>∃ (bi bj bk bl bm bn bo bp bq br bs bt : V),st = A [(47,db_ fr),(46,bt),(45,bs),(44,br),(43,bq),(42,bp),(41,bo),(40,bn),(39,bm),(38,bl),(37,bk),(36,bj),(35,bi)]) ?_ ?_
  ·refine qu ee ee m (fun m=>?_) (fun m=>?_)
   ·refine mv_ ee<|mv_ ee<|mv_ ee ?_
    obtain ⟨ab,bu,m⟩:=q6 m
    refine ih_ bu ee ee<|lh_ (.d (.agg [i_ ab.at_,i_ ab.list_,i_ ab.by_])) bu ee<|mv_ ee<|mv_ ee ?_
    obtain ⟨ac,bv,m⟩:=q6 m
    refine ih_ bv ee ee<|lh_ (.d (.agg [i_ ac.at_,i_ ac.list_,i_ ac.by_])) bv ee ?_
    obtain ⟨bb,fs,m⟩:=q6 m
    refine q81 [.d (.agg [i_ ab.at_,i_ ab.list_,i_ ab.by_]),.d (.agg [i_ ac.at_,i_ ac.list_,i_ ac.by_])] (q1Ok ab ac bb fs) ee ee ee (.inl ee)<|v_ (.d (.bool (decide (bb < 0)))) ee<|v_ (.d (.bool (decide (bb < 0)))) ee<|q0 ?_
    obtain rfl:=q9 m
    exact ⟨_,_,_,_,_,_,_,_,_,_,_,_,ee⟩
   refine q7 ee<|q7 ee<|q7 ee<|q7 ee<|q7 ee<|q7 ee<|q7 ee<|q7 ee<|q7 ee<|q7 ee<|q7 ee<|v_ (db_ false) ee<|q0 ?_
   obtain rfl:=q9 m
   exact ⟨_,_,_,_,_,_,_,_,_,_,_,_,ee⟩
  rintro _ ⟨bi,bj,bk,bl,bm,bn,bo,bp,bq,br,bs,bt,rfl⟩
  refine q0 ?_
  refine qg ee t (fun _ t=>?_) (fun _ t=>?_)
  ·refine qh<|ql<|qi<|mv_ ee<|v_ (.d (i_ (w64 (av + 1)))) ee<|as_ ee<|nl_<|qw<|qz ?_
   exact ⟨_,(Option.some.inj t).symm,wkA [] [] []⟩
  refine qv ?_
  refine ⟨_,(Option.some.inj t).symm,fun hm=>?_⟩
  subst hm
  exact ⟨_,ee,wkA [] [] []⟩
 intro l hb
 subst hb
 refine qa ?_
 obtain ⟨bw,ft,a⟩:=q6 a
 refine qp (fun u=>u = bw) (fun (u : Int)=>⟨[(0,.hs 0 3 0 ((j.set b.toNat f).set k.toNat g).length),(1,di_ b),(4,.d (.fn q1F q1C)),(12,di_ l),(13,di_ u)],[(0,.dat 3 (((j.set b.toNat f).set k.toNat g).map qj))],1⟩) (by simp) ?_ ?_
 ·refine qt (q3i l j b f k g q1) (fun (aw : Int)=>⟨[(0,.hs 0 3 0 ((j.set b.toNat f).set k.toNat g).length),(1,di_ b),(4,.d (.fn q1F q1C)),(12,di_ l),(13,di_ aw)],[(0,.dat 3 (((j.set b.toNat f).set k.toNat g).map qj))],1⟩) (w64 (s - 1)) bw ft (wkA [] [] []) ?_
  intro aw gg v
  unfold q3i at v
  refine qa<|qa<|qm [(some [],[]),(some [],[]),(some [],[]),(some [],[]),(some [0],[]),(some [],[]),(some [],[]),(some [],[]),(some [0],[]),(some [],[]),(some [],[]),(some [],[]),(some [],[]),(some [],[]),(some [],[]),(some [],[]),(some [],[])] (by kernel_rfl)<|mv_ ee<|mv_ ee<|v_ (.d (.bool (decide (l≤aw)))) ee ?_
  obtain ⟨fu,n,v⟩:=q6 v
  refine qq 14 (fun A st=>∃ (bz ca cb cc cd ce cf cg ch ci cj ck cl : V),st = A [(66,db_ fu),(65,cl),(64,ck),(63,cj),(62,ci),(61,ch),(60,cg),(59,cf),(58,ce),(57,cd),(56,cc),(55,cb),(54,ca),(53,bz)]) ?_ ?_
  ·refine qu ee ee n (fun n=>?_) (fun n=>?_)
   ·refine mv_ ee<|mv_ ee<|mv_ ee ?_
    obtain ⟨ad,cm,n⟩:=q6 n
    refine ih_ cm ee ee<|lh_ (.d (.agg [i_ ad.at_,i_ ad.list_,i_ ad.by_])) cm ee<|mv_ ee<|mv_ ee ?_
    obtain ⟨ae,cn,n⟩:=q6 n
    refine ih_ cn ee ee<|lh_ (.d (.agg [i_ ae.at_,i_ ae.list_,i_ ae.by_])) cn ee ?_
    obtain ⟨ax,fv,n⟩:=q6 n
    refine q81 [.d (.agg [i_ ad.at_,i_ ad.list_,i_ ad.by_]),.d (.agg [i_ ae.at_,i_ ae.list_,i_ ae.by_])] (q1Ok ad ae ax fv) ee ee ee (.inl ee)<|v_ (.d (.bool (decide (ax < 0)))) ee<|v_ (.d (.bool (!(decide (ax < 0))))) ee<|v_ (.d (.bool (!(decide (ax < 0))))) ee<|q0 ?_
    obtain rfl:=q9 n
    exact ⟨_,_,_,_,_,_,_,_,_,_,_,_,_,ee⟩
   refine q7 ee<|q7 ee<|q7 ee<|q7 ee<|q7 ee<|q7 ee<|q7 ee<|q7 ee<|q7 ee<|q7 ee<|q7 ee<|q7 ee<|v_ (db_ false) ee<|q0 ?_
   obtain rfl:=q9 n
   exact ⟨_,_,_,_,_,_,_,_,_,_,_,_,_,ee⟩
  rintro _ ⟨bz,ca,cb,cc,cd,ce,cf,cg,ch,ci,cj,ck,cl,rfl⟩
  refine q0 ?_
  refine qg ee v (fun _ v=>?_) (fun _ v=>?_)
  ·refine qh<|ql<|qi<|mv_ ee<|v_ (.d (i_ (w64 (aw - 1)))) ee<|as_ ee<|nl_<|qw<|qz ?_
   exact ⟨_,(Option.some.inj v).symm,wkA [] [] []⟩
  refine qv ?_
  refine ⟨_,(Option.some.inj v).symm,fun hm=>?_⟩
  subst hm
  exact ⟨_,ee,wkA [] [] []⟩
 intro u hb
 subst hb
 refine qa<|sr_<|mv_ ee<|mv_ ee<|v_ (.d (.bool (decide (l > u)))) ee<|q0 ?_
 refine qg ee a (fun _ a=>?_) (fun _ a=>?_)
 ·refine qa<|qm [(some [0],[0]),(some [],[]),(some [0],[0]),(some [],[]),(some [0],[]),(some [],[]),(some [],[]),(some [],[]),(some [0],[]),(some [],[]),(some [],[]),(some [],[]),(some [],[]),(some [],[]),(some [],[]),(some [],[])] (by kernel_rfl)<|mv_ ee<|mv_ ee<|mv_ ee<|mv_ ee<|mv_ ee<|mv_ ee ?_
  obtain ⟨af,co,a⟩:=q6 a
  refine ih_ co ee ee<|lh_ (.d (.agg [i_ af.at_,i_ af.list_,i_ af.by_])) co ee<|mv_ ee<|mv_ ee ?_
  obtain ⟨ag,cp,a⟩:=q6 a
  refine ih_ cp ee ee<|lh_ (.d (.agg [i_ ag.at_,i_ ag.list_,i_ ag.by_])) cp ee ?_
  obtain ⟨gh,cq,a⟩:=q6 a
  refine ih_ cq ee ee<|q18 (ds:=[i_ af.at_,i_ af.list_,i_ af.by_]) af cq ee ee ee ee ee ee ee ee (leb ee) ee ?_
  obtain ⟨gi,cr,a⟩:=q6 a
  refine ih_ cr (by simp) ee<|q18 (ds:=[i_ ag.at_,i_ ag.list_,i_ ag.by_]) ag cr ee ee ee ee ee ee ee ee (leb ee) ee<|qs<|mv_ ee<|as_ ee<|as_ ee<|nt_ ?_
  obtain rfl:=q9 a
  exact ⟨.inr ee,_,ee,wkA [] [] []⟩
 refine qh<|qa<|qm [(some [0],[0]),(some [],[]),(some [0],[0]),(some [],[]),(some [0],[]),(some [],[]),(some [],[]),(some [],[]),(some [0],[]),(some [],[]),(some [],[]),(some [],[]),(some [],[]),(some [],[]),(some [],[]),(some [],[])] (by kernel_rfl)<|mv_ ee<|mv_ ee<|mv_ ee<|mv_ ee<|mv_ ee<|mv_ ee ?_
 obtain ⟨w,cs,a⟩:=q6 a
 refine ih_ cs ee ee<|lh_ (.d (.agg [i_ w.at_,i_ w.list_,i_ w.by_])) cs ee<|mv_ ee<|mv_ ee ?_
 obtain ⟨x,ct,a⟩:=q6 a
 refine ih_ ct ee ee<|lh_ (.d (.agg [i_ x.at_,i_ x.list_,i_ x.by_])) ct ee ?_
 obtain ⟨gj,cu,a⟩:=q6 a
 refine ih_ cu ee ee<|q18 (ds:=[i_ w.at_,i_ w.list_,i_ w.by_]) w cu ee ee ee ee ee ee ee ee (leb ee) ee ?_
 obtain ⟨gk,cv,a⟩:=q6 a
 refine ih_ cv (by simp) ee<|q18 (ds:=[i_ x.at_,i_ x.list_,i_ x.by_]) x cv ee ee ee ee ee ee ee ee (leb ee) ee<|qs<|mv_ ee<|v_ (.d (i_ (w64 (l + 1)))) ee<|as_ ee<|qs<|mv_ ee<|v_ (.d (i_ (w64 (u - 1)))) ee<|as_ ee<|q0<|qa ?_
 obtain ⟨cw,fw,a⟩:=q6 a
 refine qp (fun ap=>ap = cw) (fun (ap : Int × List qc)=>⟨[(0,.hs 0 3 0 ap.2.length),(1,di_ b),(13,di_ ap.1)],[(0,.dat 3 (ap.2.map qj))],1⟩) (by simp) ?_ ?_
 ·refine qt (q3j b q1) (fun (c : Int × Int × List qc)=>⟨[(0,.hs 0 3 0 c.2.2.length),(1,di_ b),(4,.d (.fn q1F q1C)),(12,di_ c.1),(13,di_ c.2.1)],[(0,.dat 3 (c.2.2.map qj))],1⟩) (w64 (l + 1),w64 (u - 1),(((j.set b.toNat f).set k.toNat g).set l.toNat w).set u.toNat x) cw fw (wkE [] [] [] ee ⟨⟨_,ee,q16 (by simp) ee (by decide) (ltd ee)⟩,⟨_,ee,.d (.refl _)⟩,⟨_,ee,.d (.refl _)⟩,⟨_,ee,.d (.refl _)⟩,⟨_,ee,.d (.refl _)⟩,trivial⟩ ⟨⟨ltd ee,.inr ⟨by decide,_,ee,.dat _ _⟩⟩,trivial⟩) ?_
  intro c gl h
  unfold q3j at h
  refine ql<|qa ?_
  obtain ⟨cx,fx,h⟩:=q6 h
  refine qp (fun q=>q = cx) (fun (q : Int)=>⟨[(0,.hs 0 3 0 c.2.2.length),(1,di_ b),(4,.d (.fn q1F q1C)),(12,di_ q),(13,di_ c.2.1)],[(0,.dat 3 (c.2.2.map qj))],1⟩) (by simp) ?_ ?_
  ·refine qt (q3k c b q1) (fun (ay : Int)=>⟨[(0,.hs 0 3 0 c.2.2.length),(1,di_ b),(4,.d (.fn q1F q1C)),(12,di_ ay),(13,di_ c.2.1)],[(0,.dat 3 (c.2.2.map qj))],1⟩) c.1 cx fx (wkA [] [] []) ?_
   intro ay gm y
   unfold q3k at y
   refine qa<|qa<|qm [(some [],[]),(some [],[]),(some [],[]),(some [0],[]),(some [],[]),(some [],[]),(some [],[]),(some [0],[]),(some [],[]),(some [],[]),(some [],[]),(some [],[]),(some [],[]),(some [],[]),(some [],[]),(some [],[])] (by kernel_rfl)<|mv_ ee<|mv_ ee<|v_ (.d (.bool (decide (ay≤c.2.1)))) ee ?_
   obtain ⟨fy,o,y⟩:=q6 y
   refine qq 13 (fun A st=>∃ (cy cz da dc dd de df dg dh dj dk dl : V),st = A [(120,db_ fy),(119,dl),(118,dk),(117,dj),(116,dh),(115,dg),(114,df),(113,de),(112,dd),(111,dc),(110,da),(109,cz),(108,cy)]) ?_ ?_
   ·refine qu ee ee o (fun o=>?_) (fun o=>?_)
    ·refine mv_ ee<|mv_ ee<|mv_ ee ?_
     obtain ⟨ah,dm,o⟩:=q6 o
     refine ih_ dm ee ee<|lh_ (.d (.agg [i_ ah.at_,i_ ah.list_,i_ ah.by_])) dm ee<|mv_ ee<|mv_ ee ?_
     obtain ⟨ai,dn,o⟩:=q6 o
     refine ih_ dn ee ee<|lh_ (.d (.agg [i_ ai.at_,i_ ai.list_,i_ ai.by_])) dn ee ?_
     obtain ⟨bc,fz,o⟩:=q6 o
     refine q81 [.d (.agg [i_ ah.at_,i_ ah.list_,i_ ah.by_]),.d (.agg [i_ ai.at_,i_ ai.list_,i_ ai.by_])] (q1Ok ah ai bc fz) ee ee ee (.inl ee)<|v_ (.d (.bool (decide (bc < 0)))) ee<|v_ (.d (.bool (decide (bc < 0)))) ee<|q0 ?_
     obtain rfl:=q9 o
     exact ⟨_,_,_,_,_,_,_,_,_,_,_,_,ee⟩
    refine q7 ee<|q7 ee<|q7 ee<|q7 ee<|q7 ee<|q7 ee<|q7 ee<|q7 ee<|q7 ee<|q7 ee<|q7 ee<|v_ (db_ false) ee<|q0 ?_
    obtain rfl:=q9 o
    exact ⟨_,_,_,_,_,_,_,_,_,_,_,_,ee⟩
   rintro _ ⟨cy,cz,da,dc,dd,de,df,dg,dh,dj,dk,dl,rfl⟩
   refine q0 ?_
   refine qg ee y (fun _ y=>?_) (fun _ y=>?_)
   ·refine qh<|ql<|qi<|mv_ ee<|v_ (.d (i_ (w64 (ay + 1)))) ee<|as_ ee<|nl_<|qw<|qz ?_
    exact ⟨_,(Option.some.inj y).symm,wkA [] [] []⟩
   refine qv ?_
   refine ⟨_,(Option.some.inj y).symm,fun hm=>?_⟩
   subst hm
   exact ⟨_,ee,wkA [] [] []⟩
  intro q hb
  subst hb
  refine qa ?_
  obtain ⟨dp,ga,h⟩:=q6 h
  refine qp (fun aq=>aq = dp) (fun (aq : Int)=>⟨[(0,.hs 0 3 0 c.2.2.length),(1,di_ b),(4,.d (.fn q1F q1C)),(12,di_ q),(13,di_ aq)],[(0,.dat 3 (c.2.2.map qj))],1⟩) (by simp) ?_ ?_
  ·refine qt (q3l q c b q1) (fun (az : Int)=>⟨[(0,.hs 0 3 0 c.2.2.length),(1,di_ b),(4,.d (.fn q1F q1C)),(12,di_ q),(13,di_ az)],[(0,.dat 3 (c.2.2.map qj))],1⟩) c.2.1 dp ga (wkA [] [] []) ?_
   intro az gn z
   unfold q3l at z
   refine qa<|qa<|qm [(some [],[]),(some [],[]),(some [],[]),(some [],[]),(some [0],[]),(some [],[]),(some [],[]),(some [],[]),(some [0],[]),(some [],[]),(some [],[]),(some [],[]),(some [],[]),(some [],[]),(some [],[]),(some [],[]),(some [],[])] (by kernel_rfl)<|mv_ ee<|mv_ ee<|v_ (.d (.bool (decide (q≤az)))) ee ?_
   obtain ⟨gb,p,z⟩:=q6 z
   refine qq 14 (fun A st=>∃ (dq dr dt du dv dw dx dy dz fa fb fc fd : V),st = A [(139,db_ gb),(138,fd),(137,fc),(136,fb),(135,fa),(134,dz),(133,dy),(132,dx),(131,dw),(130,dv),(129,du),(128,dt),(127,dr),(126,dq)]) ?_ ?_
   ·refine qu ee ee p (fun p=>?_) (fun p=>?_)
    ·refine mv_ ee<|mv_ ee<|mv_ ee ?_
     obtain ⟨aj,fe,p⟩:=q6 p
     refine ih_ fe ee ee<|lh_ (.d (.agg [i_ aj.at_,i_ aj.list_,i_ aj.by_])) fe ee<|mv_ ee<|mv_ ee ?_
     obtain ⟨ak,ff,p⟩:=q6 p
     refine ih_ ff ee ee<|lh_ (.d (.agg [i_ ak.at_,i_ ak.list_,i_ ak.by_])) ff ee ?_
     obtain ⟨ba,gc,p⟩:=q6 p
     refine q81 [.d (.agg [i_ aj.at_,i_ aj.list_,i_ aj.by_]),.d (.agg [i_ ak.at_,i_ ak.list_,i_ ak.by_])] (q1Ok aj ak ba gc) ee ee ee (.inl ee)<|v_ (.d (.bool (decide (ba < 0)))) ee<|v_ (.d (.bool (!(decide (ba < 0))))) ee<|v_ (.d (.bool (!(decide (ba < 0))))) ee<|q0 ?_
     obtain rfl:=q9 p
     exact ⟨_,_,_,_,_,_,_,_,_,_,_,_,_,ee⟩
    refine q7 ee<|q7 ee<|q7 ee<|q7 ee<|q7 ee<|q7 ee<|q7 ee<|q7 ee<|q7 ee<|q7 ee<|q7 ee<|q7 ee<|v_ (db_ false) ee<|q0 ?_
    obtain rfl:=q9 p
    exact ⟨_,_,_,_,_,_,_,_,_,_,_,_,_,ee⟩
   rintro _ ⟨dq,dr,dt,du,dv,dw,dx,dy,dz,fa,fb,fc,fd,rfl⟩
   refine q0 ?_
   refine qg ee z (fun _ z=>?_) (fun _ z=>?_)
   ·refine qh<|ql<|qi<|mv_ ee<|v_ (.d (i_ (w64 (az - 1)))) ee<|as_ ee<|nl_<|qw<|qz ?_
    exact ⟨_,(Option.some.inj z).symm,wkA [] [] []⟩
   refine qv ?_
   refine ⟨_,(Option.some.inj z).symm,fun hm=>?_⟩
   subst hm
   exact ⟨_,ee,wkA [] [] []⟩
  intro aq hb
  subst hb
  refine qa<|sr_<|mv_ ee<|mv_ ee<|v_ (.d (.bool (decide (q > aq)))) ee<|q0 ?_
  refine qg ee h (fun _ h=>?_) (fun _ h=>?_)
  ·refine qv ?_
   refine ⟨_,(Option.some.inj h).symm,fun hm=>?_⟩
   subst hm
   exact ⟨_,ee,wkA [] [] []⟩
  refine qh<|qa<|qm [(some [0],[0]),(some [],[]),(some [0],[0]),(some [],[]),(some [0],[]),(some [],[]),(some [],[]),(some [],[]),(some [0],[]),(some [],[]),(some [],[]),(some [],[]),(some [],[]),(some [],[]),(some [],[]),(some [],[])] (by kernel_rfl)<|mv_ ee<|mv_ ee<|mv_ ee<|mv_ ee<|mv_ ee<|mv_ ee ?_
  obtain ⟨al,fg,h⟩:=q6 h
  refine ih_ fg ee ee<|lh_ (.d (.agg [i_ al.at_,i_ al.list_,i_ al.by_])) fg ee<|mv_ ee<|mv_ ee ?_
  obtain ⟨am,fh,h⟩:=q6 h
  refine ih_ fh ee ee<|lh_ (.d (.agg [i_ am.at_,i_ am.list_,i_ am.by_])) fh ee ?_
  obtain ⟨go,fi,h⟩:=q6 h
  refine ih_ fi ee ee<|q18 (ds:=[i_ al.at_,i_ al.list_,i_ al.by_]) al fi ee ee ee ee ee ee ee ee (leb ee) ee ?_
  obtain ⟨gp,fj,h⟩:=q6 h
  refine ih_ fj (by simp) ee<|q18 (ds:=[i_ am.at_,i_ am.list_,i_ am.by_]) am fj ee ee ee ee ee ee ee ee (leb ee) ee<|qs<|mv_ ee<|v_ (.d (i_ (w64 (q + 1)))) ee<|as_ ee<|q0<|qi<|mv_ ee<|v_ (.d (i_ (w64 (aq - 1)))) ee<|as_ ee<|nl_<|qw<|qz ?_
  exact ⟨_,(Option.some.inj h).symm,wkE [] [] [] ee ⟨⟨_,ee,q16 (by simp) ee (by decide) (ltd ee)⟩,⟨_,ee,.d (.refl _)⟩,⟨_,ee,.d (.refl _)⟩,⟨_,ee,.d (.refl _)⟩,⟨_,ee,.d (.refl _)⟩,trivial⟩ ⟨⟨ltd ee,.inr ⟨by decide,_,ee,.dat _ _⟩⟩,trivial⟩⟩
 intro ap hb
 subst hb
 refine qa<|qm [(some [0],[0]),(some [],[]),(some [0],[0]),(some [],[]),(some [0],[]),(some [],[]),(some [],[]),(some [],[]),(some [0],[]),(some [],[]),(some [],[]),(some [],[]),(some [],[]),(some [],[]),(some [],[]),(some [],[])] (by kernel_rfl)<|mv_ ee<|mv_ ee<|mv_ ee<|mv_ ee<|mv_ ee<|mv_ ee ?_
 obtain ⟨an,fk,a⟩:=q6 a
 refine ih_ fk ee ee<|lh_ (.d (.agg [i_ an.at_,i_ an.list_,i_ an.by_])) fk ee<|mv_ ee<|mv_ ee ?_
 obtain ⟨ao,fl,a⟩:=q6 a
 refine ih_ fl ee ee<|lh_ (.d (.agg [i_ ao.at_,i_ ao.list_,i_ ao.by_])) fl ee ?_
 obtain ⟨gq,fm,a⟩:=q6 a
 refine ih_ fm ee ee<|q18 (ds:=[i_ an.at_,i_ an.list_,i_ an.by_]) an fm ee ee ee ee ee ee ee ee (leb ee) ee ?_
 obtain ⟨gr,fo,a⟩:=q6 a
 refine ih_ fo (by simp) ee<|q18 (ds:=[i_ ao.at_,i_ ao.list_,i_ ao.by_]) ao fo ee ee ee ee ee ee ee ee (leb ee) ee<|qs<|mv_ ee<|as_ ee<|as_ ee<|nt_ ?_
 obtain rfl:=q9 a
 exact ⟨.inr ee,_,ee,wkA [] [] []⟩
theorem qa9 (s : qc→qc→Option Int) (q1F : FuncId) (q1C : List DV) (_q1Ok : ∀ (o : qc) (p : qc) (r : Int),s o p = some r→Pure Tryz.prog tab q1F ([.agg [i_ o.at_,i_ o.list_,i_ o.by_],.agg [i_ p.at_,i_ p.list_,i_ p.by_]] ++ q1C) (i_ r)) (q : List qc) (a : Int) (b : Int) (r : List qc) (g : q33 s q a b = some r) : q1j Tryz.prog tab 172 [.hs 0 3 0 q.length,di_ a,di_ b,.d (.fn q1F q1C)] [(0,.dat 3 (q.map qj))] 1 (.d (.tup [])) [(0,.dat 3 (r.map qj))] 1:=by
 unfold q33 at g
 refine q1a Tryz.func172 ee (by kernel_rfl) (by kernel_rfl) ee<|sr_<|mv_ ee<|mv_ ee<|v_ (.d (i_ (w64 (b - a)))) ee<|as_ ee<|qs<|mv_ ee<|v_ (.d (.bool (decide ((w64 (b - a)) ≥ 8)))) ee<|q0 ?_
 refine qg ee g (fun _ g=>?_) (fun _ g=>?_)
 ·refine sr_<|mv_ ee<|v_ (.d (.int .u64 (IntKind.wrap .u64 (w64 (b - a))))) ee<|q13 ee ee<|q1f 1 (.dat 1 [[.int .u64 (IntKind.wrap .u64 (w64 (b - a)))]]) ee<|qs<|mv_ ee ?_
  obtain ⟨h,x,g⟩:=q6 g
  refine pc_ (qcm (w64 (b - a)) h x) ee<|as_ ee<|qs<|mv_ ee<|mv_ ee<|v_ (.d (i_ (w64 (Int.tdiv (w64 (b - a)) 4)))) ee<|v_ (.d (i_ (w64 ((w64 (Int.tdiv (w64 (b - a)) 4)) * 2)))) ee<|v_ (.d (i_ (w64 (a + (w64 ((w64 (Int.tdiv (w64 (b - a)) 4)) * 2)))))) ee<|v_ (.d (i_ (w64 ((w64 (a + (w64 ((w64 (Int.tdiv (w64 (b - a)) 4)) * 2)))) - 1)))) ee<|as_ ee<|q0 ?_
  obtain ⟨y,z,g⟩:=q6 g
  refine ql<|qt (q2l a b h) (fun (f : Int × List qc × Int)=>⟨[(0,.hs 0 3 0 f.2.1.length),(1,di_ a),(8,.d (i_ (w64 (b - a)))),(9,.ref 1 1 0 0),(10,.d (.int .u64 h)),(11,di_ f.1)],[(0,.dat 3 (f.2.1.map qj)),(1,.dat 1 [[.int .u64 f.2.2]])],2⟩) (w64 ((w64 (a + (w64 ((w64 (Int.tdiv (w64 (b - a)) 4)) * 2)))) - 1),q,IntKind.wrap .u64 (w64 (b - a))) y z (wkA [(1,1)] [] []) ?_
  intro f ac c
  unfold q2l at c
  refine qa<|sr_<|mv_ ee<|mv_ ee<|mv_ ee<|v_ (.d (i_ (w64 (Int.tdiv (w64 (b - a)) 4)))) ee<|v_ (.d (i_ (w64 ((w64 (Int.tdiv (w64 (b - a)) 4)) * 2)))) ee<|v_ (.d (i_ (w64 (a + (w64 ((w64 (Int.tdiv (w64 (b - a)) 4)) * 2)))))) ee<|v_ (.d (i_ (w64 ((w64 (a + (w64 ((w64 (Int.tdiv (w64 (b - a)) 4)) * 2)))) + 1)))) ee<|v_ (.d (.bool (decide (f.1≤(w64 ((w64 (a + (w64 ((w64 (Int.tdiv (w64 (b - a)) 4)) * 2)))) + 1)))))) ee<|q0 ?_
  refine qg ee c (fun _ c=>?_) (fun _ c=>?_)
  ·refine qh<|qa<|ql<|sr_ ?_
   obtain ⟨j,aa,c⟩:=q6 c
   refine q41 [(0,1)] [(0,1),(1,0)] [.ref 1 1 0 0] (.d (.int .u64 j)) 1 [(1,.dat 1 [[.int .u64 j]]),(0,.dat 3 (f.2.1.map qj))] 2 (qat f.2.2 j aa)<|mv_ ee<|v_ (.d (.int .u64 (IntKind.wrap .u64 (h - 1)))) ee<|v_ (.d (.int .u64 (andI .u64 j (IntKind.wrap .u64 (h - 1))))) ee<|v_ (.d (i_ (w64 (andI .u64 j (IntKind.wrap .u64 (h - 1)))))) ee<|as_ ee<|q0<|qa<|sr_<|mv_ ee<|mv_ ee<|v_ (.d (.bool (decide ((w64 (andI .u64 j (IntKind.wrap .u64 (h - 1)))) ≥ (w64 (b - a)))))) ee<|q0 ?_
   obtain ⟨ab,n,c⟩:=q6 c
   refine q74 (fun m=>m = ab) (fun (m : Int)=>⟨[(0,.hs 0 3 0 f.2.1.length),(1,di_ a),(8,.d (i_ (w64 (b - a)))),(9,.ref 1 1 0 0),(10,.d (.int .u64 h)),(11,di_ f.1),(12,di_ m)],[(0,.dat 3 (f.2.1.map qj)),(1,.dat 1 [[.int .u64 j]])],2⟩) (by simp) ?_ ?_
   ·refine qg ee n (fun _ n=>?_) (fun _ n=>?_)
    ·refine qi<|mv_ ee<|mv_ ee<|v_ (.d (i_ (w64 ((w64 (andI .u64 j (IntKind.wrap .u64 (h - 1)))) - (w64 (b - a)))))) ee<|as_ ee<|nl_ ?_
     obtain rfl:=q9 n
     exact ⟨_,ee,wkA [(1,1)] [] []⟩
    refine qh<|qz ?_
    obtain rfl:=q9 n
    exact ⟨_,ee,wkA [(1,1)] [] []⟩
   intro m hb
   subst hb
   refine qm [(some [0],[0]),(some [],[]),(some [0],[0]),(some [],[]),(some [0],[]),(some [],[]),(some [],[]),(some [],[]),(some [0],[]),(some [],[]),(some [],[]),(some [],[]),(some [],[]),(some [],[]),(some [],[]),(some [],[]),(some [],[]),(some [],[]),(some [],[]),(some [],[])] (by kernel_rfl)<|mv_ ee<|mv_ ee<|mv_ ee<|mv_ ee<|mv_ ee<|v_ (.d (i_ (w64 (a + m)))) ee<|mv_ ee<|mv_ ee<|mv_ ee<|v_ (.d (i_ (w64 (a + m)))) ee ?_
   obtain ⟨k,t,c⟩:=q6 c
   refine ih_ t ee ee<|lh_ (.d (.agg [i_ k.at_,i_ k.list_,i_ k.by_])) t ee<|mv_ ee<|mv_ ee ?_
   obtain ⟨l,u,c⟩:=q6 c
   refine ih_ u ee ee<|lh_ (.d (.agg [i_ l.at_,i_ l.list_,i_ l.by_])) u ee ?_
   obtain ⟨ad,v,c⟩:=q6 c
   refine ih_ v ee ee<|q18 (ds:=[i_ k.at_,i_ k.list_,i_ k.by_]) k v ee ee ee ee ee ee ee ee (leb ee) ee ?_
   obtain ⟨ae,w,c⟩:=q6 c
   refine ih_ w (by simp) ee<|q18 (ds:=[i_ l.at_,i_ l.list_,i_ l.by_]) l w ee ee ee ee ee ee ee ee (leb ee) ee<|nl_<|qw<|qi<|mv_ ee<|v_ (.d (i_ (w64 (f.1 + 1)))) ee<|as_ ee<|nl_ ?_
   exact ⟨_,(Option.some.inj c).symm,wkE [(1,1)] [] [] ee ⟨⟨_,ee,q16 (by simp) ee (by decide) (ltd ee)⟩,⟨_,ee,.d (.refl _)⟩,⟨_,ee,.d (.refl _)⟩,⟨_,ee,.ref ee (by decide) (ltd ee)⟩,⟨_,ee,.d (.refl _)⟩,⟨_,ee,.d (.refl _)⟩,trivial⟩ ⟨⟨ltd ee,.inr ⟨by decide,_,ee,.dat _ _⟩⟩,⟨ltd ee,.inr ⟨by decide,_,ee,.dat _ _⟩⟩,trivial⟩⟩
  refine qv ?_
  refine ⟨_,(Option.some.inj c).symm,fun hm=>?_⟩
  subst hm
  obtain rfl:=q9 g
  exact ⟨.inl ee,_,ee,wkA [] [] []⟩
 refine qh<|qz ?_
 obtain rfl:=q9 g
 exact ⟨.inl ee,_,ee,wkA [] [] []⟩
theorem qbe (rec : List qc→Int→Int→Int→Option (List qc)) (j : qc→qc→Option Int) (q1F : FuncId) (q1C : List DV) (q1Ok : ∀ (z : qc) (x1 : qc) (r : Int),j z x1 = some r→Pure Tryz.prog tab q1F ([.agg [i_ z.at_,i_ z.list_,i_ z.by_],.agg [i_ x1.at_,i_ x1.list_,i_ x1.by_]] ++ q1C) (i_ r)) (hrec : ∀ (o : List qc) (s : Int) (t : Int) (u : Int) (r : List qc),rec o s t u = some r→q1j Tryz.prog tab 168 [.hs 0 3 0 o.length,di_ s,di_ t,di_ u,.d (.fn q1F q1C)] [(0,.dat 3 (o.map qj))] 1 (.d (.tup [])) [(0,.dat 3 (r.map qj))] 1) (o : List qc) (s : Int) (t : Int) (u : Int) (r : List qc) (v : q2t rec j o s t u = some r) : q1j Tryz.prog tab 168 [.hs 0 3 0 o.length,di_ s,di_ t,di_ u,.d (.fn q1F q1C)] [(0,.dat 3 (o.map qj))] 1 (.d (.tup [])) [(0,.dat 3 (r.map qj))] 1:=by
 unfold q2t at v
 refine q1a Tryz.func168 ee (by kernel_rfl) (by kernel_rfl) ee<|sr_<|as_ ee<|qs<|as_ ee<|q0 ?_
 obtain ⟨bi,bj,v⟩:=q6 v
 refine ql<|qt (q2o j rec) (fun (a : Int × Int × Int × Bool × Bool × List qc)=>⟨[(0,.hs 0 3 0 a.2.2.2.2.2.length),(1,di_ a.1),(2,di_ a.2.1),(3,di_ a.2.2.1),(4,.d (.fn q1F q1C)),(10,db_ a.2.2.2.1),(11,db_ a.2.2.2.2.1)],[(0,.dat 3 (a.2.2.2.2.2.map qj))],1⟩) (s,t,u,true,true,o) bi bj (wkA [] [] []) ?_
 intro a cs b
 unfold q2o at b
 refine ql<|sr_<|mv_ ee<|mv_ ee<|v_ (.d (i_ (w64 (a.2.1 - a.1)))) ee<|as_ ee<|q0<|qa<|sr_<|mv_ ee<|v_ (.d (.bool (decide ((w64 (a.2.1 - a.1))≤12)))) ee<|q0 ?_
 refine qg ee b (fun _ b=>?_) (fun _ b=>?_)
 ·refine sr_<|mv_ ee<|mv_ ee<|mv_ ee<|mv_ ee ?_
  obtain ⟨ah,bk,b⟩:=q6 b
  obtain ⟨ct,bl,b⟩:=q6 b
  have cu:=q1h bl
  refine q41 [(0,0)] [(0,0)] [.hs 0 3 0 a.2.2.2.2.2.length,di_ a.1,di_ a.2.1,.d (.fn q1F q1C)] (.d (.tup [])) 1 [(0,.dat 3 (ah.map qj))] 1 (qaa j q1F q1C q1Ok a.2.2.2.2.2 a.1 a.2.1 ah bk)<|nt_ ?_
  refine ⟨_,(Option.some.inj b).symm,fun hm=>?_⟩
  subst hm
  obtain rfl:=q9 v
  exact ⟨.inr ee,_,ee,wkA [] [] []⟩
 refine qh<|qa<|sr_<|mv_ ee<|v_ (db_ (a.2.2.1 == 0)) ee<|q0 ?_
 refine qg ee b (fun _ b=>?_) (fun _ b=>?_)
 ·refine sr_<|mv_ ee<|mv_ ee<|mv_ ee<|mv_ ee ?_
  obtain ⟨ai,bm,b⟩:=q6 b
  obtain ⟨cv,bn,b⟩:=q6 b
  have cw:=q1h bn
  refine q41 [(0,0)] [(0,0)] [.hs 0 3 0 a.2.2.2.2.2.length,di_ a.1,di_ a.2.1,.d (.fn q1F q1C)] (.d (.tup [])) 1 [(0,.dat 3 (ai.map qj))] 1 (qbt j q1F q1C q1Ok a.2.2.2.2.2 a.1 a.2.1 ai bm)<|nt_ ?_
  refine ⟨_,(Option.some.inj b).symm,fun hm=>?_⟩
  subst hm
  obtain rfl:=q9 v
  exact ⟨.inr ee,_,ee,wkA [] [] []⟩
 refine qh<|qa<|sr_<|mv_ ee<|v_ (db_ (!a.2.2.2.1)) ee<|q0 ?_
 obtain ⟨bo,m,b⟩:=q6 b
 refine q74 (fun f=>f = bo) (fun (f : Int × List qc)=>⟨[(0,.hs 0 3 0 f.2.length),(1,di_ a.1),(2,di_ a.2.1),(3,di_ f.1),(4,.d (.fn q1F q1C)),(10,db_ a.2.2.2.1),(11,db_ a.2.2.2.2.1),(12,.d (i_ (w64 (a.2.1 - a.1))))],[(0,.dat 3 (f.2.map qj))],1⟩) (by simp) ?_ ?_
 ·refine qg ee m (fun _ m=>?_) (fun _ m=>?_)
  ·refine sr_<|mv_ ee<|mv_ ee<|mv_ ee<|mv_ ee ?_
   obtain ⟨aj,bp,m⟩:=q6 m
   obtain ⟨cx,bq,m⟩:=q6 m
   have br:=q1h bq
   refine q41 [(0,0)] [(0,0)] [.hs 0 3 0 a.2.2.2.2.2.length,di_ a.1,di_ a.2.1,.d (.fn q1F q1C)] (.d (.tup [])) 1 [(0,.dat 3 (aj.map qj))] 1 (qa9 j q1F q1C q1Ok a.2.2.2.2.2 a.1 a.2.1 aj bp)<|q0<|qi<|mv_ ee<|v_ (.d (i_ (w64 (a.2.2.1 - 1)))) ee<|as_ ee<|nl_ ?_
   obtain rfl:=q9 m
   exact ⟨_,ee,wkE [] [] [] ee ⟨⟨_,ee,q16 (by simp [br]) ee (by decide) (ltd ee)⟩,⟨_,ee,.d (.refl _)⟩,⟨_,ee,.d (.refl _)⟩,⟨_,ee,.d (.refl _)⟩,⟨_,ee,.d (.refl _)⟩,⟨_,ee,.d (.refl _)⟩,⟨_,ee,.d (.refl _)⟩,⟨_,ee,.d (.refl _)⟩,trivial⟩ ⟨⟨ltd ee,.inr ⟨by decide,_,ee,.dat _ _⟩⟩,trivial⟩⟩
  refine qh<|qz ?_
  obtain rfl:=q9 m
  exact ⟨_,ee,wkA [] [] []⟩
 intro f hb
 subst hb
 refine sr_<|mv_ ee<|mv_ ee<|mv_ ee<|mv_ ee ?_
 obtain ⟨w,bs,b⟩:=q6 b
 refine qpb [.hs 0 3 0 f.2.length,di_ a.1,di_ a.2.1,.d (.fn q1F q1C)] (qc5 f.2 a.1 a.2.1 j q1F q1C q1Ok w bs) ee ee (qaf (qc1 ee ee) (qaf ee (qaf ee (qaf ee ee)))) (.inr ee)<|mv_ ee<|v_ (di_ w.1) ee<|v_ (di_ w.2) ee<|as_ ee<|as_ ee<|q0<|qa<|sr_<|mv_ ee<|v_ (db_ (w.2 == 2)) ee<|q0 ?_
 obtain ⟨bt,n,b⟩:=q6 b
 refine q74 (fun g=>g = bt) (fun (g : Int × Int × List qc)=>⟨[(0,.hs 0 3 0 g.2.2.length),(1,di_ a.1),(2,di_ a.2.1),(3,di_ f.1),(4,.d (.fn q1F q1C)),(10,db_ a.2.2.2.1),(11,db_ a.2.2.2.2.1),(12,.d (i_ (w64 (a.2.1 - a.1)))),(13,di_ g.1),(14,di_ g.2.1)],[(0,.dat 3 (g.2.2.map qj))],1⟩) (by simp) ?_ ?_
 ·refine qg ee n (fun _ n=>?_) (fun _ n=>?_)
  ·refine sr_<|mv_ ee<|mv_ ee<|mv_ ee<|mv_ ee ?_
   obtain ⟨ak,bu,n⟩:=q6 n
   obtain ⟨cy,bv,n⟩:=q6 n
   have bw:=q1h bv
   refine q41 [(0,0)] [(0,0)] [.hs 0 3 0 f.2.length,di_ a.1,di_ a.2.1,.d (.fn q1F q1C)] (.d (.tup [])) 1 [(0,.dat 3 (ak.map qj))] 1 (qao j q1F q1C q1Ok f.2 a.1 a.2.1 ak bu)<|qs<|mv_ ee<|v_ (.d (i_ (w64 (a.2.1 - 1)))) ee<|mv_ ee<|mv_ ee<|v_ (.d (i_ (w64 (w.1 - a.1)))) ee<|v_ (.d (i_ (w64 ((w64 (a.2.1 - 1)) - (w64 (w.1 - a.1)))))) ee<|as_ ee<|q0<|qi<|as_ ee<|nl_ ?_
   obtain rfl:=q9 n
   exact ⟨_,ee,wkE [] [] [] ee ⟨⟨_,ee,q16 (by simp [bw]) ee (by decide) (ltd ee)⟩,⟨_,ee,.d (.refl _)⟩,⟨_,ee,.d (.refl _)⟩,⟨_,ee,.d (.refl _)⟩,⟨_,ee,.d (.refl _)⟩,⟨_,ee,.d (.refl _)⟩,⟨_,ee,.d (.refl _)⟩,⟨_,ee,.d (.refl _)⟩,⟨_,ee,.d (.refl _)⟩,⟨_,ee,.d (.refl _)⟩,trivial⟩ ⟨⟨ltd ee,.inr ⟨by decide,_,ee,.dat _ _⟩⟩,trivial⟩⟩
  refine qh<|qz ?_
  obtain rfl:=q9 n
  exact ⟨_,ee,wkA [] [] []⟩
 intro g hb
 subst hb
 refine qa<|sr_<|mv_ ee ?_
 obtain ⟨bz,x,b⟩:=q6 b
 refine qq 3 (fun A st=>∃ (al am : V),st = A [(71,db_ bz),(70,am),(69,al)]) ?_ ?_
 ·refine qu ee ee x (fun x=>?_) (fun x=>?_)
  ·refine mv_ ee<|v_ (db_ a.2.2.2.2.1) ee<|q0 ?_
   obtain rfl:=q9 x
   exact ⟨_,_,ee⟩
  refine q7 ee<|v_ (db_ false) ee<|q0 ?_
  obtain rfl:=q9 x
  exact ⟨_,_,ee⟩
 rintro _ ⟨al,am,rfl⟩
 obtain ⟨ca,y,b⟩:=q6 b
 refine qq 4 (fun A st=>∃ (an ao ap : V),st = A [(75,db_ ca),(74,ap),(73,ao),(72,an)]) ?_ ?_
 ·refine qu ee ee y (fun y=>?_) (fun y=>?_)
  ·refine mv_ ee<|v_ (db_ (g.2.1 == 1)) ee<|v_ (db_ (g.2.1 == 1)) ee<|q0 ?_
   obtain rfl:=q9 y
   exact ⟨_,_,_,ee⟩
  refine q7 ee<|q7 ee<|v_ (db_ false) ee<|q0 ?_
  obtain rfl:=q9 y
  exact ⟨_,_,_,ee⟩
 rintro _ ⟨an,ao,ap,rfl⟩
 refine q0 ?_
 obtain ⟨cb,h,b⟩:=q6 b
 refine q74 (fun k=>.inl k = cb) (fun (k : List qc)=>⟨[(0,.hs 0 3 0 k.length),(1,di_ a.1),(2,di_ a.2.1),(3,di_ f.1),(4,.d (.fn q1F q1C)),(10,db_ a.2.2.2.1),(11,db_ a.2.2.2.2.1),(12,.d (i_ (w64 (a.2.1 - a.1)))),(13,di_ g.1)],[(0,.dat 3 (k.map qj))],1⟩) (by simp) ?_ ?_
 ·refine qg ee h (fun _ h=>?_) (fun _ h=>?_)
  ·refine sr_<|mv_ ee<|mv_ ee<|mv_ ee<|mv_ ee ?_
   obtain ⟨ad,cc,h⟩:=q6 h
   obtain ⟨cz,cd,h⟩:=q6 h
   have ce:=q1h cd
   refine q41 [(0,0)] [(0,0)] [.hs 0 3 0 g.2.2.length,di_ a.1,di_ a.2.1,.d (.fn q1F q1C)] (db_ ad.1) 1 [(0,.dat 3 (ad.2.map qj))] 1 (q8m j q1F q1C q1Ok g.2.2 a.1 a.2.1 ad cc)<|q0 ?_
   refine qg ee h (fun _ h=>?_) (fun _ h=>?_)
   ·refine qh4 ?_
    obtain rfl:=q9 h
    refine ⟨_,(Option.some.inj b).symm,fun hm=>?_⟩
    subst hm
    obtain rfl:=q9 v
    exact ⟨.inr ee,_,ee,wkA [] [] []⟩
   refine qh<|qz ?_
   obtain rfl:=q9 h
   exact ⟨_,ee,wkE [] [] [] ee ⟨⟨_,ee,q16 (by simp [ce]) ee (by decide) (ltd ee)⟩,⟨_,ee,.d (.refl _)⟩,⟨_,ee,.d (.refl _)⟩,⟨_,ee,.d (.refl _)⟩,⟨_,ee,.d (.refl _)⟩,⟨_,ee,.d (.refl _)⟩,⟨_,ee,.d (.refl _)⟩,⟨_,ee,.d (.refl _)⟩,⟨_,ee,.d (.refl _)⟩,trivial⟩ ⟨⟨ltd ee,.inr ⟨by decide,_,ee,.dat _ _⟩⟩,trivial⟩⟩
  refine qh<|qz ?_
  obtain rfl:=q9 h
  exact ⟨_,ee,wkA [] [] []⟩
 intro k hb
 subst hb
 refine qa<|qa<|qm [(some [],[]),(some [],[]),(some [],[]),(some [],[]),(some [0],[]),(some [],[]),(some [],[]),(some [],[]),(some [0],[]),(some [],[]),(some [],[]),(some [],[]),(some [],[]),(some [],[]),(some [],[]),(some [],[]),(some [],[])] (by kernel_rfl)<|mv_ ee<|v_ (.d (.bool (decide (a.1 > 0)))) ee ?_
 obtain ⟨cf,l,b⟩:=q6 b
 refine qq 15 (fun A st=>∃ (aq ar au av aw ax ay az ba bb bc bd be bf : V),st = A [(97,db_ cf),(96,bf),(95,be),(94,bd),(93,bc),(92,bb),(91,ba),(90,az),(89,ay),(88,ax),(87,aw),(86,av),(85,au),(84,ar),(83,aq)]) ?_ ?_
 ·refine qu ee ee l (fun l=>?_) (fun l=>?_)
  ·refine mv_ ee<|mv_ ee<|mv_ ee<|v_ (.d (i_ (w64 (a.1 - 1)))) ee ?_
   obtain ⟨p,bg,l⟩:=q6 l
   refine ih_ bg ee ee<|lh_ (.d (.agg [i_ p.at_,i_ p.list_,i_ p.by_])) bg ee<|mv_ ee<|mv_ ee ?_
   obtain ⟨q,bh,l⟩:=q6 l
   refine ih_ bh ee ee<|lh_ (.d (.agg [i_ q.at_,i_ q.list_,i_ q.by_])) bh ee ?_
   obtain ⟨ab,cg,l⟩:=q6 l
   refine q81 [.d (.agg [i_ p.at_,i_ p.list_,i_ p.by_]),.d (.agg [i_ q.at_,i_ q.list_,i_ q.by_])] (q1Ok p q ab cg) ee ee ee (.inl ee)<|v_ (.d (.bool (decide (ab < 0)))) ee<|v_ (.d (.bool (!(decide (ab < 0))))) ee<|v_ (.d (.bool (!(decide (ab < 0))))) ee<|q0 ?_
   obtain rfl:=q9 l
   exact ⟨_,_,_,_,_,_,_,_,_,_,_,_,_,_,ee⟩
  refine q7 ee<|q7 ee<|q7 ee<|q7 ee<|q7 ee<|q7 ee<|q7 ee<|q7 ee<|q7 ee<|q7 ee<|q7 ee<|q7 ee<|q7 ee<|v_ (db_ false) ee<|q0 ?_
  obtain rfl:=q9 l
  exact ⟨_,_,_,_,_,_,_,_,_,_,_,_,_,_,ee⟩
 rintro _ ⟨aq,ar,au,av,aw,ax,ay,az,ba,bb,bc,bd,be,bf,rfl⟩
 refine q0 ?_
 refine qg ee b (fun _ b=>?_) (fun _ b=>?_)
 ·refine sr_<|mv_ ee<|mv_ ee<|mv_ ee<|mv_ ee<|mv_ ee ?_
  obtain ⟨ae,ch,b⟩:=q6 b
  obtain ⟨da,ci,b⟩:=q6 b
  have cj:=q1h ci
  refine q41 [(0,0)] [(0,0)] [.hs 0 3 0 k.length,di_ a.1,di_ a.2.1,di_ g.1,.d (.fn q1F q1C)] (di_ ae.1) 1 [(0,.dat 3 (ae.2.map qj))] 1 (qa7 j q1F q1C q1Ok k a.1 a.2.1 g.1 ae ch)<|as_ ee<|qs<|mv_ ee<|as_ ee<|q0<|qv<|qgk<|qz ?_
  exact ⟨_,(Option.some.inj b).symm,wkE [] [] [] ee ⟨⟨_,ee,q16 (by simp [cj]) ee (by decide) (ltd ee)⟩,⟨_,ee,.d (.refl _)⟩,⟨_,ee,.d (.refl _)⟩,⟨_,ee,.d (.refl _)⟩,⟨_,ee,.d (.refl _)⟩,⟨_,ee,.d (.refl _)⟩,⟨_,ee,.d (.refl _)⟩,trivial⟩ ⟨⟨ltd ee,.inr ⟨by decide,_,ee,.dat _ _⟩⟩,trivial⟩⟩
 refine qh<|sr_<|mv_ ee<|mv_ ee<|mv_ ee<|mv_ ee<|mv_ ee ?_
 obtain ⟨c,ck,b⟩:=q6 b
 obtain ⟨dc,cl,b⟩:=q6 b
 have ac:=q1h cl
 refine q41 [(0,0)] [(0,0)] [.hs 0 3 0 k.length,di_ a.1,di_ a.2.1,di_ g.1,.d (.fn q1F q1C)] (.d (.tup [i_ c.1,.bool c.2.1])) 1 [(0,.dat 3 (c.2.2.map qj))] 1 (qbc j q1F q1C q1Ok k a.1 a.2.1 g.1 c ck)<|mv_ ee<|v_ (di_ c.1) ee<|v_ (db_ c.2.1) ee<|as_ ee<|as_ ee<|qs<|mv_ ee<|as_ ee<|qs<|mv_ ee<|mv_ ee<|v_ (.d (i_ (w64 (c.1 - a.1)))) ee<|mv_ ee<|mv_ ee<|v_ (.d (i_ (w64 (a.2.1 - c.1)))) ee<|as_ ee<|as_ ee<|qs<|mv_ ee<|v_ (.d (i_ (w64 (Int.tdiv (w64 (a.2.1 - a.1)) 8)))) ee<|as_ ee<|qs<|mv_ ee<|mv_ ee<|v_ (.d (.bool (decide ((w64 (c.1 - a.1)) < (w64 (a.2.1 - c.1)))))) ee<|q0 ?_
 refine qg ee b (fun _ b=>?_) (fun _ b=>?_)
 ·refine sr_<|mv_ ee<|mv_ ee<|v_ (.d (.bool (decide ((w64 (c.1 - a.1)) ≥ (w64 (Int.tdiv (w64 (a.2.1 - a.1)) 8)))))) ee<|as_ ee<|qs<|mv_ ee<|mv_ ee<|mv_ ee<|mv_ ee<|mv_ ee ?_
  obtain ⟨af,cm,b⟩:=q6 b
  obtain ⟨dd,cn,b⟩:=q6 b
  have co:=q1h cn
  refine qa3 [(0,0)] [(0,0)] [.hs 0 3 0 k.length,di_ a.1,di_ c.1,di_ f.1,.d (.fn q1F q1C)] (.d (.tup [])) [(0,.dat 3 (af.map qj))] [(0,.dat 3 (af.map qj))] 1 (hrec c.2.2 a.1 c.1 f.1 af cm) ee ee ee (q85 [(0,0)] [] [] ee ⟨⟨_,ee,q16 (by simp [ac]) ee (by decide) (ltd ee)⟩,⟨_,ee,.d (.refl _)⟩,⟨_,ee,.d (.refl _)⟩,⟨_,ee,.d (.refl _)⟩,⟨_,ee,.d (.refl _)⟩,trivial⟩ ⟨⟨ltd ee,.inr ⟨by decide,_,ee,.dat _ _⟩⟩,trivial⟩) (q85 [(0,0)] [] [] ee ⟨⟨_,ee,.d (.refl _)⟩,trivial⟩ ⟨⟨ltd ee,.inr ⟨by decide,_,ee,.dat _ _⟩⟩,trivial⟩) ee ⟨.inl ee,trivial⟩<|q0<|qi<|mv_ ee<|v_ (.d (i_ (w64 (c.1 + 1)))) ee<|as_ ee<|nl_<|qw<|qz ?_
  exact ⟨_,(Option.some.inj b).symm,wkE [] [] [] ee ⟨⟨_,ee,q16 (by simp [ac,co]) ee (by decide) (ltd ee)⟩,⟨_,ee,.d (.refl _)⟩,⟨_,ee,.d (.refl _)⟩,⟨_,ee,.d (.refl _)⟩,⟨_,ee,.d (.refl _)⟩,⟨_,ee,.d (.refl _)⟩,⟨_,ee,.d (.refl _)⟩,trivial⟩ ⟨⟨ltd ee,.inr ⟨by decide,_,ee,.dat _ _⟩⟩,trivial⟩⟩
 refine sr_<|mv_ ee<|mv_ ee<|v_ (.d (.bool (decide ((w64 (a.2.1 - c.1)) ≥ (w64 (Int.tdiv (w64 (a.2.1 - a.1)) 8)))))) ee<|as_ ee<|qs<|mv_ ee<|mv_ ee<|v_ (.d (i_ (w64 (c.1 + 1)))) ee<|mv_ ee<|mv_ ee<|mv_ ee ?_
 obtain ⟨ag,cp,b⟩:=q6 b
 obtain ⟨de,cq,b⟩:=q6 b
 have cr:=q1h cq
 refine qa3 [(0,0)] [(0,0)] [.hs 0 3 0 k.length,.d (i_ (w64 (c.1 + 1))),di_ a.2.1,di_ f.1,.d (.fn q1F q1C)] (.d (.tup [])) [(0,.dat 3 (ag.map qj))] [(0,.dat 3 (ag.map qj))] 1 (hrec c.2.2 (w64 (c.1 + 1)) a.2.1 f.1 ag cp) ee ee ee (q85 [(0,0)] [] [] ee ⟨⟨_,ee,q16 (by simp [ac]) ee (by decide) (ltd ee)⟩,⟨_,ee,.d (.refl _)⟩,⟨_,ee,.d (.refl _)⟩,⟨_,ee,.d (.refl _)⟩,⟨_,ee,.d (.refl _)⟩,trivial⟩ ⟨⟨ltd ee,.inr ⟨by decide,_,ee,.dat _ _⟩⟩,trivial⟩) (q85 [(0,0)] [] [] ee ⟨⟨_,ee,.d (.refl _)⟩,trivial⟩ ⟨⟨ltd ee,.inr ⟨by decide,_,ee,.dat _ _⟩⟩,trivial⟩) ee ⟨.inl ee,trivial⟩<|q0<|qi<|mv_ ee<|as_ ee<|nl_<|qw<|qz ?_
 exact ⟨_,(Option.some.inj b).symm,wkE [] [] [] ee ⟨⟨_,ee,q16 (by simp [ac,cr]) ee (by decide) (ltd ee)⟩,⟨_,ee,.d (.refl _)⟩,⟨_,ee,.d (.refl _)⟩,⟨_,ee,.d (.refl _)⟩,⟨_,ee,.d (.refl _)⟩,⟨_,ee,.d (.refl _)⟩,⟨_,ee,.d (.refl _)⟩,trivial⟩ ⟨⟨ltd ee,.inr ⟨by decide,_,ee,.dat _ _⟩⟩,trivial⟩⟩
theorem qc6 (n : Nat) (g : qc→qc→Option Int) (q1F : FuncId) (q1C : List DV) (q1Ok : ∀ (h : qc) (j : qc) (r : Int),g h j = some r→Pure Tryz.prog tab q1F ([.agg [i_ h.at_,i_ h.list_,i_ h.by_],.agg [i_ j.at_,i_ j.list_,i_ j.by_]] ++ q1C) (i_ r)) : ∀ (a : List qc) (b : Int) (c : Int) (f : Int) (r : List qc),q3c n g a b c f = some r→q1j Tryz.prog tab 168 [.hs 0 3 0 a.length,di_ b,di_ c,di_ f,.d (.fn q1F q1C)] [(0,.dat 3 (a.map qj))] 1 (.d (.tup [])) [(0,.dat 3 (r.map qj))] 1:=by
 induction n with
 | zero=>intro a b c f r k;cases k
 | succ n ih=>intro a b c f r k;exact qbe (q3c n g) g q1F q1C q1Ok ih a b c f r k
theorem qb0 (g : qc→qc→Option Int) (q1F : FuncId) (q1C : List DV) (q1Ok : ∀ (c : qc) (f : qc) (r : Int),g c f = some r→Pure Tryz.prog tab q1F ([.agg [i_ c.at_,i_ c.list_,i_ c.by_],.agg [i_ f.at_,i_ f.list_,i_ f.by_]] ++ q1C) (i_ r)) (a : List qc) (r : List qc) (b : q2k g a = some r) : q1j Tryz.prog tab 164 [.hs 0 3 0 a.length,.d (.fn q1F q1C)] [(0,.dat 3 (a.map qj))] 1 (.d (.tup [])) [(0,.dat 3 (r.map qj))] 1:=by
 unfold q2k at b
 refine q1a Tryz.func164 ee (by kernel_rfl) (by kernel_rfl) ee<|sr_<|mv_ ee<|v_ (di_ (a.length : Int)) ee<|as_ ee<|q0<|qi<|mv_ ee<|mv_ ee<|mv_ ee<|v_ (.d (.int .u64 (IntKind.wrap .u64 (a.length : Int)))) ee ?_
 obtain ⟨h,l,b⟩:=q6 b
 refine pc_ (qdp (IntKind.wrap .u64 (a.length : Int)) h l) ee<|mv_ ee ?_
 obtain ⟨k,j,b⟩:=q6 b
 obtain ⟨o,m,b⟩:=q6 b
 have p:=q1h m
 obtain ⟨n,j⟩:=qnz j
 refine q41 [(0,0)] [(0,0)] [.hs 0 3 0 a.length,di_ 0,di_ (a.length : Int),di_ h,.d (.fn q1F q1C)] (.d (.tup [])) 1 [(0,.dat 3 (k.map qj))] 1 (qc6 n g q1F q1C q1Ok a 0 (a.length : Int) h k j)<|nl_ ?_
 obtain rfl:=q9 b
 exact ⟨.inl ee,_,ee,wkA [] [] []⟩
theorem qbr (a : List qc) (r : List qc) (b : q5b  a = some r) : q1j Tryz.prog tab 166 [.hs 0 3 0 a.length] [(0,.dat 3 (a.map qj))] 1 (.fn 169 [.ref 1 1 0 0]) [(0,.dat 3 (r.map qj)),(1,.cel 1 [[.hs 0 3 0 r.length]])] 2:=by
 unfold q5b at b
 refine q1a Tryz.func166 ee (by kernel_rfl) (by kernel_rfl) ee<|sr_<|q20 (.ref 1 1 0 0) (.cel 1 [[.hs 0 3 0 a.length]]) ee<|as_ ee<|qs<|v_ (.fn 169 [.ref 1 1 0 0]) ee<|as_ ee<|nt_ ?_
 obtain rfl:=q9 b
 exact ⟨.inr ee,_,ee,wkA [(1,1)] [] []⟩
theorem qor (b : List (List qe)) (r : List (List qe) × List qc) (f : qcn  b = some r) : q1j Tryz.prog tab 156 [.hs 0 1 0 b.length] [(0,.dat 1 (b.map q42))] 1 (.fn 169 [.ref 1 1 0 0]) [(0,.dat 1 (r.1.map q42)),(1,.cel 1 [[.hs 2 3 0 r.2.length]]),(2,.dat 3 (r.2.map qj))] 3:=by
 unfold qcn at f
 refine q1a Tryz.func156 ee (by kernel_rfl) (by kernel_rfl) ee<|sr_<|as_ ee<|qs<|as_ ee<|q0<|qa<|sr_<|mv_ ee<|v_ (di_ (b.length : Int)) ee<|mv_ ee<|q0 ?_
 obtain ⟨t,v,f⟩:=q6 f
 refine qp (fun h=>h = t) (fun (h : List qc)=>⟨[(3,.hs 1 3 0 h.length)],[(0,.dat 1 (b.map q42)),(1,.dat 3 (h.map qj))],2⟩) (by simp) ?_ ?_
 ·refine qt (q5i b) (fun (a : Int × List qc)=>⟨[(3,.hs 1 3 0 a.2.length),(8,.hs 0 1 0 b.length),(9,di_ (b.length : Int)),(10,di_ a.1)],[(0,.dat 1 (b.map q42)),(1,.dat 3 (a.2.map qj))],2⟩) (0,[]) t v (wkA [] [] [1]) ?_
  intro a ag j
  unfold q5i at j
  refine sr_<|v_ (.d (.bool (decide (a.1 < (b.length : Int))))) ee<|q0<|qa ?_
  refine qg ee j (fun _ j=>?_) (fun _ j=>?_)
  ·refine qh<|qa ?_
   obtain ⟨w,l,j⟩:=q6 j
   refine qp (fun m=>m = w) (fun (m : List qc)=>⟨[(3,.hs 1 3 0 m.length),(8,.hs 0 1 0 b.length),(9,di_ (b.length : Int)),(10,di_ a.1)],[(0,.dat 1 (b.map q42)),(1,.dat 3 (m.map qj))],2⟩) (by simp) ?_ ?_
   ·refine sr_<|mv_ ee ?_
    obtain ⟨n,u,l⟩:=q6 l
    refine ih_ u ee ee<|lh_ (.d (.sl 2 (n.map qo))) u ee<|as_ ee<|as_ ee<|qs<|mv_ ee<|ln_ ee<|mv_ ee<|q0 ?_
    obtain ⟨x,y,l⟩:=q6 l
    refine ql<|qt (q7g n a) (fun (k : Int × List qc)=>⟨[(3,.hs 1 3 0 k.2.length),(4,di_ a.1),(8,.hs 0 1 0 b.length),(9,di_ (b.length : Int)),(10,di_ a.1),(15,.d (.sl 2 (n.map qo))),(16,di_ (n.length : Int)),(17,di_ k.1)],[(0,.dat 1 (b.map q42)),(1,.dat 3 (k.2.map qj))],2⟩) (0,a.2) x y (wkA [(1,1)] [] []) ?_
    intro k ah g
    unfold q7g at g
    refine sr_<|v_ (.d (.bool (decide (k.1 < (n.length : Int))))) ee<|q0<|qa ?_
    refine qg ee g (fun _ g=>?_) (fun _ g=>?_)
    ·refine qh<|qa<|ql<|sr_ ?_
     obtain ⟨c,z,g⟩:=q6 g
     refine ix_ (enc:=qo) z ee<|v_ (.d (.agg [i_ c.Lo,i_ c.Hi])) ee<|q13 ee ee<|q1f 2 (.dat 2 [[i_ c.Lo,i_ c.Hi]]) ee<|q0<|qi<|mv_ ee<|v_ (.ref 2 2 0 0) ee<|v_ (di_ c.Lo) ee<|mv_ ee<|v_ (.d (.agg [i_ c.Lo,i_ a.1,i_ 1])) ee<|v_ (.ref 2 2 0 1) ee<|v_ (di_ c.Hi) ee<|mv_ ee<|v_ (.d (.agg [i_ c.Hi,i_ a.1,i_ (-1)])) ee<|q20 (.hs 3 3 0 [({at_:=c.Lo,list_:=a.1,by_:=1} : qc),({at_:=c.Hi,list_:=a.1,by_:=(-1)} : qc)].length) (.dat 3 ([({at_:=c.Lo,list_:=a.1,by_:=1} : qc),({at_:=c.Hi,list_:=a.1,by_:=(-1)} : qc)].map qj)) ee ?_
     obtain ⟨ai,aa,g⟩:=q6 g
     refine q7c (xs:=k.2) (ys:=[({at_:=c.Lo,list_:=a.1,by_:=1} : qc),({at_:=c.Hi,list_:=a.1,by_:=(-1)} : qc)]) (enc:=qj) (.hs 3 3 0 [({at_:=c.Lo,list_:=a.1,by_:=1} : qc),({at_:=c.Hi,list_:=a.1,by_:=(-1)} : qc)].length) aa ee ee ee ee ee ee ee (q4w ee ee) ee ee ee ee<|as_ ee<|nl_<|qw<|qi<|v_ (.d (i_ (w64 (k.1 + 1)))) ee<|mv_ ee<|nl_ ?_
     exact ⟨_,(Option.some.inj g).symm,wkA [(1,4)] [] []⟩
    refine qv ?_
    refine ⟨_,(Option.some.inj g).symm,fun hm=>?_⟩
    subst hm
    obtain rfl:=q9 l
    exact ⟨_,ee,wkA [(1,1)] [] []⟩
   intro m hb
   subst hb
   refine qi<|v_ (.d (i_ (w64 (a.1 + 1)))) ee<|mv_ ee<|nl_ ?_
   exact ⟨_,(Option.some.inj j).symm,wkA [(1,1)] [] []⟩
  refine qv ?_
  refine ⟨_,(Option.some.inj j).symm,fun hm=>?_⟩
  subst hm
  exact ⟨_,ee,wkA [(1,1)] [] []⟩
 intro h hb
 subst hb
 refine sr_<|mv_ ee ?_
 obtain ⟨p,ab,f⟩:=q6 f
 obtain ⟨aj,ac,f⟩:=q6 f
 have ad:=q1h ac
 refine q41 [(0,1)] [(0,1),(1,0)] [.hs 1 3 0 h.length,.d (.fn 165 [])] (.d (.tup [])) 1 [(1,.dat 3 (p.map qj)),(0,.dat 1 (b.map q42))] 2 (qb0 (fun q s=>qdg q s) 165 [] (fun q s r hr=>qqw q s r hr) h p ab)<|qs<|mv_ ee ?_
 obtain ⟨o,ae,f⟩:=q6 f
 obtain ⟨ak,af,f⟩:=q6 f
 have al:=q1h af
 refine qa3 [(0,1)] [(0,2),(1,0),(2,1)] [.hs 1 3 0 h.length] (.fn 169 [.ref 2 1 0 0]) [(1,.dat 3 (o.map qj)),(2,.cel 1 [[.hs 1 3 0 o.length]])] [(1,.dat 3 (o.map qj)),(2,.cel 1 [[.hs 1 3 0 o.length]]),(0,.dat 1 (b.map q42))] 3 (qbr p o ae) ee ee ee (q85 [(0,1)] [] [] ee ⟨⟨_,ee,q16 (by simp [ad]) ee (by decide) (ltd ee)⟩,trivial⟩ ⟨⟨ltd ee,.inr ⟨by decide,_,ee,.dat _ _⟩⟩,trivial⟩) (q85 [(0,2),(1,0),(2,1)] [] [] ee ⟨⟨_,ee,(qjv (.cons (.ref ee (by decide) (ltd ee)) .nil))⟩,trivial⟩ ⟨⟨ltd ee,.inr ⟨by decide,_,ee,.dat _ _⟩⟩,⟨ltd ee,.inr ⟨by decide,_,ee,qbp (.cons (.hs ee (by decide) (ltd ee)) ee .nil)⟩⟩,trivial⟩) ee ⟨.inl ee,.inl ee,.inr ⟨ee,ee⟩,trivial⟩<|as_ ee<|nt_ ?_
 obtain rfl:=q9 f
 exact ⟨.inr ee,_,ee,wkA [(1,2),(2,1)] [] []⟩
theorem qm0 (f : Int) (j : Bool) (b : Int) (c : List qe) (r : Bool × Int × List qe) (a : qaq  f j b c = some r) : q1j Tryz.prog tab 155 [di_ f,.ref 0 1 0 0,.ref 1 1 0 0,.ref 2 1 0 0] [(0,.dat 1 [[.bool j]]),(1,.dat 1 [[i_ b]]),(2,.cel 1 [[.hs 3 2 0 c.length]]),(3,.dat 2 (c.map qo))] 4 (.d (.tup [])) [(0,.dat 1 [[.bool r.1]]),(1,.dat 1 [[i_ r.2.1]]),(2,.cel 1 [[.hs 4 2 0 r.2.2.length]]),(4,.dat 2 (r.2.2.map qo))] 5:=by
 unfold qaq at a
 refine q1a Tryz.func155 ee (by kernel_rfl) (by kernel_rfl) ee<|qa<|sr_<|v_ (db_ j) ee<|v_ (db_ (!j)) ee ?_
 obtain ⟨ab,h,a⟩:=q6 a
 refine qq 5 (fun A st=>∃ (l m n o : V),st = A [(12,db_ ab),(11,o),(10,n),(9,m),(8,l)]) ?_ ?_
 ·refine qu ee ee h (fun h=>?_) (fun h=>?_)
  ·refine q7 ee<|q7 ee<|q7 ee<|v_ (db_ true) ee<|q0 ?_
   obtain rfl:=q9 h
   exact ⟨_,_,_,_,ee⟩
  refine v_ (di_ b) ee<|mv_ ee<|v_ (db_ (b == f)) ee<|v_ (db_ (b == f)) ee<|q0 ?_
  obtain rfl:=q9 h
  exact ⟨_,_,_,_,ee⟩
 rintro _ ⟨l,m,n,o,rfl⟩
 refine q0 ?_
 refine qg ee a (fun _ a=>?_) (fun _ a=>?_)
 ·refine qh4 ?_
  obtain rfl:=q9 a
  exact ⟨.inr ee,_,ee,wkA [(4,3)] [] []⟩
 refine qh<|sr_<|v_ (.hs 3 2 0 c.length) ee<|v_ (di_ (c.length : Int)) ee<|as_ ee<|q0<|qa<|qm [(some [],[]),(some [],[]),(some [1],[]),(some [3],[]),(some [],[]),(some [],[]),(some [],[]),(some [],[]),(some [2],[]),(some [],[]),(some [],[]),(some [],[])] (by kernel_rfl)<|mv_ ee<|v_ (.d (.bool (decide ((c.length : Int) > 0)))) ee ?_
 obtain ⟨ac,g,a⟩:=q6 a
 refine qq 10 (fun A st=>∃ (p q s t u v w x y : V),st = A [(26,db_ ac),(25,y),(24,x),(23,w),(22,v),(21,u),(20,t),(19,s),(18,q),(17,p)]) ?_ ?_
 ·refine qu ee ee g (fun g=>?_) (fun g=>?_)
  ·refine v_ (.hs 3 2 0 c.length) ee<|mv_ ee<|v_ (.d (i_ (w64 ((c.length : Int) - 1)))) ee ?_
   obtain ⟨k,z,g⟩:=q6 g
   refine ih_ z ee ee<|v_ (.ref 3 2 (w64 ((c.length : Int) - 1)).toNat 1) ee<|lh_ (di_ k.Hi) z ee<|v_ (di_ b) ee<|v_ (db_ (k.Hi == b)) ee<|v_ (db_ (k.Hi == b)) ee<|q0 ?_
   obtain rfl:=q9 g
   exact ⟨_,_,_,_,_,_,_,_,_,ee⟩
  refine q7 ee<|q7 ee<|q7 ee<|q7 ee<|q7 ee<|q7 ee<|q7 ee<|q7 ee<|v_ (db_ false) ee<|q0 ?_
  obtain rfl:=q9 g
  exact ⟨_,_,_,_,_,_,_,_,_,ee⟩
 rintro _ ⟨p,q,s,t,u,v,w,x,y,rfl⟩
 refine q0 ?_
 refine qg ee a (fun _ a=>?_) (fun _ a=>?_)
 ·refine qi<|v_ (.hs 3 2 0 c.length) ee<|mv_ ee<|v_ (.d (i_ (w64 ((c.length : Int) - 1)))) ee<|mv_ ee ?_
  obtain ⟨ad,aa,a⟩:=q6 a
  refine ih_ aa ee ee<|v_ (.ref 3 2 (w64 ((c.length : Int) - 1)).toNat 1) ee<|q18 (ds:=[i_ f]) ({Lo:=ad.Lo,Hi:=f} : qe) aa ee ee ee ee ee ee ee ee (leb ee) ee<|nl_ ?_
  obtain rfl:=q9 a
  exact ⟨.inl ee,_,ee,wkE [(4,3)] [] [] ee ⟨⟨_,ee,.d (.refl _)⟩,trivial⟩ ⟨⟨ltd ee,.inr ⟨by decide,_,ee,.dat _ _⟩⟩,⟨ltd ee,.inr ⟨by decide,_,ee,.dat _ _⟩⟩,⟨ltd ee,.inr ⟨by decide,_,ee,qbp (.cons (q16 (by simp) ee (by decide) (ltd ee)) ee .nil)⟩⟩,⟨ltd ee,.inr ⟨by decide,_,ee,.dat _ _⟩⟩,trivial⟩⟩
 refine qi<|v_ (.hs 3 2 0 c.length) ee<|v_ (di_ b) ee<|mv_ ee<|v_ (.d (.agg [i_ b,i_ f])) ee<|q20 (.hs 4 2 0 [({Lo:=b,Hi:=f} : qe)].length) (.dat 2 ([({Lo:=b,Hi:=f} : qe)].map qo)) ee ?_
 obtain ⟨ae,af,a⟩:=q6 a
 refine q7c (xs:=c) (ys:=[({Lo:=b,Hi:=f} : qe)]) (enc:=qo) (.hs 4 2 0 [({Lo:=b,Hi:=f} : qe)].length) af ee ee ee ee ee ee ee (q4w ee ee) ee ee ee ee<|q1f 2 (.cel 1 [[.hs 5 2 0 ae.length]]) ee<|nl_ ?_
 obtain rfl:=q9 a
 exact ⟨.inl ee,_,ee,wkA [(4,5)] [] []⟩
theorem qv8 (l : List qe) (m : List qe) (q : Bool→Bool→Option Bool) (p2F : FuncId) (p2C : List DV) (p2Ok : ∀ (u : Bool) (w : Bool) (r : Bool),q u w = some r→Pure Tryz.prog tab p2F ([.bool u,.bool w] ++ p2C) (.bool r)) (r : List qe) (h : qe4 l m q = some r) : Pure Tryz.prog tab 138 [.sl 2 (l.map qo),.sl 2 (m.map qo),.fn p2F p2C] (.sl 2 (r.map qo)):=by
 unfold qe4 at h
 refine qn Tryz.func138 ee (by kernel_rfl) (by kernel_rfl) ee<|sr_<|q20 (.ref 0 1 0 0) (.dat 1 [[.fn p2F p2C]]) ee<|as_ ee<|qs<|q13 ee ee<|qs<|q13 ee ee<|qs<|q13 ee ee<|q13 ee ee<|q1f 3 (.dat 1 [[i_ 0]]) ee<|q1f 4 (.dat 1 [[.bool false]]) ee<|qs<|v_ (.fn 155 [.ref 4 1 0 0,.ref 3 1 0 0,.ref 2 1 0 0]) ee<|q13 ee ee<|q1f 5 (.cel 1 [[.fn 155 [.ref 4 1 0 0,.ref 3 1 0 0,.ref 2 1 0 0]]]) ee<|q0<|qa<|sr_<|mv_ ee<|mv_ ee<|q20 (.hs 6 1 0 [l,m].length) (.dat 1 ([l,m].map q42)) ee ?_
 obtain ⟨b,h2,h⟩:=q6 h
 obtain ⟨u3,h4,h⟩:=q6 h
 have h5:=q1h h4
 refine q41 [(0,6)] [(0,3),(1,3),(2,3),(3,3),(4,3),(5,3),(6,0),(7,1),(8,2)] [.hs 6 1 0 [l,m].length] (.fn 169 [.ref 7 1 0 0]) 3 [(6,.dat 1 (b.1.map q42)),(7,.cel 1 [[.hs 8 3 0 b.2.length]]),(8,.dat 3 (b.2.map qj)),(0,.dat 1 [[.fn p2F p2C]]),(1,.dat 2 [[0,0].flatMap (eI .i64)]),(2,.dat 1 [[.nilsl]]),(3,.dat 1 [[i_ 0]]),(4,.dat 1 [[.bool false]]),(5,.cel 1 [[.fn 155 [.ref 4 1 0 0,.ref 3 1 0 0,.ref 2 1 0 0]]])] 9 (qor [l,m] b h2)<|q0<|ql ?_
 obtain ⟨af,s,h⟩:=q6 h
 refine qqi (fun j=>j = af) (fun (j : List qe)=>⟨[(8,.ref 0 1 0 0)],[(0,.cel 1 [[.hs 1 2 0 j.length]]),(1,.dat 2 (j.map qo))],2⟩) ?_ ?_
 ·refine qad (st':=⟨[(5,.ref 0 1 0 0),(6,.d (.nilsl)),(7,.ref 1 2 0 0),(8,.ref 2 1 0 0),(9,.ref 3 1 0 0),(10,.ref 4 1 0 0),(11,.ref 5 1 0 0),(17,.fn 169 [.ref 6 1 0 0])],[(0,.dat 1 [[.fn p2F p2C]]),(1,.dat 2 [[0,0].flatMap (eI .i64)]),(2,.dat 1 [[.nilsl]]),(3,.dat 1 [[i_ 0]]),(4,.dat 1 [[.bool false]]),(5,.cel 1 [[.fn 155 [.ref 4 1 0 0,.ref 3 1 0 0,.ref 2 1 0 0]]]),(6,.cel 1 [[.hs 7 3 0 b.2.length]]),(7,.dat 3 (b.2.map qj))],8⟩) (wkA [(0,0),(1,1),(2,2),(3,3),(4,4),(5,5),(6,7),(7,8)] [] []) ?_ (by simp)
  refine qlj [.ref 6 1 0 0] (.inl ee) Tryz.func169 ee (by kernel_rfl) (by kernel_rfl) ee ?_
  intro A154 B155 hA154 hB155
  refine sr_<|v_ (.hs 7 3 0 b.2.length) ee<|v_ (di_ (b.2.length : Int)) ee<|mv_ ee<|q0 ?_
  obtain ⟨ag,ah,s⟩:=q6 s
  refine ql<|qt (q99 b q) (fun (c : Int × List Int × Int × Bool × List qe)=>⟨[(0,.yld 8),(5,.hs 7 3 0 b.2.length),(6,di_ (b.2.length : Int)),(7,di_ c.1)],[(0,.dat 1 [[.fn p2F p2C]]),(1,.dat 2 [c.2.1.flatMap (eI .i64)]),(2,.cel 1 [[.hs 9 2 0 c.2.2.2.2.length]]),(3,.dat 1 [[i_ c.2.2.1]]),(4,.dat 1 [[.bool c.2.2.2.1]]),(5,.cel 1 [[.fn 155 [.ref 4 1 0 0,.ref 3 1 0 0,.ref 2 1 0 0]]]),(6,.cel 1 [[.hs 7 3 0 b.2.length]]),(7,.dat 3 (b.2.map qj)),(8,.loop [(5,.ref 0 1 0 0),(6,.d (.nilsl)),(7,.ref 1 2 0 0),(8,.ref 2 1 0 0),(9,.ref 3 1 0 0),(10,.ref 4 1 0 0),(11,.ref 5 1 0 0),(17,.fn 169 [.ref 6 1 0 0])] [18] A154 B155 .ready none),(9,.dat 2 (c.2.2.2.2.map qo))],10⟩) (0,[0,0],0,false,[]) ag ah (wkA [] [] [9]) ?_
  intro c an g
  unfold q99 at g
  refine sr_<|v_ (.d (.bool (decide (c.1 < (b.2.length : Int))))) ee<|q0<|qa ?_
  refine qg ee g (fun _ g=>?_) (fun _ g=>?_)
  ·refine qh<|qa<|ql<|sr_ ?_
   obtain ⟨a,x,g⟩:=q6 g
   refine ih_ x ee ee<|lh_ (.d (.agg [i_ a.at_,i_ a.list_,i_ a.by_])) x ee<|q13 ee ee<|q1f 10 (.dat 3 [[i_ a.at_,i_ a.list_,i_ a.by_]]) ee<|qs<|mv_ ee<|v_ (.d (.agg [i_ a.at_,i_ a.list_,i_ a.by_])) ee ?_
   obtain ⟨ai,f,g⟩:=q6 g
   refine ql8 (fun k=>k = ai) (fun (k : List Int × Bool × List qe)=>⟨[(0,.yld 8),(5,.hs 7 3 0 b.2.length),(6,di_ (b.2.length : Int)),(7,di_ c.1),(13,db_ true)],[(0,.dat 1 [[.fn p2F p2C]]),(1,.dat 2 [k.1.flatMap (eI .i64)]),(2,.cel 1 [[.hs 9 2 0 k.2.2.length]]),(3,.dat 1 [[i_ a.at_]]),(4,.dat 1 [[.bool k.2.1]]),(5,.cel 1 [[.fn 155 [.ref 4 1 0 0,.ref 3 1 0 0,.ref 2 1 0 0]]]),(6,.cel 1 [[.hs 7 3 0 b.2.length]]),(7,.dat 3 (b.2.map qj)),(8,.loop [(5,.ref 0 1 0 0),(6,.d (.nilsl)),(7,.ref 1 2 0 0),(8,.ref 2 1 0 0),(9,.ref 3 1 0 0),(10,.ref 4 1 0 0),(11,.ref 5 1 0 0),(17,.fn 169 [.ref 6 1 0 0])] [18] A154 B155 .ready none),(9,.dat 2 (k.2.2.map qo))],10⟩) hA154 hB155 ee ee ee ee ee ee ?_ ?_
   ·refine qi<|q13 ee ee<|q1f 11 (.dat 3 [[i_ a.at_,i_ a.list_,i_ a.by_]]) ee<|nl_ ?_
    refine ⟨ee,_,ee,?_⟩
    refine ql<|sr_<|v_ (.fn 155 [.ref 4 1 0 0,.ref 3 1 0 0,.ref 2 1 0 0]) ee<|v_ (.ref 11 3 0 0) ee<|v_ (di_ a.at_) ee ?_
    obtain ⟨n,aj,f⟩:=q6 f
    refine q41 [(0,4),(1,3),(2,2),(3,9)] [(0,5),(1,5),(2,2),(3,1),(4,0),(5,5),(6,5),(7,5),(8,5),(9,3),(10,5),(11,5),(12,4)] [di_ a.at_,.ref 4 1 0 0,.ref 3 1 0 0,.ref 2 1 0 0] (.d (.tup [])) 4 [(2,.cel 1 [[.hs 12 2 0 n.2.2.length]]),(3,.dat 1 [[i_ n.2.1]]),(4,.dat 1 [[.bool n.1]]),(12,.dat 2 (n.2.2.map qo)),(0,.dat 1 [[.fn p2F p2C]]),(1,.dat 2 [c.2.1.flatMap (eI .i64)]),(5,.cel 1 [[.fn 155 [.ref 4 1 0 0,.ref 3 1 0 0,.ref 2 1 0 0]]]),(6,.cel 1 [[.hs 7 3 0 b.2.length]]),(7,.dat 3 (b.2.map qj)),(8,.loop [(5,.ref 0 1 0 0),(6,.d (.nilsl)),(7,.ref 1 2 0 0),(8,.ref 2 1 0 0),(9,.ref 3 1 0 0),(10,.ref 4 1 0 0),(11,.ref 5 1 0 0),(17,.fn 169 [.ref 6 1 0 0])] [18] A154 B155 .busy none),(10,.dat 3 [[i_ a.at_,i_ a.list_,i_ a.by_]]),(11,.dat 3 [[i_ a.at_,i_ a.list_,i_ a.by_]])] 13 (qm0 a.at_ c.2.2.2.1 c.2.2.1 c.2.2.2.2 n aj)<|q0<|qa<|qm [(some [1],[1]),(some [],[]),(some [],[]),(some [11],[]),(some [],[]),(some [1],[]),(some [],[]),(some [11],[]),(some [],[])] (by kernel_rfl)<|v_ (.ref 11 3 0 1) ee<|v_ (di_ a.list_) ee ?_
    obtain ⟨t,y,f⟩:=q6 f
    refine qpa y ee ee ee ee ee<|qu7 (enc:=(eI .i64)) (di_ t) y (fun _=>rfl) ee ee ee ee ee ee<|v_ (.ref 11 3 0 2) ee<|v_ (di_ a.by_) ee<|v_ (.d (i_ (w64 (t + a.by_)))) ee ?_
    obtain ⟨ao,z,f⟩:=q6 f
    refine qpa z ee ee ee ee ee<|q149 (enc:=(eI .i64)) (w64 (t + a.by_)) z (fun _=>rfl) ee ee ee ee ee ee ee ee<|q0<|qm [(some [4],[4]),(some [3],[3]),(some [],[]),(some [],[]),(some [1],[]),(some [],[]),(some [],[]),(some [1],[]),(some [],[]),(some [0],[]),(some [11],[]),(some [],[])] (by kernel_rfl)<|v_ (.ref 11 3 0 0) ee<|v_ (di_ a.at_) ee<|v_ (.d (.fn p2F p2C)) ee ?_
    obtain ⟨o,aa,f⟩:=q6 f
    refine qpa aa ee ee ee ee ee<|qu7 (enc:=(eI .i64)) (di_ o) aa (fun _=>rfl) ee ee ee ee ee ee<|v_ (.d (.bool (decide (o > 0)))) ee ?_
    obtain ⟨p,ab,f⟩:=q6 f
    refine qpa ab ee ee ee ee ee<|qu7 (enc:=(eI .i64)) (di_ p) ab (fun _=>rfl) ee ee ee ee ee ee<|v_ (.d (.bool (decide (p > 0)))) ee ?_
    obtain ⟨ac,ak,f⟩:=q6 f
    refine q81 [.d (.bool (decide (o > 0))),.d (.bool (decide (p > 0)))] (p2Ok (decide (o > 0)) (decide (p > 0)) ac ak) ee ee ee (.inl ee)<|q1f 3 (.dat 1 [[i_ a.at_]]) ee<|q1f 4 (.dat 1 [[.bool ac]]) ee<|nl_<|qw<|qz ?_
    refine ⟨_,ee,?_⟩
    obtain rfl:=q9 f
    exact ⟨_,ee,wkA [(9,12)] [] []⟩
   intro k hb
   subst hb
   refine v_ (db_ false) ee<|q0<|qa6 ee<|qh<|qz<|qw<|qi<|v_ (.d (i_ (w64 (c.1 + 1)))) ee<|mv_ ee<|nl_ ?_
   exact ⟨_,(Option.some.inj g).symm,wkA [(9,9)] [] []⟩
  refine qv ?_
  refine ⟨_,(Option.some.inj g).symm,fun hm=>?_⟩
  subst hm
  refine ⟨.inl ee,_,ee,_,_,.nor,ee,by decide,?_⟩
  refine qki<|qz ?_
  obtain rfl:=q9 s
  exact ⟨_,ee,wkA [(0,2),(1,9)] [] []⟩
 intro j st hb hw
 subst hb
 refine qad hw ?_ (by simp)
 refine sr_<|v_ (.hs 1 2 0 j.length) ee<|as_ ee<|nt_ ?_
 obtain rfl:=q9 h
 exact finD (.inr ee) (v:=.hs 1 2 0 j.length) ee (qc1 ee ee) (.refl _)
theorem qqv (a : Bool) (b : Bool) (r : Bool) (c : qdf a b = some r) : Pure Tryz.prog tab 143 [.bool a,.bool b] (.bool r):=by
 unfold qdf at c
 refine qn Tryz.func143 ee (by kernel_rfl) (by kernel_rfl) ee<|sr_<|as_ ee<|qs<|mv_ ee<|as_ ee<|nt_ ?_
 obtain rfl:=q9 c
 exact fR_ (db_ a) ee
theorem qv7 (c : List qe) (r : List qe × Int) (a : qe3 c = some r) : Pure Tryz.prog tab 131 [.sl 2 (c.map qo)] (.tup [.sl 2 (r.1.map qo),i_ r.2]):=by
 unfold qe3 at a
 refine qn Tryz.func131 ee (by kernel_rfl) (by kernel_rfl) ee<|sr_<|as_ ee<|as_ ee<|q0<|qa<|sr_<|mv_ ee<|ln_ ee<|v_ (.d (.bool (decide ((c.length : Int) > 400)))) ee<|q0 ?_
 refine qg ee a (fun _ a=>?_) (fun _ a=>?_)
 ·refine sr_<|as_ ee<|as_ ee<|nt_ ?_
  obtain rfl:=q9 a
  exact finD (.inr ee) (v:=.d (.tup [.nilsl,i_ 4])) ee ee (q7i (.cons (.nil _) (.cons (.refl _) .nil)))
 refine qh<|qa<|sr_<|mv_ ee ?_
 obtain ⟨h,j,a⟩:=q6 a
 refine pc_ (qaz c (fun b=>qfk b) 141 [] (fun b r hr=>qqu b r hr) h j) ee<|q0 ?_
 refine qg ee a (fun _ a=>?_) (fun _ a=>?_)
 ·refine sr_<|as_ ee<|as_ ee<|nt_ ?_
  obtain rfl:=q9 a
  exact finD (.inr ee) (v:=.d (.tup [.nilsl,i_ 8])) ee ee (q7i (.cons (.nil _) (.cons (.refl _) .nil)))
 refine qh<|sr_<|mv_ ee ?_
 obtain ⟨g,k,a⟩:=q6 a
 refine pc_ (qf5 (.cons (.refl _) (.cons (.nil _) (.cons (.refl _) .nil))) (qv8 c [] (fun b f=>qdf b f) 143 [] (fun b f r hr=>qqv b f r hr) g k)) ee<|as_ ee<|as_ ee<|nt_ ?_
 obtain rfl:=q9 a
 exact fR_ (.d (.tup [.sl 2 (g.map qo),i_ 0])) ee
theorem qdc (c : List qe) (f : List qe) (r : Bool) (b : q52 c f = some r) : Pure Tryz.prog tab 136 [.sl 2 (c.map qo),.sl 2 (f.map qo)] (.bool r):=by
 unfold q52 at b
 refine qn Tryz.func136 ee (by kernel_rfl) (by kernel_rfl) ee<|sr_<|as_ ee<|q0<|qa<|sr_<|mv_ ee<|ln_ ee<|mv_ ee<|ln_ ee<|v_ (.d (.bool ((c.length : Int) != (f.length : Int)))) ee<|q0 ?_
 refine qg ee b (fun _ b=>?_) (fun _ b=>?_)
 ·refine sr_<|as_ ee<|nt_ ?_
  obtain rfl:=q9 b
  exact fR_ (db_ false) ee
 refine qh<|qa<|sr_<|mv_ ee<|ln_ ee<|mv_ ee<|q0 ?_
 obtain ⟨l,m,b⟩:=q6 b
 refine qp (fun k=>.inl k = l) (fun (k : Unit)=>⟨[],[],0⟩) (by simp) ?_ ?_
 ·refine qt (q5h c f) (fun (g : Int)=>⟨[(0,.d (.sl 2 (c.map qo))),(1,.d (.sl 2 (f.map qo))),(12,di_ (c.length : Int)),(13,di_ g)],[],0⟩) 0 l m (wkA [] [] []) ?_
  intro g p a
  unfold q5h at a
  refine sr_<|v_ (.d (.bool (decide (g < (c.length : Int))))) ee<|q0<|qa ?_
  refine qg ee a (fun _ a=>?_) (fun _ a=>?_)
  ·refine qh<|qa<|ql<|sr_<|mv_ ee<|as_ ee<|q0<|qa<|qm [(some [],[]),(some [],[]),(some [],[]),(some [],[]),(some [],[]),(some [],[]),(some [],[]),(some [],[]),(some [],[])] (by kernel_rfl)<|mv_ ee<|mv_ ee ?_
   obtain ⟨h,n,a⟩:=q6 a
   refine ix_ (enc:=qo) n ee<|v_ (.d (.agg [i_ h.Lo,i_ h.Hi])) ee<|mv_ ee<|mv_ ee ?_
   obtain ⟨j,o,a⟩:=q6 a
   refine ix_ (enc:=qo) o ee<|v_ (.d (.agg [i_ j.Lo,i_ j.Hi])) ee<|v_ (.d (.bool (!((h.Lo == j.Lo) && ((h.Hi == j.Hi) && true))))) ee<|q0 ?_
   refine qg ee a (fun _ a=>?_) (fun _ a=>?_)
   ·refine sr_<|as_ ee<|nt_ ?_
    refine ⟨_,(Option.some.inj a).symm,fun hm=>?_⟩
    subst hm
    obtain rfl:=q9 b
    exact fR_ (db_ false) ee
   refine qh<|qz<|qw<|qi<|v_ (.d (i_ (w64 (g + 1)))) ee<|mv_ ee<|nl_ ?_
   exact ⟨_,(Option.some.inj a).symm,wkA [] [] []⟩
  refine qv ?_
  refine ⟨_,(Option.some.inj a).symm,fun hm=>?_⟩
  subst hm
  exact ⟨_,ee,wkA [] [] []⟩
 intro k hb
 subst hb
 refine sr_<|as_ ee<|nt_ ?_
 obtain rfl:=q9 b
 exact fR_ (db_ true) ee
theorem qg8 (b : List qb) (m : List qe) (p : Int) (l : Int) (h : Int) (a : Int) (g : List qe) (r : List qe × Int × Int × List qb) (f : q71  b m p l h a g = some r) : q1j Tryz.prog tab 118 [.ref 0 4 0 0,di_ h,di_ a,.d (.sl 2 (g.map qo))] [(0,.cel 4 [[.hs 1 4 0 b.length,.d (.sl 2 (m.map qo)),di_ p,di_ l]]),(1,.dat 4 (b.map qd))] 2 (.d (.tup [])) [(0,.cel 4 [[.hs 2 4 0 r.2.2.2.length,.d (.sl 2 (r.1.map qo)),di_ r.2.1,di_ r.2.2.1]]),(2,.dat 4 (r.2.2.2.map qd))] 3:=by
 unfold q71 at f
 refine q1a Tryz.func118 ee (by kernel_rfl) (by kernel_rfl) ee<|qa<|sr_<|mv_ ee<|ln_ ee<|v_ (.d (.bool (decide ((g.length : Int) > 0)))) ee ?_
 obtain ⟨am,t,f⟩:=q6 f
 refine qq 8 (fun A st=>∃ (v w x y z aa ab : V),st = A [(21,db_ am),(20,ab),(19,aa),(18,z),(17,y),(16,x),(15,w),(14,v)]) ?_ ?_
 ·refine qu ee ee t (fun t=>?_) (fun t=>?_)
  ·refine mv_ ee<|v_ (.ref 0 4 0 0) ee<|v_ (.ref 0 4 0 3) ee<|v_ (di_ l) ee<|mv_ ee<|v_ (db_ (l == h)) ee<|v_ (db_ (l == h)) ee<|q0 ?_
   obtain rfl:=q9 t
   exact ⟨_,_,_,_,_,_,_,ee⟩
  refine q7 ee<|q7 ee<|q7 ee<|q7 ee<|q7 ee<|q7 ee<|v_ (db_ false) ee<|q0 ?_
  obtain rfl:=q9 t
  exact ⟨_,_,_,_,_,_,_,ee⟩
 rintro _ ⟨v,w,x,y,z,aa,ab,rfl⟩
 obtain ⟨an,q,f⟩:=q6 f
 refine qq 8 (fun A st=>∃ (ac ad ae af ag ah ai : V),st = A [(29,db_ an),(28,ai),(27,ah),(26,ag),(25,af),(24,ae),(23,ad),(22,ac)]) ?_ ?_
 ·refine qu ee ee q (fun q=>?_) (fun q=>?_)
  ·refine mv_ ee<|v_ (.ref 0 4 0 0) ee<|v_ (.ref 0 4 0 1) ee<|v_ (.d (.sl 2 (m.map qo))) ee<|mv_ ee ?_
   obtain ⟨aj,ao,q⟩:=q6 q
   refine pc_ (qdc m g aj ao) ee<|v_ (db_ aj) ee<|q0 ?_
   obtain rfl:=q9 q
   exact ⟨_,_,_,_,_,_,_,ee⟩
  refine q7 ee<|q7 ee<|q7 ee<|q7 ee<|q7 ee<|q7 ee<|v_ (db_ false) ee<|q0 ?_
  obtain rfl:=q9 q
  exact ⟨_,_,_,_,_,_,_,ee⟩
 rintro _ ⟨ac,ad,ae,af,ag,ah,ai,rfl⟩
 refine q0 ?_
 refine qg ee f (fun _ f=>?_) (fun _ f=>?_)
 ·refine qa<|sr_<|mv_ ee<|v_ (.ref 0 4 0 0) ee<|v_ (.ref 0 4 0 2) ee<|v_ (di_ p) ee<|as_ ee<|q0 ?_
  obtain ⟨ak,ap,f⟩:=q6 f
  refine qp (fun s=>s = ak) (fun (s : List qb)=>⟨[(0,.ref 0 4 0 0),(2,di_ a)],[(0,.cel 4 [[.hs 1 4 0 s.length,.d (.sl 2 (m.map qo)),di_ p,di_ l]]),(1,.dat 4 (s.map qd))],2⟩) (by simp) ?_ ?_
  ·refine qt (q5f a) (fun (j : Int × List qb)=>⟨[(0,.ref 0 4 0 0),(2,di_ a),(8,di_ j.1)],[(0,.cel 4 [[.hs 1 4 0 j.2.length,.d (.sl 2 (m.map qo)),di_ p,di_ l]]),(1,.dat 4 (j.2.map qd))],2⟩) (p,b) ak ap (wkA [] [] []) ?_
   intro j ax n
   unfold q5f at n
   refine qa<|sr_<|mv_ ee<|mv_ ee<|v_ (.ref 0 4 0 0) ee<|v_ (.ref 0 4 0 0) ee<|v_ (.hs 1 4 0 j.2.length) ee<|v_ (di_ (j.2.length : Int)) ee<|v_ (.d (.bool (decide (j.1 < (j.2.length : Int))))) ee<|q0 ?_
   refine qg ee n (fun _ n=>?_) (fun _ n=>?_)
   ·refine qh<|qa<|ql<|qi<|mv_ ee<|v_ (.ref 0 4 0 0) ee<|v_ (.ref 0 4 0 0) ee<|v_ (.hs 1 4 0 j.2.length) ee<|mv_ ee<|mv_ ee ?_
    obtain ⟨u,al,n⟩:=q6 n
    refine ih_ al ee ee<|v_ (.ref 1 4 j.1.toNat 2) ee<|q18 (ds:=[i_ a]) ({X0:=u.X0,Y0:=u.Y0,X1:=a,Y1:=u.Y1} : qb) al ee ee ee ee ee ee ee ee (leb ee) ee<|nl_<|qw<|qi<|mv_ ee<|v_ (.d (i_ (w64 (j.1 + 1)))) ee<|as_ ee<|nl_ ?_
    exact ⟨_,(Option.some.inj n).symm,wkE [] [] [] ee ⟨⟨_,ee,.ref ee (by decide) (ltd ee)⟩,⟨_,ee,.d (.refl _)⟩,⟨_,ee,.d (.refl _)⟩,trivial⟩ ⟨⟨ltd ee,.inr ⟨by decide,_,ee,qbp (.cons (q16 (by simp) ee (by decide) (ltd ee)) ee (.cons (.d (.refl _)) ee (.cons (.d (.refl _)) ee (.cons (.d (.refl _)) ee .nil))))⟩⟩,⟨ltd ee,.inr ⟨by decide,_,ee,.dat _ _⟩⟩,trivial⟩⟩
   refine qv ?_
   refine ⟨_,(Option.some.inj n).symm,fun hm=>?_⟩
   subst hm
   exact ⟨_,ee,wkA [] [] []⟩
  intro s hb
  subst hb
  refine sr_<|mv_ ee<|mv_ ee<|v_ (.ref 0 4 0 0) ee<|v_ (.ref 0 4 0 3) ee<|q1f 0 (.cel 4 [[.hs 1 4 0 s.length,.d (.sl 2 (m.map qo)),di_ p,di_ a]]) ee<|nt_ ?_
  obtain rfl:=q9 f
  exact ⟨.inr ee,_,ee,wkA [(2,1)] [] []⟩
 refine qh<|sr_<|mv_ ee<|mv_ ee<|mv_ ee<|mv_ ee<|v_ (.ref 0 4 0 0) ee<|v_ (.ref 0 4 0 0) ee<|v_ (.hs 1 4 0 b.length) ee<|v_ (di_ (b.length : Int)) ee<|mv_ ee<|mv_ ee<|v_ (.ref 0 4 0 0) ee<|v_ (.ref 0 4 0 2) ee<|q1f 0 (.cel 4 [[.hs 1 4 0 b.length,.d (.sl 2 (m.map qo)),di_ (b.length : Int),di_ l]]) ee<|v_ (.ref 0 4 0 0) ee<|v_ (.ref 0 4 0 1) ee<|q1f 0 (.cel 4 [[.hs 1 4 0 b.length,.d (.sl 2 (g.map qo)),di_ (b.length : Int),di_ l]]) ee<|v_ (.ref 0 4 0 0) ee<|v_ (.ref 0 4 0 3) ee<|q1f 0 (.cel 4 [[.hs 1 4 0 b.length,.d (.sl 2 (g.map qo)),di_ (b.length : Int),di_ a]]) ee<|qs<|mv_ ee<|ln_ ee<|mv_ ee<|q0 ?_
 obtain ⟨aq,ar,f⟩:=q6 f
 refine ql<|qt (q5g g h a b) (fun (o : Int × List qb)=>⟨[(0,.ref 0 4 0 0),(1,di_ h),(2,di_ a),(71,.d (.sl 2 (g.map qo))),(72,di_ (g.length : Int)),(73,di_ o.1)],[(0,.cel 4 [[.hs 2 4 0 o.2.length,.d (.sl 2 (g.map qo)),di_ (b.length : Int),di_ a]]),(2,.dat 4 (o.2.map qd))],3⟩) (0,b) aq ar (wkA [(2,1)] [] []) ?_
 intro o ay k
 unfold q5g at k
 refine sr_<|v_ (.d (.bool (decide (o.1 < (g.length : Int))))) ee<|q0<|qa ?_
 refine qg ee k (fun _ k=>?_) (fun _ k=>?_)
 ·refine qh<|qa<|ql<|sr_ ?_
  obtain ⟨c,au,k⟩:=q6 k
  refine ix_ (enc:=qo) au ee<|v_ (.d (.agg [i_ c.Lo,i_ c.Hi])) ee<|q13 ee ee<|q1f 3 (.dat 2 [[i_ c.Lo,i_ c.Hi]]) ee<|q0<|qm [(some [0],[0]),(some [],[]),(some [],[]),(some [2,4],[2,5]),(some [],[4]),(some [],[]),(some [3],[]),(some [],[]),(some [],[]),(some [3],[]),(some [],[]),(some [],[]),(some [0],[]),(some [],[]),(some [],[]),(some [],[]),(some [],[])] (by kernel_rfl)<|mv_ ee<|mv_ ee<|v_ (.ref 0 4 0 0) ee<|v_ (.ref 0 4 0 0) ee<|v_ (.hs 2 4 0 o.2.length) ee<|mv_ ee<|v_ (.ref 3 2 0 0) ee<|v_ (di_ c.Lo) ee<|mv_ ee<|v_ (.ref 3 2 0 1) ee<|v_ (di_ c.Hi) ee<|v_ (.d (.agg [i_ h,i_ c.Lo,i_ a,i_ c.Hi])) ee<|q20 (.hs 4 4 0 [({X0:=h,Y0:=c.Lo,X1:=a,Y1:=c.Hi} : qb)].length) (.dat 4 ([({X0:=h,Y0:=c.Lo,X1:=a,Y1:=c.Hi} : qb)].map qd)) ee ?_
  obtain ⟨av,aw,k⟩:=q6 k
  refine q7c (xs:=o.2) (ys:=[({X0:=h,Y0:=c.Lo,X1:=a,Y1:=c.Hi} : qb)]) (enc:=qd) (.hs 4 4 0 [({X0:=h,Y0:=c.Lo,X1:=a,Y1:=c.Hi} : qb)].length) aw ee ee ee ee ee ee ee (q4w ee ee) ee ee ee ee<|v_ (.ref 0 4 0 0) ee<|v_ (.ref 0 4 0 0) ee<|q1f 0 (.cel 4 [[.hs 5 4 0 av.length,.d (.sl 2 (g.map qo)),di_ (b.length : Int),di_ a]]) ee<|nl_<|qw<|qi<|v_ (.d (i_ (w64 (o.1 + 1)))) ee<|mv_ ee<|nl_ ?_
  exact ⟨_,(Option.some.inj k).symm,wkA [(2,5)] [] []⟩
 refine qv ?_
 refine ⟨_,(Option.some.inj k).symm,fun hm=>?_⟩
 subst hm
 obtain rfl:=q9 f
 exact ⟨.inl ee,_,ee,wkA [(2,2)] [] []⟩
theorem qil (a : List qb) (r : List qb × Int) (u : qbl a = some r) : Pure Tryz.prog tab 108 [.sl 4 (a.map qd)] (.tup [.sl 4 (r.1.map qd),i_ r.2]):=by
 unfold qbl at u
 refine qn Tryz.func108 ee (by kernel_rfl) (by kernel_rfl) ee<|sr_<|as_ ee<|as_ ee<|qs<|q13 ee ee<|q0<|qa<|sr_<|mv_ ee<|q20 (.hs 1 1 0 [a].length) (.dat 1 ([a].map q1r)) ee ?_
 obtain ⟨aw,l,u⟩:=q6 u
 refine qo3 [.hs 1 1 0 [a].length] (fun h=>h = aw) (fun (h : List Int)=>⟨[(2,.d (.nilsl)),(3,di_ 0),(4,.ref 0 4 0 0),(10,.fn 139 [.ref 1 1 0 0,.ref 2 1 0 0])],[(0,.dat 4 [[.nilsl,.nilsl,i_ 0,i_ 0]]),(1,.cel 1 [[.d (.sl 1 (h.map (eI .i64)))]]),(2,.cel 1 [[.hs 3 1 0 [a].length]]),(3,.dat 1 ([a].map q1r))],4⟩) ee ee Tryz.func130 ee (by kernel_rfl) (by kernel_rfl) ee ?_ ?_
 ·refine sr_<|q20 (.ref 2 1 0 0) (.cel 1 [[.hs 1 1 0 [a].length]]) ee<|as_ ee<|qs<|q13 ee ee<|q0<|qa<|sr_<|v_ (.hs 1 1 0 [a].length) ee<|v_ (di_ 1) ee<|mv_ ee<|q0<|ql<|q9v<|sr_<|v_ (db_ true) ee<|q0<|qa<|qf8 ee<|qh<|qa ?_
  obtain ⟨ax,ac,l⟩:=q6 l
  refine qp (fun m=>m = ax) (fun (m : List Int)=>⟨[(1,.ref 2 1 0 0),(3,.ref 3 1 0 0),(8,.hs 1 1 0 [a].length),(9,di_ 1),(10,di_ 0)],[(0,.dat 4 [[.nilsl,.nilsl,i_ 0,i_ 0]]),(1,.dat 1 ([a].map q1r)),(2,.cel 1 [[.hs 1 1 0 [a].length]]),(3,.cel 1 [[.hs 4 1 0 m.length]]),(4,.dat 1 (m.map (eI .i64)))],5⟩) (by simp) ?_ ?_
  ·refine sr_ ?_
   obtain ⟨ad,am,ac⟩:=q6 ac
   refine ih_ am ee ee<|lh_ (.d (.sl 4 (ad.map qd))) am ee<|as_ ee<|qs<|mv_ ee<|ln_ ee<|mv_ ee<|q0 ?_
   obtain ⟨ay,az,ac⟩:=q6 ac
   refine ql<|qt (q72 ad) (fun (w : Int × List Int)=>⟨[(1,.ref 2 1 0 0),(3,.ref 3 1 0 0),(8,.hs 1 1 0 [a].length),(9,di_ 1),(10,di_ 0),(14,.d (.sl 4 (ad.map qd))),(15,di_ (ad.length : Int)),(16,di_ w.1)],[(0,.dat 4 [[.nilsl,.nilsl,i_ 0,i_ 0]]),(1,.dat 1 ([a].map q1r)),(2,.cel 1 [[.hs 1 1 0 [a].length]]),(3,.cel 1 [[.hs 4 1 0 w.2.length]]),(4,.dat 1 (w.2.map (eI .i64)))],5⟩) (0,[]) ay az (wkA [(2,2),(3,3)] [] [4]) ?_
   intro w cd p
   unfold q72 at p
   refine sr_<|v_ (.d (.bool (decide (w.1 < (ad.length : Int))))) ee<|q0<|qa ?_
   refine qg ee p (fun _ p=>?_) (fun _ p=>?_)
   ·refine qh<|qa<|ql<|sr_ ?_
    obtain ⟨g,ba,p⟩:=q6 p
    refine ix_ (enc:=qd) ba ee<|v_ (.d (.agg [i_ g.X0,i_ g.Y0,i_ g.X1,i_ g.Y1])) ee<|q13 ee ee<|q1f 5 (.dat 4 [[i_ g.X0,i_ g.Y0,i_ g.X1,i_ g.Y1]]) ee<|q0<|qi<|v_ (.hs 4 1 0 w.2.length) ee<|v_ (.ref 5 4 0 0) ee<|v_ (di_ g.X0) ee<|v_ (.ref 5 4 0 2) ee<|v_ (di_ g.X1) ee<|q20 (.hs 6 1 0 [g.X0,g.X1].length) (.dat 1 ([g.X0,g.X1].map (eI .i64))) ee ?_
    obtain ⟨bb,bc,p⟩:=q6 p
    refine q7c (xs:=w.2) (ys:=[g.X0,g.X1]) (enc:=(eI .i64)) (.hs 6 1 0 [g.X0,g.X1].length) bc ee ee ee ee ee ee ee (q4w ee ee) ee ee ee ee<|q1f 3 (.cel 1 [[.hs 7 1 0 bb.length]]) ee<|nl_<|qw<|qi<|v_ (.d (i_ (w64 (w.1 + 1)))) ee<|mv_ ee<|nl_ ?_
    exact ⟨_,(Option.some.inj p).symm,wkA [(2,2),(3,3),(4,7)] [] []⟩
   refine qv ?_
   refine ⟨_,(Option.some.inj p).symm,fun hm=>?_⟩
   subst hm
   obtain rfl:=q9 ac
   exact ⟨_,ee,wkA [(2,2),(3,3),(4,4)] [] []⟩
  intro m hb
  subst hb
  refine qi<|v_ (di_ 1) ee<|mv_ ee<|q0<|q9v<|sr_<|v_ (db_ false) ee<|q0<|qa<|qa6 ee<|qv<|qgk<|sr_<|v_ (.hs 4 1 0 m.length) ee ?_
  obtain ⟨ak,bd,l⟩:=q6 l
  obtain ⟨ce,be,l⟩:=q6 l
  have bf:=q1h be
  refine q41 [(0,4)] [(0,1),(1,1),(2,1),(3,1),(4,0)] [.hs 4 1 0 m.length] (.d (.tup [])) 1 [(4,.dat 1 (ak.map (eI .i64))),(0,.dat 4 [[.nilsl,.nilsl,i_ 0,i_ 0]]),(1,.dat 1 ([a].map q1r)),(2,.cel 1 [[.hs 1 1 0 [a].length]]),(3,.cel 1 [[.hs 4 1 0 m.length]])] 5 (qbb m ak bd)<|qs<|v_ (.hs 4 1 0 m.length) ee ?_
  obtain ⟨z,bg,l⟩:=q6 l
  obtain ⟨cf,bh,l⟩:=q6 l
  have cg:=q1h bh
  obtain ⟨ch,bi,l⟩:=q6 l
  have bj:=qpz bi
  refine qa3 [(0,4)] [(0,1),(1,1),(2,1),(3,1),(4,0)] [.hs 4 1 0 m.length] (.hs 4 1 z.1.1 z.1.2) [(4,.dat 1 (z.2.map (eI .i64)))] [(4,.dat 1 (z.2.map (eI .i64))),(0,.dat 4 [[.nilsl,.nilsl,i_ 0,i_ 0]]),(1,.dat 1 ([a].map q1r)),(2,.cel 1 [[.hs 1 1 0 [a].length]]),(3,.cel 1 [[.hs 4 1 0 m.length]])] 5 (qa8 ak z bg) ee ee ee (q85 [(0,4)] [] [] ee ⟨⟨_,ee,q16 (by simp [bf]) ee (by decide) (ltd ee)⟩,trivial⟩ ⟨⟨ltd ee,.inr ⟨by decide,_,ee,.dat _ _⟩⟩,trivial⟩) (q85 [(0,1),(1,1),(2,1),(3,1),(4,0)] [] [] ee ⟨⟨_,ee,.hs ee (by decide) (ltd ee)⟩,trivial⟩ ⟨⟨ltd ee,.inr ⟨by decide,_,ee,.dat _ _⟩⟩,trivial⟩) ee ⟨.inl ee,.inr ⟨ee,ee⟩,.inr ⟨ee,ee⟩,.inr ⟨ee,ee⟩,.inr ⟨ee,ee⟩,trivial⟩<|q1f 3 (.cel 1 [[.hs 4 1 z.1.1 z.1.2]]) ee<|qs<|v_ (.fn 139 [.ref 3 1 0 0,.ref 2 1 0 0]) ee<|as_ ee<|nt_ ?_
  refine ⟨.inr ee,_,ee,?_⟩
  obtain rfl:=q9 l
  exact ⟨_,ee,wkE [(0,0),(1,3),(2,2),(3,1)] [4] [] ee ⟨⟨_,ee,.d (.refl _)⟩,⟨_,ee,.d (.refl _)⟩,⟨_,ee,.ref ee (by decide) (ltd ee)⟩,⟨_,ee,(qjv (.cons (.ref ee (by decide) (ltd ee)) (.cons (.ref ee (by decide) (ltd ee)) .nil)))⟩,trivial⟩ ⟨⟨ltd ee,.inr ⟨by decide,_,ee,.dat _ _⟩⟩,⟨ltd ee,.inr ⟨by decide,_,ee,qbp (.cons (qxg bj ee (by decide)) ee .nil)⟩⟩,⟨ltd ee,.inr ⟨by decide,_,ee,qbp (.cons (.hs ee (by decide) (ltd ee)) ee .nil)⟩⟩,⟨ltd ee,.inr ⟨by decide,_,ee,.dat _ _⟩⟩,trivial⟩⟩
 intro h hb
 subst hb
 refine q0<|ql ?_
 obtain ⟨bk,al,u⟩:=q6 u
 refine qqi (fun n=>n = bk) (fun (n : List qe × Int × Int × List qb)=>⟨[(4,.ref 0 4 0 0)],[(0,.cel 4 [[.hs 1 4 0 n.2.2.2.length,.d (.sl 2 (n.1.map qo)),di_ n.2.1,di_ n.2.2.1]]),(1,.dat 4 (n.2.2.2.map qd))],2⟩) ?_ ?_
 ·refine qad (st':=⟨[(2,.d (.nilsl)),(3,di_ 0),(4,.ref 0 4 0 0),(10,.fn 139 [.ref 1 1 0 0,.ref 2 1 0 0])],[(0,.dat 4 [[.nilsl,.nilsl,i_ 0,i_ 0]]),(1,.cel 1 [[.d (.sl 1 (h.map (eI .i64)))]]),(2,.cel 1 [[.hs 3 1 0 [a].length]]),(3,.dat 1 ([a].map q1r))],4⟩) (wkA [(0,0),(1,1),(2,2),(3,3)] [] []) ?_ (by simp)
  refine qlj [.ref 1 1 0 0,.ref 2 1 0 0] (.inl ee) Tryz.func139 ee (by kernel_rfl) (by kernel_rfl) ee ?_
  intro A847 B848 hA847 hB848
  refine sr_<|as_ ee<|q0 ?_
  obtain ⟨bl,bm,al⟩:=q6 al
  refine ql<|qt (q73 h a) (fun (b : Int × List qe × Int × Int × List qb)=>⟨[(0,.yld 4),(1,.ref 1 1 0 0),(2,.ref 2 1 0 0),(4,di_ b.1)],[(0,.cel 4 [[.hs 5 4 0 b.2.2.2.2.length,.d (.sl 2 (b.2.1.map qo)),di_ b.2.2.1,di_ b.2.2.2.1]]),(1,.cel 1 [[.d (.sl 1 (h.map (eI .i64)))]]),(2,.cel 1 [[.hs 3 1 0 [a].length]]),(3,.dat 1 ([a].map q1r)),(4,.loop [(2,.d (.nilsl)),(3,di_ 0),(4,.ref 0 4 0 0),(10,.fn 139 [.ref 1 1 0 0,.ref 2 1 0 0])] [11] A847 B848 .ready none),(5,.dat 4 (b.2.2.2.2.map qd))],6⟩) (1,[],0,0,[]) bl bm (wkA [] [] [5]) ?_
  intro b ci j
  unfold q73 at j
  refine qa<|sr_<|mv_ ee<|v_ (.d (.sl 1 (h.map (eI .i64)))) ee<|ln_ ee<|v_ (.d (.bool (decide (b.1 < (h.length : Int))))) ee<|q0 ?_
  refine qg ee j (fun _ j=>?_) (fun _ j=>?_)
  ·refine qh<|qa<|ql<|qa<|qm [(some [7],[7]),(some [],[7]),(some [],[]),(some [],[6]),(some [],[]),(some [2],[]),(some [],[]),(some [],[]),(some [],[]),(some [1],[]),(some [],[]),(some [],[]),(some [],[]),(some [],[]),(some [1],[])] (by kernel_rfl)<|v_ (.d (.sl 1 (h.map (eI .i64)))) ee<|mv_ ee<|v_ (.d (i_ (w64 (b.1 - 1)))) ee ?_
   obtain ⟨f,bn,j⟩:=q6 j
   refine ix_ (enc:=(eI .i64)) bn ee<|v_ (di_ f) ee<|v_ (.d (.sl 1 (h.map (eI .i64)))) ee<|mv_ ee ?_
   obtain ⟨k,bo,j⟩:=q6 j
   refine ix_ (enc:=(eI .i64)) bo ee<|v_ (di_ k) ee<|v_ (.hs 3 1 0 [a].length) ee<|v_ (di_ 1) ee<|q20 (.hs 6 1 0 1) (.dat 1 [[.nilsl]]) ee<|v_ (.agg [di_ f,di_ k,.hs 6 1 0 1]) ee<|q13 ee ee<|q1f 7 (.cel 3 [[di_ f,di_ k,.hs 6 1 0 1]]) ee<|q0<|qa<|sr_<|v_ (.hs 3 1 0 [a].length) ee<|v_ (di_ 1) ee<|mv_ ee<|q0<|ql<|q9v<|sr_<|v_ (db_ true) ee<|q0<|qa<|qf8 ee<|qh<|qa ?_
   obtain ⟨bp,ae,j⟩:=q6 j
   refine qp (fun s=>s = bp) (fun (s : List qe)=>⟨[(0,.yld 4),(1,.ref 1 1 0 0),(2,.ref 2 1 0 0),(4,di_ b.1),(5,.ref 5 3 0 0),(29,.hs 3 1 0 [a].length),(30,di_ 1),(31,di_ 0)],[(0,.cel 4 [[.hs 6 4 0 b.2.2.2.2.length,.d (.sl 2 (b.2.1.map qo)),di_ b.2.2.1,di_ b.2.2.2.1]]),(1,.cel 1 [[.d (.sl 1 (h.map (eI .i64)))]]),(2,.cel 1 [[.hs 3 1 0 [a].length]]),(3,.dat 1 ([a].map q1r)),(4,.loop [(2,.d (.nilsl)),(3,di_ 0),(4,.ref 0 4 0 0),(10,.fn 139 [.ref 1 1 0 0,.ref 2 1 0 0])] [11] A847 B848 .ready none),(5,.cel 3 [[di_ f,di_ k,.hs 7 1 0 1]]),(6,.dat 4 (b.2.2.2.2.map qd)),(7,.cel 1 [[.hs 8 2 0 s.length]]),(8,.dat 2 (s.map qo))],9⟩) (by simp) ?_ ?_
   ·refine sr_<|mv_ ee ?_
    obtain ⟨aa,an,ae⟩:=q6 ae
    refine ih_ an ee ee<|lh_ (.d (.sl 4 (aa.map qd))) an ee<|as_ ee<|as_ ee<|qs<|mv_ ee<|ln_ ee<|mv_ ee<|q0 ?_
    obtain ⟨bq,br,ae⟩:=q6 ae
    refine ql<|qt (q7s aa f) (fun (t : Int × List qe)=>⟨[(0,.yld 4),(1,.ref 1 1 0 0),(2,.ref 2 1 0 0),(4,di_ b.1),(5,.ref 5 3 0 0),(6,di_ 0),(29,.hs 3 1 0 [a].length),(30,di_ 1),(31,di_ 0),(36,.d (.sl 4 (aa.map qd))),(37,di_ (aa.length : Int)),(38,di_ t.1)],[(0,.cel 4 [[.hs 6 4 0 b.2.2.2.2.length,.d (.sl 2 (b.2.1.map qo)),di_ b.2.2.1,di_ b.2.2.2.1]]),(1,.cel 1 [[.d (.sl 1 (h.map (eI .i64)))]]),(2,.cel 1 [[.hs 3 1 0 [a].length]]),(3,.dat 1 ([a].map q1r)),(4,.loop [(2,.d (.nilsl)),(3,di_ 0),(4,.ref 0 4 0 0),(10,.fn 139 [.ref 1 1 0 0,.ref 2 1 0 0])] [11] A847 B848 .ready none),(5,.cel 3 [[di_ f,di_ k,.hs 7 1 0 1]]),(6,.dat 4 (b.2.2.2.2.map qd)),(7,.cel 1 [[.hs 8 2 0 t.2.length]]),(8,.dat 2 (t.2.map qo))],9⟩) (0,[]) bq br (wkA [(5,7),(6,5),(7,6)] [] [8]) ?_
    intro t cj x
    unfold q7s at x
    refine sr_<|v_ (.d (.bool (decide (t.1 < (aa.length : Int))))) ee<|q0<|qa ?_
    refine qg ee x (fun _ x=>?_) (fun _ x=>?_)
    ·refine qh<|qa ?_
     obtain ⟨bs,o,x⟩:=q6 x
     refine qp (fun af=>af = bs) (fun (af : List qe)=>⟨[(0,.yld 4),(1,.ref 1 1 0 0),(2,.ref 2 1 0 0),(4,di_ b.1),(5,.ref 5 3 0 0),(6,di_ 0),(29,.hs 3 1 0 [a].length),(30,di_ 1),(31,di_ 0),(36,.d (.sl 4 (aa.map qd))),(37,di_ (aa.length : Int)),(38,di_ t.1)],[(0,.cel 4 [[.hs 6 4 0 b.2.2.2.2.length,.d (.sl 2 (b.2.1.map qo)),di_ b.2.2.1,di_ b.2.2.2.1]]),(1,.cel 1 [[.d (.sl 1 (h.map (eI .i64)))]]),(2,.cel 1 [[.hs 3 1 0 [a].length]]),(3,.dat 1 ([a].map q1r)),(4,.loop [(2,.d (.nilsl)),(3,di_ 0),(4,.ref 0 4 0 0),(10,.fn 139 [.ref 1 1 0 0,.ref 2 1 0 0])] [11] A847 B848 .ready none),(5,.cel 3 [[di_ f,di_ k,.hs 7 1 0 1]]),(6,.dat 4 (b.2.2.2.2.map qd)),(7,.cel 1 [[.hs 8 2 0 af.length]]),(8,.dat 2 (af.map qo))],9⟩) (by simp) ?_ ?_
     ·refine sr_ ?_
      obtain ⟨c,bt,o⟩:=q6 o
      refine ix_ (enc:=qd) bt ee<|v_ (.d (.agg [i_ c.X0,i_ c.Y0,i_ c.X1,i_ c.Y1])) ee<|q13 ee ee<|q1f 9 (.dat 4 [[i_ c.X0,i_ c.Y0,i_ c.X1,i_ c.Y1]]) ee<|qs<|v_ (.ref 9 4 0 0) ee<|v_ (di_ c.X0) ee<|v_ (.ref 5 3 0 0) ee<|v_ (di_ f) ee<|v_ (.d (.bool (decide (c.X0≤f)))) ee ?_
      obtain ⟨bu,ag,o⟩:=q6 o
      refine qq 7 (fun A st=>∃ (ao ap aq ar au av : V),st = A [(53,db_ bu),(52,av),(51,au),(50,ar),(49,aq),(48,ap),(47,ao)]) ?_ ?_
      ·refine qu ee ee ag (fun ag=>?_) (fun ag=>?_)
       ·refine v_ (.ref 5 3 0 0) ee<|v_ (di_ f) ee<|v_ (.ref 9 4 0 2) ee<|v_ (di_ c.X1) ee<|v_ (.d (.bool (decide (f < c.X1)))) ee<|v_ (.d (.bool (decide (f < c.X1)))) ee<|q0 ?_
        obtain rfl:=q9 ag
        exact ⟨_,_,_,_,_,_,ee⟩
       refine q7 ee<|q7 ee<|q7 ee<|q7 ee<|q7 ee<|v_ (db_ false) ee<|q0 ?_
       obtain rfl:=q9 ag
       exact ⟨_,_,_,_,_,_,ee⟩
      rintro _ ⟨ao,ap,aq,ar,au,av,rfl⟩
      refine q0 ?_
      refine qg ee o (fun _ o=>?_) (fun _ o=>?_)
      ·refine qm [(some [7],[7]),(some [],[]),(some [8,10],[8,11]),(some [],[10]),(some [],[]),(some [9],[]),(some [],[]),(some [9],[]),(some [],[]),(some [7],[]),(some [],[]),(some [],[]),(some [5],[]),(some [],[]),(some [],[]),(some [5],[]),(some [],[])] (by kernel_rfl)<|v_ (.ref 5 3 0 2) ee<|v_ (.hs 7 1 0 1) ee<|mv_ ee<|v_ (.ref 5 3 0 2) ee<|v_ (.hs 7 1 0 1) ee<|mv_ ee<|v_ (.ref 7 1 0 0) ee<|v_ (.hs 8 2 0 t.2.length) ee<|v_ (.ref 9 4 0 1) ee<|v_ (di_ c.Y0) ee<|v_ (.ref 9 4 0 3) ee<|v_ (di_ c.Y1) ee<|v_ (.d (.agg [i_ c.Y0,i_ c.Y1])) ee<|q20 (.hs 10 2 0 [({Lo:=c.Y0,Hi:=c.Y1} : qe)].length) (.dat 2 ([({Lo:=c.Y0,Hi:=c.Y1} : qe)].map qo)) ee ?_
       obtain ⟨bv,bw,o⟩:=q6 o
       refine q7c (xs:=t.2) (ys:=[({Lo:=c.Y0,Hi:=c.Y1} : qe)]) (enc:=qo) (.hs 10 2 0 [({Lo:=c.Y0,Hi:=c.Y1} : qe)].length) bw ee ee ee ee ee ee ee (q4w ee ee) ee ee ee ee<|v_ (.ref 7 1 0 0) ee<|q1f 7 (.cel 1 [[.hs 11 2 0 bv.length]]) ee<|nl_ ?_
       obtain rfl:=q9 o
       exact ⟨_,ee,wkA [(5,5),(6,6),(7,7),(8,11)] [] []⟩
      refine qh<|qz ?_
      obtain rfl:=q9 o
      exact ⟨_,ee,wkA [(5,5),(6,6),(7,7),(8,8)] [] []⟩
     intro af hb
     subst hb
     refine qi<|v_ (.d (i_ (w64 (t.1 + 1)))) ee<|mv_ ee<|nl_ ?_
     exact ⟨_,(Option.some.inj x).symm,wkA [(5,5),(6,6),(7,7),(8,8)] [] []⟩
    refine qv ?_
    refine ⟨_,(Option.some.inj x).symm,fun hm=>?_⟩
    subst hm
    obtain rfl:=q9 ae
    exact ⟨_,ee,wkA [(5,5),(6,6),(7,7),(8,8)] [] []⟩
   intro s hb
   subst hb
   refine qi<|v_ (di_ 1) ee<|mv_ ee<|q0<|q9v<|sr_<|v_ (db_ false) ee<|q0<|qa<|qa6 ee<|qv<|qgk<|qa ?_
   refine qad (st':=⟨[(0,.yld 4),(1,.ref 1 1 0 0),(2,.ref 2 1 0 0),(4,di_ b.1),(5,.ref 5 3 0 0)],[(0,.cel 4 [[.hs 6 4 0 b.2.2.2.2.length,.d (.sl 2 (b.2.1.map qo)),di_ b.2.2.1,di_ b.2.2.2.1]]),(1,.cel 1 [[.d (.sl 1 (h.map (eI .i64)))]]),(2,.cel 1 [[.hs 3 1 0 [a].length]]),(3,.dat 1 ([a].map q1r)),(4,.loop [(2,.d (.nilsl)),(3,di_ 0),(4,.ref 0 4 0 0),(10,.fn 139 [.ref 1 1 0 0,.ref 2 1 0 0])] [11] A847 B848 .ready none),(5,.cel 3 [[di_ f,di_ k,.hs 7 1 0 1]]),(6,.dat 4 (b.2.2.2.2.map qd)),(7,.cel 1 [[.d (.sl 2 (s.map qo))]])],8⟩) (wkA [(5,5),(6,6),(7,7)] [8] []) ?_ (by simp)
   refine qi<|mv_ ee<|v_ (.agg [di_ f,di_ k,.hs 7 1 0 1]) ee ?_
   obtain ⟨bz,ah,j⟩:=q6 j
   refine ql8 (fun y=>y = bz) (fun (y : List qe × Int × Int × List qb)=>⟨[(0,.yld 4),(1,.ref 1 1 0 0),(2,.ref 2 1 0 0),(4,di_ b.1),(74,db_ true)],[(0,.cel 4 [[.hs 5 4 0 y.2.2.2.length,.d (.sl 2 (y.1.map qo)),di_ y.2.1,di_ y.2.2.1]]),(1,.cel 1 [[.d (.sl 1 (h.map (eI .i64)))]]),(2,.cel 1 [[.hs 3 1 0 [a].length]]),(3,.dat 1 ([a].map q1r)),(4,.loop [(2,.d (.nilsl)),(3,di_ 0),(4,.ref 0 4 0 0),(10,.fn 139 [.ref 1 1 0 0,.ref 2 1 0 0])] [11] A847 B848 .ready none),(5,.dat 4 (y.2.2.2.map qd))],6⟩) hA847 hB848 ee ee ee ee ee ee ?_ ?_
   ·refine qi<|q13 ee ee<|q1f 8 (.cel 3 [[di_ f,di_ k,.hs 7 1 0 1]]) ee<|nl_ ?_
    refine ⟨ee,_,ee,?_⟩
    refine ql<|sr_<|v_ (.ref 8 3 0 2) ee<|v_ (.hs 7 1 0 1) ee<|v_ (.ref 7 1 0 0) ee<|v_ (.d (.sl 2 (s.map qo))) ee ?_
    obtain ⟨ai,ca,ah⟩:=q6 ah
    refine pc_ (qv7 s ai ca) ee<|mv_ ee<|v_ (.d (.sl 2 (ai.1.map qo))) ee<|v_ (di_ ai.2) ee<|as_ ee<|as_ ee<|q0<|qi<|v_ (.ref 8 3 0 0) ee<|v_ (di_ f) ee<|v_ (.ref 8 3 0 1) ee<|v_ (di_ k) ee<|mv_ ee ?_
    obtain ⟨ab,cb,ah⟩:=q6 ah
    refine q41 [(0,0),(1,6)] [(0,0),(1,3),(2,3),(3,3),(4,3),(5,3),(6,1),(7,3),(8,3),(9,2)] [.ref 0 4 0 0,di_ f,di_ k,.d (.sl 2 (ai.1.map qo))] (.d (.tup [])) 2 [(0,.cel 4 [[.hs 9 4 0 ab.2.2.2.length,.d (.sl 2 (ab.1.map qo)),di_ ab.2.1,di_ ab.2.2.1]]),(9,.dat 4 (ab.2.2.2.map qd)),(1,.cel 1 [[.d (.sl 1 (h.map (eI .i64)))]]),(2,.cel 1 [[.hs 3 1 0 [a].length]]),(3,.dat 1 ([a].map q1r)),(4,.loop [(2,.d (.nilsl)),(3,di_ 0),(4,.ref 0 4 0 0),(10,.fn 139 [.ref 1 1 0 0,.ref 2 1 0 0])] [11] A847 B848 .busy none),(5,.cel 3 [[di_ f,di_ k,.hs 7 1 0 1]]),(7,.cel 1 [[.d (.sl 2 (s.map qo))]]),(8,.cel 3 [[di_ f,di_ k,.hs 7 1 0 1]])] 10 (qg8 b.2.2.2.2 b.2.1 b.2.2.1 b.2.2.2.1 f k ai.1 ab cb)<|nl_<|qw<|qz ?_
    refine ⟨_,ee,?_⟩
    obtain rfl:=q9 ah
    exact ⟨_,ee,wkA [(5,9)] [] []⟩
   intro y hb
   subst hb
   refine v_ (db_ false) ee<|q0<|qa6 ee<|qh<|qz<|qw<|qi<|mv_ ee<|v_ (.d (i_ (w64 (b.1 + 1)))) ee<|as_ ee<|nl_ ?_
   exact ⟨_,(Option.some.inj j).symm,wkA [(5,5)] [] []⟩
  refine qv ?_
  refine ⟨_,(Option.some.inj j).symm,fun hm=>?_⟩
  subst hm
  refine ⟨.inl ee,_,ee,_,_,.nor,ee,by decide,?_⟩
  refine qki<|qz ?_
  obtain rfl:=q9 al
  exact ⟨_,ee,wkA [(0,0),(1,5)] [] []⟩
 intro n st hb hw
 subst hb
 refine qad hw ?_ (by simp)
 refine sr_ ?_
 obtain ⟨cc,aj,u⟩:=q6 u
 refine qo3 [.ref 0 4 0 0] (fun q=>q = cc) (fun (q : Int × List qb)=>⟨[(26,.tup [.hs 0 4 0 q.2.length,di_ q.1])],[(0,.dat 4 (q.2.map qd))],1⟩) ee ee Tryz.func119 ee (by kernel_rfl) (by kernel_rfl) ee ?_ ?_
 ·refine sr_<|as_ ee<|as_ ee<|q0<|qa<|sr_<|mv_ ee<|v_ (.ref 0 4 0 0) ee<|v_ (.ref 0 4 0 0) ee<|v_ (.hs 1 4 0 n.2.2.2.length) ee<|v_ (di_ (n.2.2.2.length : Int)) ee<|v_ (.d (.bool (decide ((n.2.2.2.length : Int) > 400)))) ee<|q0 ?_
  refine qg ee aj (fun _ aj=>?_) (fun _ aj=>?_)
  ·refine sr_<|as_ ee<|as_ ee<|nt_ ?_
   refine ⟨.inr ee,_,ee,?_⟩
   obtain rfl:=q9 aj
   exact ⟨_,ee,wkA [] [] [0]⟩
  refine qh<|sr_<|mv_ ee<|v_ (.ref 0 4 0 0) ee<|v_ (.ref 0 4 0 0) ee<|v_ (.hs 1 4 0 n.2.2.2.length) ee<|as_ ee<|as_ ee<|nt_ ?_
  refine ⟨.inr ee,_,ee,?_⟩
  obtain rfl:=q9 aj
  exact ⟨_,ee,wkA [(0,1)] [] []⟩
 intro q hb
 subst hb
 refine v_ (.hs 0 4 0 q.2.length) ee<|v_ (di_ q.1) ee<|as_ ee<|as_ ee<|nt_ ?_
 obtain rfl:=q9 u
 exact finD (.inr ee) (v:=.tup [.hs 0 4 0 q.2.length,di_ q.1]) ee (qpv (qcv (qc1 ee ee) (qcv ee ee))) (.refl _)
theorem qqh (b : List qb) (r : List qb × Int) (a : qbk b = some r) : Pure Tryz.prog tab 83 [.sl 4 (b.map qd)] (.tup [.sl 4 (r.1.map qd),i_ r.2]):=by
 unfold qbk at a
 refine qn Tryz.func83 ee (by kernel_rfl) (by kernel_rfl) ee<|sr_<|as_ ee<|as_ ee<|q0<|qa<|sr_<|mv_ ee<|ln_ ee<|v_ (.d (.bool (decide ((b.length : Int) > 400)))) ee<|q0 ?_
 refine qg ee a (fun _ a=>?_) (fun _ a=>?_)
 ·refine sr_<|as_ ee<|as_ ee<|nt_ ?_
  obtain rfl:=q9 a
  exact finD (.inr ee) (v:=.d (.tup [.nilsl,i_ 4])) ee ee (q7i (.cons (.nil _) (.cons (.refl _) .nil)))
 refine qh<|qa<|sr_<|mv_ ee ?_
 obtain ⟨g,h,a⟩:=q6 a
 refine pc_ (qay b (fun f=>q7m f) 114 [] (fun f r hr=>qo7 f r hr) g h) ee<|q0 ?_
 refine qg ee a (fun _ a=>?_) (fun _ a=>?_)
 ·refine sr_<|as_ ee<|as_ ee<|nt_ ?_
  obtain rfl:=q9 a
  exact finD (.inr ee) (v:=.d (.tup [.nilsl,i_ 8])) ee ee (q7i (.cons (.nil _) (.cons (.refl _) .nil)))
 refine qh<|sr_<|mv_ ee ?_
 obtain ⟨c,j,a⟩:=q6 a
 refine pc_ (qil b c j) ee<|v_ (.d (.sl 4 (c.1.map qd))) ee<|v_ (di_ c.2) ee<|as_ ee<|as_ ee<|nt_ ?_
 obtain rfl:=q9 a
 exact fR_ (.d (.tup [.sl 4 (c.1.map qd),i_ c.2])) ee
theorem q82 (g : List qb) (h : List qb) (r : Bool) (b : q3r g h = some r) : Pure Tryz.prog tab 109 [.sl 4 (g.map qd),.sl 4 (h.map qd)] (.bool r):=by
 unfold q3r at b
 refine qn Tryz.func109 ee (by kernel_rfl) (by kernel_rfl) ee<|sr_<|as_ ee<|q0<|qa<|sr_<|mv_ ee<|ln_ ee<|mv_ ee<|ln_ ee<|v_ (.d (.bool ((g.length : Int) != (h.length : Int)))) ee<|q0 ?_
 refine qg ee b (fun _ b=>?_) (fun _ b=>?_)
 ·refine sr_<|as_ ee<|nt_ ?_
  obtain rfl:=q9 b
  exact fR_ (db_ false) ee
 refine qh<|qa<|sr_<|mv_ ee<|ln_ ee<|mv_ ee<|q0 ?_
 obtain ⟨l,m,b⟩:=q6 b
 refine qp (fun k=>.inl k = l) (fun (k : Unit)=>⟨[],[],0⟩) (by simp) ?_ ?_
 ·refine qt (q57 g h) (fun (j : Int)=>⟨[(0,.d (.sl 4 (g.map qd))),(1,.d (.sl 4 (h.map qd))),(12,di_ (g.length : Int)),(13,di_ j)],[],0⟩) 0 l m (wkA [] [] []) ?_
  intro j p a
  unfold q57 at a
  refine sr_<|v_ (.d (.bool (decide (j < (g.length : Int))))) ee<|q0<|qa ?_
  refine qg ee a (fun _ a=>?_) (fun _ a=>?_)
  ·refine qh<|qa<|ql<|sr_<|mv_ ee<|as_ ee<|q0<|qa<|qm [(some [],[]),(some [],[]),(some [],[]),(some [],[]),(some [],[]),(some [],[]),(some [],[]),(some [],[]),(some [],[])] (by kernel_rfl)<|mv_ ee<|mv_ ee ?_
   obtain ⟨c,n,a⟩:=q6 a
   refine ix_ (enc:=qd) n ee<|v_ (.d (.agg [i_ c.X0,i_ c.Y0,i_ c.X1,i_ c.Y1])) ee<|mv_ ee<|mv_ ee ?_
   obtain ⟨f,o,a⟩:=q6 a
   refine ix_ (enc:=qd) o ee<|v_ (.d (.agg [i_ f.X0,i_ f.Y0,i_ f.X1,i_ f.Y1])) ee<|v_ (.d (.bool (!((c.X0 == f.X0) && ((c.Y0 == f.Y0) && ((c.X1 == f.X1) && ((c.Y1 == f.Y1) && true))))))) ee<|q0 ?_
   refine qg ee a (fun _ a=>?_) (fun _ a=>?_)
   ·refine sr_<|as_ ee<|nt_ ?_
    refine ⟨_,(Option.some.inj a).symm,fun hm=>?_⟩
    subst hm
    obtain rfl:=q9 b
    exact fR_ (db_ false) ee
   refine qh<|qz<|qw<|qi<|v_ (.d (i_ (w64 (j + 1)))) ee<|mv_ ee<|nl_ ?_
   exact ⟨_,(Option.some.inj a).symm,wkA [] [] []⟩
  refine qv ?_
  refine ⟨_,(Option.some.inj a).symm,fun hm=>?_⟩
  subst hm
  exact ⟨_,ee,wkA [] [] []⟩
 intro k hb
 subst hb
 refine sr_<|as_ ee<|nt_ ?_
 obtain rfl:=q9 b
 exact fR_ (db_ true) ee
theorem qh9 (c : List q8) (m : List qb) (p : Int) (l : Int) (g : Int) (b : Int) (h : List qb) (r : List qb × Int × Int × List q8) (f : q7f  c m p l g b h = some r) : q1j Tryz.prog tab 84 [.ref 0 4 0 0,di_ g,di_ b,.d (.sl 4 (h.map qd))] [(0,.cel 4 [[.hs 1 6 0 c.length,.d (.sl 4 (m.map qd)),di_ p,di_ l]]),(1,.dat 6 (c.map qf))] 2 (.d (.tup [])) [(0,.cel 4 [[.hs 2 6 0 r.2.2.2.length,.d (.sl 4 (r.1.map qd)),di_ r.2.1,di_ r.2.2.1]]),(2,.dat 6 (r.2.2.2.map qf))] 3:=by
 unfold q7f at f
 refine q1a Tryz.func84 ee (by kernel_rfl) (by kernel_rfl) ee<|qa<|sr_<|mv_ ee<|ln_ ee<|v_ (.d (.bool (decide ((h.length : Int) > 0)))) ee ?_
 obtain ⟨am,t,f⟩:=q6 f
 refine qq 8 (fun A st=>∃ (v w x y z aa ab : V),st = A [(21,db_ am),(20,ab),(19,aa),(18,z),(17,y),(16,x),(15,w),(14,v)]) ?_ ?_
 ·refine qu ee ee t (fun t=>?_) (fun t=>?_)
  ·refine mv_ ee<|v_ (.ref 0 4 0 0) ee<|v_ (.ref 0 4 0 3) ee<|v_ (di_ l) ee<|mv_ ee<|v_ (db_ (l == g)) ee<|v_ (db_ (l == g)) ee<|q0 ?_
   obtain rfl:=q9 t
   exact ⟨_,_,_,_,_,_,_,ee⟩
  refine q7 ee<|q7 ee<|q7 ee<|q7 ee<|q7 ee<|q7 ee<|v_ (db_ false) ee<|q0 ?_
  obtain rfl:=q9 t
  exact ⟨_,_,_,_,_,_,_,ee⟩
 rintro _ ⟨v,w,x,y,z,aa,ab,rfl⟩
 obtain ⟨an,q,f⟩:=q6 f
 refine qq 8 (fun A st=>∃ (ac ad ae af ag ah ai : V),st = A [(29,db_ an),(28,ai),(27,ah),(26,ag),(25,af),(24,ae),(23,ad),(22,ac)]) ?_ ?_
 ·refine qu ee ee q (fun q=>?_) (fun q=>?_)
  ·refine mv_ ee<|v_ (.ref 0 4 0 0) ee<|v_ (.ref 0 4 0 1) ee<|v_ (.d (.sl 4 (m.map qd))) ee<|mv_ ee ?_
   obtain ⟨aj,ao,q⟩:=q6 q
   refine pc_ (q82 m h aj ao) ee<|v_ (db_ aj) ee<|q0 ?_
   obtain rfl:=q9 q
   exact ⟨_,_,_,_,_,_,_,ee⟩
  refine q7 ee<|q7 ee<|q7 ee<|q7 ee<|q7 ee<|q7 ee<|v_ (db_ false) ee<|q0 ?_
  obtain rfl:=q9 q
  exact ⟨_,_,_,_,_,_,_,ee⟩
 rintro _ ⟨ac,ad,ae,af,ag,ah,ai,rfl⟩
 refine q0 ?_
 refine qg ee f (fun _ f=>?_) (fun _ f=>?_)
 ·refine qa<|sr_<|mv_ ee<|v_ (.ref 0 4 0 0) ee<|v_ (.ref 0 4 0 2) ee<|v_ (di_ p) ee<|as_ ee<|q0 ?_
  obtain ⟨ak,ap,f⟩:=q6 f
  refine qp (fun s=>s = ak) (fun (s : List q8)=>⟨[(0,.ref 0 4 0 0),(2,di_ b)],[(0,.cel 4 [[.hs 1 6 0 s.length,.d (.sl 4 (m.map qd)),di_ p,di_ l]]),(1,.dat 6 (s.map qf))],2⟩) (by simp) ?_ ?_
  ·refine qt (q5l b) (fun (j : Int × List q8)=>⟨[(0,.ref 0 4 0 0),(2,di_ b),(8,di_ j.1)],[(0,.cel 4 [[.hs 1 6 0 j.2.length,.d (.sl 4 (m.map qd)),di_ p,di_ l]]),(1,.dat 6 (j.2.map qf))],2⟩) (p,c) ak ap (wkA [] [] []) ?_
   intro j ax n
   unfold q5l at n
   refine qa<|sr_<|mv_ ee<|mv_ ee<|v_ (.ref 0 4 0 0) ee<|v_ (.ref 0 4 0 0) ee<|v_ (.hs 1 6 0 j.2.length) ee<|v_ (di_ (j.2.length : Int)) ee<|v_ (.d (.bool (decide (j.1 < (j.2.length : Int))))) ee<|q0 ?_
   refine qg ee n (fun _ n=>?_) (fun _ n=>?_)
   ·refine qh<|qa<|ql<|qi<|mv_ ee<|v_ (.ref 0 4 0 0) ee<|v_ (.ref 0 4 0 0) ee<|v_ (.hs 1 6 0 j.2.length) ee<|mv_ ee<|mv_ ee ?_
    obtain ⟨u,al,n⟩:=q6 n
    refine ih_ al ee ee<|v_ (.ref 1 6 j.1.toNat 3) ee<|v_ (.ref 1 6 j.1.toNat 5) ee<|q18 (ds:=[i_ b]) ({Lo:=u.Lo,Hi:=({X:=u.Hi.X,Y:=u.Hi.Y,Z:=b} : qk)} : q8) al ee ee ee ee ee ee ee ee (leb ee) ee<|nl_<|qw<|qi<|mv_ ee<|v_ (.d (i_ (w64 (j.1 + 1)))) ee<|as_ ee<|nl_ ?_
    exact ⟨_,(Option.some.inj n).symm,wkE [] [] [] ee ⟨⟨_,ee,.ref ee (by decide) (ltd ee)⟩,⟨_,ee,.d (.refl _)⟩,⟨_,ee,.d (.refl _)⟩,trivial⟩ ⟨⟨ltd ee,.inr ⟨by decide,_,ee,qbp (.cons (q16 (by simp) ee (by decide) (ltd ee)) ee (.cons (.d (.refl _)) ee (.cons (.d (.refl _)) ee (.cons (.d (.refl _)) ee .nil))))⟩⟩,⟨ltd ee,.inr ⟨by decide,_,ee,.dat _ _⟩⟩,trivial⟩⟩
   refine qv ?_
   refine ⟨_,(Option.some.inj n).symm,fun hm=>?_⟩
   subst hm
   exact ⟨_,ee,wkA [] [] []⟩
  intro s hb
  subst hb
  refine sr_<|mv_ ee<|mv_ ee<|v_ (.ref 0 4 0 0) ee<|v_ (.ref 0 4 0 3) ee<|q1f 0 (.cel 4 [[.hs 1 6 0 s.length,.d (.sl 4 (m.map qd)),di_ p,di_ b]]) ee<|nt_ ?_
  obtain rfl:=q9 f
  exact ⟨.inr ee,_,ee,wkA [(2,1)] [] []⟩
 refine qh<|sr_<|mv_ ee<|mv_ ee<|mv_ ee<|mv_ ee<|v_ (.ref 0 4 0 0) ee<|v_ (.ref 0 4 0 0) ee<|v_ (.hs 1 6 0 c.length) ee<|v_ (di_ (c.length : Int)) ee<|mv_ ee<|mv_ ee<|v_ (.ref 0 4 0 0) ee<|v_ (.ref 0 4 0 2) ee<|q1f 0 (.cel 4 [[.hs 1 6 0 c.length,.d (.sl 4 (m.map qd)),di_ (c.length : Int),di_ l]]) ee<|v_ (.ref 0 4 0 0) ee<|v_ (.ref 0 4 0 1) ee<|q1f 0 (.cel 4 [[.hs 1 6 0 c.length,.d (.sl 4 (h.map qd)),di_ (c.length : Int),di_ l]]) ee<|v_ (.ref 0 4 0 0) ee<|v_ (.ref 0 4 0 3) ee<|q1f 0 (.cel 4 [[.hs 1 6 0 c.length,.d (.sl 4 (h.map qd)),di_ (c.length : Int),di_ b]]) ee<|qs<|mv_ ee<|ln_ ee<|mv_ ee<|q0 ?_
 obtain ⟨aq,ar,f⟩:=q6 f
 refine ql<|qt (q5m h g b c) (fun (o : Int × List q8)=>⟨[(0,.ref 0 4 0 0),(1,di_ g),(2,di_ b),(72,.d (.sl 4 (h.map qd))),(73,di_ (h.length : Int)),(74,di_ o.1)],[(0,.cel 4 [[.hs 2 6 0 o.2.length,.d (.sl 4 (h.map qd)),di_ (c.length : Int),di_ b]]),(2,.dat 6 (o.2.map qf))],3⟩) (0,c) aq ar (wkA [(2,1)] [] []) ?_
 intro o ay k
 unfold q5m at k
 refine sr_<|v_ (.d (.bool (decide (o.1 < (h.length : Int))))) ee<|q0<|qa ?_
 refine qg ee k (fun _ k=>?_) (fun _ k=>?_)
 ·refine qh<|qa<|ql<|sr_ ?_
  obtain ⟨a,au,k⟩:=q6 k
  refine ix_ (enc:=qd) au ee<|v_ (.d (.agg [i_ a.X0,i_ a.Y0,i_ a.X1,i_ a.Y1])) ee<|q13 ee ee<|q1f 3 (.dat 4 [[i_ a.X0,i_ a.Y0,i_ a.X1,i_ a.Y1]]) ee<|q0<|qm [(some [0],[0]),(some [],[]),(some [],[]),(some [2,4],[2,5]),(some [],[4]),(some [],[]),(some [],[]),(some [],[]),(some [3],[]),(some [],[]),(some [3],[]),(some [],[]),(some [],[]),(some [],[]),(some [3],[]),(some [],[]),(some [3],[]),(some [],[]),(some [0],[]),(some [],[]),(some [],[]),(some [],[]),(some [],[])] (by kernel_rfl)<|mv_ ee<|mv_ ee<|v_ (.ref 0 4 0 0) ee<|v_ (.ref 0 4 0 0) ee<|v_ (.hs 2 6 0 o.2.length) ee<|v_ (.ref 3 4 0 0) ee<|v_ (di_ a.X0) ee<|v_ (.ref 3 4 0 1) ee<|v_ (di_ a.Y0) ee<|mv_ ee<|v_ (.d (.agg [i_ a.X0,i_ a.Y0,i_ g])) ee<|v_ (.ref 3 4 0 2) ee<|v_ (di_ a.X1) ee<|v_ (.ref 3 4 0 3) ee<|v_ (di_ a.Y1) ee<|mv_ ee<|v_ (.d (.agg [i_ a.X1,i_ a.Y1,i_ b])) ee<|v_ (.d (.agg [i_ a.X0,i_ a.Y0,i_ g,i_ a.X1,i_ a.Y1,i_ b])) ee<|q20 (.hs 4 6 0 [({Lo:=({X:=a.X0,Y:=a.Y0,Z:=g} : qk),Hi:=({X:=a.X1,Y:=a.Y1,Z:=b} : qk)} : q8)].length) (.dat 6 ([({Lo:=({X:=a.X0,Y:=a.Y0,Z:=g} : qk),Hi:=({X:=a.X1,Y:=a.Y1,Z:=b} : qk)} : q8)].map qf)) ee ?_
  obtain ⟨av,aw,k⟩:=q6 k
  refine q7c (xs:=o.2) (ys:=[({Lo:=({X:=a.X0,Y:=a.Y0,Z:=g} : qk),Hi:=({X:=a.X1,Y:=a.Y1,Z:=b} : qk)} : q8)]) (enc:=qf) (.hs 4 6 0 [({Lo:=({X:=a.X0,Y:=a.Y0,Z:=g} : qk),Hi:=({X:=a.X1,Y:=a.Y1,Z:=b} : qk)} : q8)].length) aw ee ee ee ee ee ee ee (q4w ee ee) ee ee ee ee<|v_ (.ref 0 4 0 0) ee<|v_ (.ref 0 4 0 0) ee<|q1f 0 (.cel 4 [[.hs 5 6 0 av.length,.d (.sl 4 (h.map qd)),di_ (c.length : Int),di_ b]]) ee<|nl_<|qw<|qi<|v_ (.d (i_ (w64 (o.1 + 1)))) ee<|mv_ ee<|nl_ ?_
  exact ⟨_,(Option.some.inj k).symm,wkA [(2,5)] [] []⟩
 refine qv ?_
 refine ⟨_,(Option.some.inj k).symm,fun hm=>?_⟩
 subst hm
 obtain rfl:=q9 f
 exact ⟨.inl ee,_,ee,wkA [(2,2)] [] []⟩
theorem qd4 (c : List q8) (r : List q8 × Int) (o : q6e c = some r) : Pure Tryz.prog tab 53 [.agg [.nilf],.sl 1 ([c].map qy)] (.tup [.sl 6 (r.1.map qf),i_ r.2]):=by
 unfold q6e at o
 refine qn Tryz.func53 ee (by kernel_rfl) (by kernel_rfl) ee<|sr_<|q20 (.ref 0 1 0 0) (.dat 1 [[.nilf]]) ee<|q13 ee ee<|q13 ee ee<|qs<|q13 ee ee<|q0<|qa<|sr_<|mv_ ee ?_
 obtain ⟨ar,m,o⟩:=q6 o
 refine qo3 [.d (.sl 1 ([c].map qy))] (fun h=>h = ar) (fun (h : List Int)=>⟨[(2,.ref 0 1 0 0),(4,.ref 1 1 0 0),(5,.ref 2 1 0 0),(6,.ref 3 4 0 0),(14,.fn 112 [.ref 4 1 0 0,.ref 5 1 0 0])],[(0,.dat 1 [[.nilf]]),(1,.dat 1 [[.nilsl]]),(2,.dat 1 [[i_ 0]]),(3,.dat 4 [[.nilsl,.nilsl,i_ 0,i_ 0]]),(4,.cel 1 [[.d (.sl 1 (h.map (eI .i64)))]]),(5,.dat 1 [[.sl 1 ([c].map qy)]])],6⟩) ee ee Tryz.func82 ee (by kernel_rfl) (by kernel_rfl) ee ?_ ?_
 ·refine sr_<|q20 (.ref 4 1 0 0) (.dat 1 [[.sl 1 ([c].map qy)]]) ee<|as_ ee<|qs<|q13 ee ee<|q0<|qa<|sr_<|v_ (.d (.sl 1 ([c].map qy))) ee<|qu8 1 ee ee ee ee ee<|mv_ ee<|q0<|ql<|q9v<|sr_<|v_ (db_ true) ee<|q0<|qa<|qf8 ee<|qh<|qa ?_
  obtain ⟨au,ad,m⟩:=q6 m
  refine qp (fun n=>n = au) (fun (n : List Int)=>⟨[(1,.ref 4 1 0 0),(3,.ref 5 1 0 0),(8,.d (.sl 1 ([c].map qy))),(9,di_ 1),(10,di_ 0)],[(0,.dat 1 [[.nilf]]),(1,.dat 1 [[.nilsl]]),(2,.dat 1 [[i_ 0]]),(3,.dat 4 [[.nilsl,.nilsl,i_ 0,i_ 0]]),(4,.dat 1 [[.sl 1 ([c].map qy)]]),(5,.cel 1 [[.hs 6 1 0 n.length]]),(6,.dat 1 (n.map (eI .i64)))],7⟩) (by simp) ?_ ?_
  ·refine sr_ ?_
   obtain ⟨ae,av,ad⟩:=q6 ad
   refine ix_ (enc:=qy) av ee<|v_ (.d (.sl 6 (ae.map qf))) ee<|as_ ee<|qs<|mv_ ee<|ln_ ee<|mv_ ee<|q0 ?_
   obtain ⟨aw,ax,ad⟩:=q6 ad
   refine ql<|qt (q4x ae) (fun (w : Int × List Int)=>⟨[(1,.ref 4 1 0 0),(3,.ref 5 1 0 0),(8,.d (.sl 1 ([c].map qy))),(9,di_ 1),(10,di_ 0),(14,.d (.sl 6 (ae.map qf))),(15,di_ (ae.length : Int)),(16,di_ w.1)],[(0,.dat 1 [[.nilf]]),(1,.dat 1 [[.nilsl]]),(2,.dat 1 [[i_ 0]]),(3,.dat 4 [[.nilsl,.nilsl,i_ 0,i_ 0]]),(4,.dat 1 [[.sl 1 ([c].map qy)]]),(5,.cel 1 [[.hs 6 1 0 w.2.length]]),(6,.dat 1 (w.2.map (eI .i64)))],7⟩) (0,[]) aw ax (wkA [(4,4),(5,5)] [] [6]) ?_
   intro w cb q
   unfold q4x at q
   refine sr_<|v_ (.d (.bool (decide (w.1 < (ae.length : Int))))) ee<|q0<|qa ?_
   refine qg ee q (fun _ q=>?_) (fun _ q=>?_)
   ·refine qh<|qa<|ql<|sr_ ?_
    obtain ⟨f,ay,q⟩:=q6 q
    refine ix_ (enc:=qf) ay ee<|v_ (.d (.agg [i_ f.Lo.X,i_ f.Lo.Y,i_ f.Lo.Z,i_ f.Hi.X,i_ f.Hi.Y,i_ f.Hi.Z])) ee<|q13 ee ee<|q1f 7 (.dat 6 [[i_ f.Lo.X,i_ f.Lo.Y,i_ f.Lo.Z,i_ f.Hi.X,i_ f.Hi.Y,i_ f.Hi.Z]]) ee<|q0<|qi<|v_ (.hs 6 1 0 w.2.length) ee<|v_ (.ref 7 6 0 0) ee<|v_ (.ref 7 6 0 2) ee<|v_ (di_ f.Lo.Z) ee<|v_ (.ref 7 6 0 3) ee<|v_ (.ref 7 6 0 5) ee<|v_ (di_ f.Hi.Z) ee<|q20 (.hs 8 1 0 [f.Lo.Z,f.Hi.Z].length) (.dat 1 ([f.Lo.Z,f.Hi.Z].map (eI .i64))) ee ?_
    obtain ⟨az,ba,q⟩:=q6 q
    refine q7c (xs:=w.2) (ys:=[f.Lo.Z,f.Hi.Z]) (enc:=(eI .i64)) (.hs 8 1 0 [f.Lo.Z,f.Hi.Z].length) ba ee ee ee ee ee ee ee (q4w ee ee) ee ee ee ee<|q1f 5 (.cel 1 [[.hs 9 1 0 az.length]]) ee<|nl_<|qw<|qi<|v_ (.d (i_ (w64 (w.1 + 1)))) ee<|mv_ ee<|nl_ ?_
    exact ⟨_,(Option.some.inj q).symm,wkA [(4,4),(5,5),(6,9)] [] []⟩
   refine qv ?_
   refine ⟨_,(Option.some.inj q).symm,fun hm=>?_⟩
   subst hm
   obtain rfl:=q9 ad
   exact ⟨_,ee,wkA [(4,4),(5,5),(6,6)] [] []⟩
  intro n hb
  subst hb
  refine qi<|v_ (di_ 1) ee<|mv_ ee<|q0<|q9v<|sr_<|v_ (db_ false) ee<|q0<|qa<|qa6 ee<|qv<|qgk<|sr_<|v_ (.hs 6 1 0 n.length) ee ?_
  obtain ⟨aj,bb,m⟩:=q6 m
  obtain ⟨cc,bc,m⟩:=q6 m
  have bd:=q1h bc
  refine q41 [(0,6)] [(0,1),(1,1),(2,1),(3,1),(4,1),(5,1),(6,0)] [.hs 6 1 0 n.length] (.d (.tup [])) 1 [(6,.dat 1 (aj.map (eI .i64))),(0,.dat 1 [[.nilf]]),(1,.dat 1 [[.nilsl]]),(2,.dat 1 [[i_ 0]]),(3,.dat 4 [[.nilsl,.nilsl,i_ 0,i_ 0]]),(4,.dat 1 [[.sl 1 ([c].map qy)]]),(5,.cel 1 [[.hs 6 1 0 n.length]])] 7 (qbb n aj bb)<|qs<|v_ (.hs 6 1 0 n.length) ee ?_
  obtain ⟨aa,be,m⟩:=q6 m
  obtain ⟨cd,bf,m⟩:=q6 m
  have ce:=q1h bf
  obtain ⟨cf,bg,m⟩:=q6 m
  have bh:=qpz bg
  refine qa3 [(0,6)] [(0,1),(1,1),(2,1),(3,1),(4,1),(5,1),(6,0)] [.hs 6 1 0 n.length] (.hs 6 1 aa.1.1 aa.1.2) [(6,.dat 1 (aa.2.map (eI .i64)))] [(6,.dat 1 (aa.2.map (eI .i64))),(0,.dat 1 [[.nilf]]),(1,.dat 1 [[.nilsl]]),(2,.dat 1 [[i_ 0]]),(3,.dat 4 [[.nilsl,.nilsl,i_ 0,i_ 0]]),(4,.dat 1 [[.sl 1 ([c].map qy)]]),(5,.cel 1 [[.hs 6 1 0 n.length]])] 7 (qa8 aj aa be) ee ee ee (q85 [(0,6)] [] [] ee ⟨⟨_,ee,q16 (by simp [bd]) ee (by decide) (ltd ee)⟩,trivial⟩ ⟨⟨ltd ee,.inr ⟨by decide,_,ee,.dat _ _⟩⟩,trivial⟩) (q85 [(0,1),(1,1),(2,1),(3,1),(4,1),(5,1),(6,0)] [] [] ee ⟨⟨_,ee,.hs ee (by decide) (ltd ee)⟩,trivial⟩ ⟨⟨ltd ee,.inr ⟨by decide,_,ee,.dat _ _⟩⟩,trivial⟩) ee ⟨.inl ee,.inr ⟨ee,ee⟩,.inr ⟨ee,ee⟩,.inr ⟨ee,ee⟩,.inr ⟨ee,ee⟩,.inr ⟨ee,ee⟩,.inr ⟨ee,ee⟩,trivial⟩<|q1f 5 (.cel 1 [[.hs 6 1 aa.1.1 aa.1.2]]) ee<|qs<|v_ (.fn 112 [.ref 5 1 0 0,.ref 4 1 0 0]) ee<|as_ ee<|nt_ ?_
  refine ⟨.inr ee,_,ee,?_⟩
  obtain rfl:=q9 m
  exact ⟨_,ee,wkE [(0,0),(1,1),(2,2),(3,3),(4,5),(5,4)] [6] [] ee ⟨⟨_,ee,.ref ee (by decide) (ltd ee)⟩,⟨_,ee,.ref ee (by decide) (ltd ee)⟩,⟨_,ee,.ref ee (by decide) (ltd ee)⟩,⟨_,ee,.ref ee (by decide) (ltd ee)⟩,⟨_,ee,(qjv (.cons (.ref ee (by decide) (ltd ee)) (.cons (.ref ee (by decide) (ltd ee)) .nil)))⟩,trivial⟩ ⟨⟨ltd ee,.inr ⟨by decide,_,ee,.dat _ _⟩⟩,⟨ltd ee,.inr ⟨by decide,_,ee,.dat _ _⟩⟩,⟨ltd ee,.inr ⟨by decide,_,ee,.dat _ _⟩⟩,⟨ltd ee,.inr ⟨by decide,_,ee,.dat _ _⟩⟩,⟨ltd ee,.inr ⟨by decide,_,ee,qbp (.cons (qxg bh ee (by decide)) ee .nil)⟩⟩,⟨ltd ee,.inr ⟨by decide,_,ee,.dat _ _⟩⟩,trivial⟩⟩
 intro h hb
 subst hb
 refine q0<|ql ?_
 obtain ⟨bi,ai,o⟩:=q6 o
 refine qqi (fun k=>.inl k = bi) (fun (k : List qb × Int × Int × List q8)=>⟨[(4,.ref 0 1 0 0),(5,.ref 1 1 0 0),(6,.ref 2 4 0 0)],[(0,.dat 1 [[.nilsl]]),(1,.dat 1 [[i_ 0]]),(2,.cel 4 [[.hs 3 6 0 k.2.2.2.length,.d (.sl 4 (k.1.map qd)),di_ k.2.1,di_ k.2.2.1]]),(3,.dat 6 (k.2.2.2.map qf))],4⟩) ?_ ?_
 ·refine qad (st':=⟨[(2,.ref 0 1 0 0),(4,.ref 1 1 0 0),(5,.ref 2 1 0 0),(6,.ref 3 4 0 0),(14,.fn 112 [.ref 4 1 0 0,.ref 5 1 0 0])],[(0,.dat 1 [[.nilf]]),(1,.dat 1 [[.nilsl]]),(2,.dat 1 [[i_ 0]]),(3,.dat 4 [[.nilsl,.nilsl,i_ 0,i_ 0]]),(4,.cel 1 [[.d (.sl 1 (h.map (eI .i64)))]]),(5,.dat 1 [[.sl 1 ([c].map qy)]])],6⟩) (wkA [(0,0),(1,1),(2,2),(3,3),(4,4),(5,5)] [] []) ?_ (by simp)
  refine qlj [.ref 4 1 0 0,.ref 5 1 0 0] (.inl ee) Tryz.func112 ee (by kernel_rfl) (by kernel_rfl) ee ?_
  intro A879 B880 hA879 hB880
  refine sr_<|as_ ee<|q0 ?_
  obtain ⟨bj,bk,ai⟩:=q6 ai
  refine ql<|qt (q4y h c) (fun (b : Int × List qb × Int × Int × List q8)=>⟨[(0,.yld 6),(1,.ref 4 1 0 0),(2,.ref 5 1 0 0),(4,di_ b.1)],[(0,.dat 1 [[.nilf]]),(1,.dat 1 [[.nilsl]]),(2,.dat 1 [[i_ 0]]),(3,.cel 4 [[.hs 7 6 0 b.2.2.2.2.length,.d (.sl 4 (b.2.1.map qd)),di_ b.2.2.1,di_ b.2.2.2.1]]),(4,.cel 1 [[.d (.sl 1 (h.map (eI .i64)))]]),(5,.dat 1 [[.sl 1 ([c].map qy)]]),(6,.loop [(2,.ref 0 1 0 0),(4,.ref 1 1 0 0),(5,.ref 2 1 0 0),(6,.ref 3 4 0 0),(14,.fn 112 [.ref 4 1 0 0,.ref 5 1 0 0])] [15] A879 B880 .ready none),(7,.dat 6 (b.2.2.2.2.map qf))],8⟩) (1,[],0,0,[]) bj bk (wkA [] [] [7]) ?_
  intro b cg j
  unfold q4y at j
  refine qa<|sr_<|mv_ ee<|v_ (.d (.sl 1 (h.map (eI .i64)))) ee<|ln_ ee<|v_ (.d (.bool (decide (b.1 < (h.length : Int))))) ee<|q0 ?_
  refine qg ee j (fun _ j=>?_) (fun _ j=>?_)
  ·refine qh<|qa<|ql<|qa<|qm [(some [9],[9]),(some [],[9]),(some [],[]),(some [],[8]),(some [],[]),(some [5],[]),(some [],[]),(some [],[]),(some [],[]),(some [4],[]),(some [],[]),(some [],[]),(some [],[]),(some [],[]),(some [4],[])] (by kernel_rfl)<|v_ (.d (.sl 1 (h.map (eI .i64)))) ee<|mv_ ee<|v_ (.d (i_ (w64 (b.1 - 1)))) ee ?_
   obtain ⟨g,bl,j⟩:=q6 j
   refine ix_ (enc:=(eI .i64)) bl ee<|v_ (di_ g) ee<|v_ (.d (.sl 1 (h.map (eI .i64)))) ee<|mv_ ee ?_
   obtain ⟨l,bm,j⟩:=q6 j
   refine ix_ (enc:=(eI .i64)) bm ee<|v_ (di_ l) ee<|v_ (.d (.sl 1 ([c].map qy))) ee<|qu8 1 ee ee ee ee ee<|q20 (.hs 8 1 0 1) (.dat 1 [[.nilsl]]) ee<|v_ (.agg [di_ g,di_ l,.hs 8 1 0 1]) ee<|q13 ee ee<|q1f 9 (.cel 3 [[di_ g,di_ l,.hs 8 1 0 1]]) ee<|q0<|qa<|sr_<|v_ (.d (.sl 1 ([c].map qy))) ee<|qu8 1 ee ee ee ee ee<|mv_ ee<|q0<|ql<|q9v<|sr_<|v_ (db_ true) ee<|q0<|qa<|qf8 ee<|qh<|qa ?_
   obtain ⟨bn,af,j⟩:=q6 j
   refine qp (fun s=>s = bn) (fun (s : List qb)=>⟨[(0,.yld 6),(1,.ref 4 1 0 0),(2,.ref 5 1 0 0),(4,di_ b.1),(5,.ref 7 3 0 0),(29,.d (.sl 1 ([c].map qy))),(30,di_ 1),(31,di_ 0)],[(0,.dat 1 [[.nilf]]),(1,.dat 1 [[.nilsl]]),(2,.dat 1 [[i_ 0]]),(3,.cel 4 [[.hs 8 6 0 b.2.2.2.2.length,.d (.sl 4 (b.2.1.map qd)),di_ b.2.2.1,di_ b.2.2.2.1]]),(4,.cel 1 [[.d (.sl 1 (h.map (eI .i64)))]]),(5,.dat 1 [[.sl 1 ([c].map qy)]]),(6,.loop [(2,.ref 0 1 0 0),(4,.ref 1 1 0 0),(5,.ref 2 1 0 0),(6,.ref 3 4 0 0),(14,.fn 112 [.ref 4 1 0 0,.ref 5 1 0 0])] [15] A879 B880 .ready none),(7,.cel 3 [[di_ g,di_ l,.hs 9 1 0 1]]),(8,.dat 6 (b.2.2.2.2.map qf)),(9,.cel 1 [[.hs 10 4 0 s.length]]),(10,.dat 4 (s.map qd))],11⟩) (by simp) ?_ ?_
   ·refine sr_<|mv_ ee ?_
    obtain ⟨ab,bo,af⟩:=q6 af
    refine ix_ (enc:=qy) bo ee<|v_ (.d (.sl 6 (ab.map qf))) ee<|as_ ee<|as_ ee<|qs<|mv_ ee<|ln_ ee<|mv_ ee<|q0 ?_
    obtain ⟨bp,bq,af⟩:=q6 af
    refine ql<|qt (q4d ab g) (fun (t : Int × List qb)=>⟨[(0,.yld 6),(1,.ref 4 1 0 0),(2,.ref 5 1 0 0),(4,di_ b.1),(5,.ref 7 3 0 0),(6,di_ 0),(29,.d (.sl 1 ([c].map qy))),(30,di_ 1),(31,di_ 0),(36,.d (.sl 6 (ab.map qf))),(37,di_ (ab.length : Int)),(38,di_ t.1)],[(0,.dat 1 [[.nilf]]),(1,.dat 1 [[.nilsl]]),(2,.dat 1 [[i_ 0]]),(3,.cel 4 [[.hs 8 6 0 b.2.2.2.2.length,.d (.sl 4 (b.2.1.map qd)),di_ b.2.2.1,di_ b.2.2.2.1]]),(4,.cel 1 [[.d (.sl 1 (h.map (eI .i64)))]]),(5,.dat 1 [[.sl 1 ([c].map qy)]]),(6,.loop [(2,.ref 0 1 0 0),(4,.ref 1 1 0 0),(5,.ref 2 1 0 0),(6,.ref 3 4 0 0),(14,.fn 112 [.ref 4 1 0 0,.ref 5 1 0 0])] [15] A879 B880 .ready none),(7,.cel 3 [[di_ g,di_ l,.hs 9 1 0 1]]),(8,.dat 6 (b.2.2.2.2.map qf)),(9,.cel 1 [[.hs 10 4 0 t.2.length]]),(10,.dat 4 (t.2.map qd))],11⟩) (0,[]) bp bq (wkA [(7,9),(8,7),(9,8)] [] [10]) ?_
    intro t ch x
    unfold q4d at x
    refine sr_<|v_ (.d (.bool (decide (t.1 < (ab.length : Int))))) ee<|q0<|qa ?_
    refine qg ee x (fun _ x=>?_) (fun _ x=>?_)
    ·refine qh<|qa ?_
     obtain ⟨br,p,x⟩:=q6 x
     refine qp (fun ag=>ag = br) (fun (ag : List qb)=>⟨[(0,.yld 6),(1,.ref 4 1 0 0),(2,.ref 5 1 0 0),(4,di_ b.1),(5,.ref 7 3 0 0),(6,di_ 0),(29,.d (.sl 1 ([c].map qy))),(30,di_ 1),(31,di_ 0),(36,.d (.sl 6 (ab.map qf))),(37,di_ (ab.length : Int)),(38,di_ t.1)],[(0,.dat 1 [[.nilf]]),(1,.dat 1 [[.nilsl]]),(2,.dat 1 [[i_ 0]]),(3,.cel 4 [[.hs 8 6 0 b.2.2.2.2.length,.d (.sl 4 (b.2.1.map qd)),di_ b.2.2.1,di_ b.2.2.2.1]]),(4,.cel 1 [[.d (.sl 1 (h.map (eI .i64)))]]),(5,.dat 1 [[.sl 1 ([c].map qy)]]),(6,.loop [(2,.ref 0 1 0 0),(4,.ref 1 1 0 0),(5,.ref 2 1 0 0),(6,.ref 3 4 0 0),(14,.fn 112 [.ref 4 1 0 0,.ref 5 1 0 0])] [15] A879 B880 .ready none),(7,.cel 3 [[di_ g,di_ l,.hs 9 1 0 1]]),(8,.dat 6 (b.2.2.2.2.map qf)),(9,.cel 1 [[.hs 10 4 0 ag.length]]),(10,.dat 4 (ag.map qd))],11⟩) (by simp) ?_ ?_
     ·refine sr_ ?_
      obtain ⟨a,bs,p⟩:=q6 p
      refine ix_ (enc:=qf) bs ee<|v_ (.d (.agg [i_ a.Lo.X,i_ a.Lo.Y,i_ a.Lo.Z,i_ a.Hi.X,i_ a.Hi.Y,i_ a.Hi.Z])) ee<|q13 ee ee<|q1f 11 (.dat 6 [[i_ a.Lo.X,i_ a.Lo.Y,i_ a.Lo.Z,i_ a.Hi.X,i_ a.Hi.Y,i_ a.Hi.Z]]) ee<|qs<|v_ (.ref 11 6 0 0) ee<|v_ (.ref 11 6 0 2) ee<|v_ (di_ a.Lo.Z) ee<|v_ (.ref 7 3 0 0) ee<|v_ (di_ g) ee<|v_ (.d (.bool (decide (a.Lo.Z≤g)))) ee ?_
      obtain ⟨bt,ah,p⟩:=q6 p
      refine qq 8 (fun A st=>∃ (ak al am an ao ap aq : V),st = A [(55,db_ bt),(54,aq),(53,ap),(52,ao),(51,an),(50,am),(49,al),(48,ak)]) ?_ ?_
      ·refine qu ee ee ah (fun ah=>?_) (fun ah=>?_)
       ·refine v_ (.ref 7 3 0 0) ee<|v_ (di_ g) ee<|v_ (.ref 11 6 0 3) ee<|v_ (.ref 11 6 0 5) ee<|v_ (di_ a.Hi.Z) ee<|v_ (.d (.bool (decide (g < a.Hi.Z)))) ee<|v_ (.d (.bool (decide (g < a.Hi.Z)))) ee<|q0 ?_
        obtain rfl:=q9 ah
        exact ⟨_,_,_,_,_,_,_,ee⟩
       refine q7 ee<|q7 ee<|q7 ee<|q7 ee<|q7 ee<|q7 ee<|v_ (db_ false) ee<|q0 ?_
       obtain rfl:=q9 ah
       exact ⟨_,_,_,_,_,_,_,ee⟩
      rintro _ ⟨ak,al,am,an,ao,ap,aq,rfl⟩
      refine q0 ?_
      refine qg ee p (fun _ p=>?_) (fun _ p=>?_)
      ·refine qm [(some [9],[9]),(some [],[]),(some [10,12],[10,13]),(some [],[12]),(some [],[]),(some [11],[]),(some [],[]),(some [],[]),(some [11],[]),(some [],[]),(some [],[]),(some [11],[]),(some [],[]),(some [],[]),(some [11],[]),(some [],[]),(some [],[]),(some [9],[]),(some [],[]),(some [],[]),(some [7],[]),(some [],[]),(some [],[]),(some [7],[]),(some [],[])] (by kernel_rfl)<|v_ (.ref 7 3 0 2) ee<|v_ (.hs 9 1 0 1) ee<|mv_ ee<|v_ (.ref 7 3 0 2) ee<|v_ (.hs 9 1 0 1) ee<|mv_ ee<|v_ (.ref 9 1 0 0) ee<|v_ (.hs 10 4 0 t.2.length) ee<|v_ (.ref 11 6 0 0) ee<|v_ (.ref 11 6 0 0) ee<|v_ (di_ a.Lo.X) ee<|v_ (.ref 11 6 0 0) ee<|v_ (.ref 11 6 0 1) ee<|v_ (di_ a.Lo.Y) ee<|v_ (.ref 11 6 0 3) ee<|v_ (.ref 11 6 0 3) ee<|v_ (di_ a.Hi.X) ee<|v_ (.ref 11 6 0 3) ee<|v_ (.ref 11 6 0 4) ee<|v_ (di_ a.Hi.Y) ee<|v_ (.d (.agg [i_ a.Lo.X,i_ a.Lo.Y,i_ a.Hi.X,i_ a.Hi.Y])) ee<|q20 (.hs 12 4 0 [({X0:=a.Lo.X,Y0:=a.Lo.Y,X1:=a.Hi.X,Y1:=a.Hi.Y} : qb)].length) (.dat 4 ([({X0:=a.Lo.X,Y0:=a.Lo.Y,X1:=a.Hi.X,Y1:=a.Hi.Y} : qb)].map qd)) ee ?_
       obtain ⟨bu,bv,p⟩:=q6 p
       refine q7c (xs:=t.2) (ys:=[({X0:=a.Lo.X,Y0:=a.Lo.Y,X1:=a.Hi.X,Y1:=a.Hi.Y} : qb)]) (enc:=qd) (.hs 12 4 0 [({X0:=a.Lo.X,Y0:=a.Lo.Y,X1:=a.Hi.X,Y1:=a.Hi.Y} : qb)].length) bv ee ee ee ee ee ee ee (q4w ee ee) ee ee ee ee<|v_ (.ref 9 1 0 0) ee<|q1f 9 (.cel 1 [[.hs 13 4 0 bu.length]]) ee<|nl_ ?_
       obtain rfl:=q9 p
       exact ⟨_,ee,wkA [(7,7),(8,8),(9,9),(10,13)] [] []⟩
      refine qh<|qz ?_
      obtain rfl:=q9 p
      exact ⟨_,ee,wkA [(7,7),(8,8),(9,9),(10,10)] [] []⟩
     intro ag hb
     subst hb
     refine qi<|v_ (.d (i_ (w64 (t.1 + 1)))) ee<|mv_ ee<|nl_ ?_
     exact ⟨_,(Option.some.inj x).symm,wkA [(7,7),(8,8),(9,9),(10,10)] [] []⟩
    refine qv ?_
    refine ⟨_,(Option.some.inj x).symm,fun hm=>?_⟩
    subst hm
    obtain rfl:=q9 af
    exact ⟨_,ee,wkA [(7,7),(8,8),(9,9),(10,10)] [] []⟩
   intro s hb
   subst hb
   refine qi<|v_ (di_ 1) ee<|mv_ ee<|q0<|q9v<|sr_<|v_ (db_ false) ee<|q0<|qa<|qa6 ee<|qv<|qgk<|qa ?_
   refine qad (st':=⟨[(0,.yld 6),(1,.ref 4 1 0 0),(2,.ref 5 1 0 0),(4,di_ b.1),(5,.ref 7 3 0 0)],[(0,.dat 1 [[.nilf]]),(1,.dat 1 [[.nilsl]]),(2,.dat 1 [[i_ 0]]),(3,.cel 4 [[.hs 8 6 0 b.2.2.2.2.length,.d (.sl 4 (b.2.1.map qd)),di_ b.2.2.1,di_ b.2.2.2.1]]),(4,.cel 1 [[.d (.sl 1 (h.map (eI .i64)))]]),(5,.dat 1 [[.sl 1 ([c].map qy)]]),(6,.loop [(2,.ref 0 1 0 0),(4,.ref 1 1 0 0),(5,.ref 2 1 0 0),(6,.ref 3 4 0 0),(14,.fn 112 [.ref 4 1 0 0,.ref 5 1 0 0])] [15] A879 B880 .ready none),(7,.cel 3 [[di_ g,di_ l,.hs 9 1 0 1]]),(8,.dat 6 (b.2.2.2.2.map qf)),(9,.cel 1 [[.d (.sl 4 (s.map qd))]])],10⟩) (wkA [(7,7),(8,8),(9,9)] [10] []) ?_ (by simp)
   refine qi<|mv_ ee<|v_ (.agg [di_ g,di_ l,.hs 9 1 0 1]) ee ?_
   obtain ⟨bw,u,j⟩:=q6 j
   refine ql8 (fun y=>.inl y = bw) (fun (y : List qb × Int × Int × List q8)=>⟨[(0,.yld 6),(1,.ref 4 1 0 0),(2,.ref 5 1 0 0),(4,di_ b.1),(84,db_ true)],[(0,.dat 1 [[.nilf]]),(1,.dat 1 [[.nilsl]]),(2,.dat 1 [[i_ 0]]),(3,.cel 4 [[.hs 7 6 0 y.2.2.2.length,.d (.sl 4 (y.1.map qd)),di_ y.2.1,di_ y.2.2.1]]),(4,.cel 1 [[.d (.sl 1 (h.map (eI .i64)))]]),(5,.dat 1 [[.sl 1 ([c].map qy)]]),(6,.loop [(2,.ref 0 1 0 0),(4,.ref 1 1 0 0),(5,.ref 2 1 0 0),(6,.ref 3 4 0 0),(14,.fn 112 [.ref 4 1 0 0,.ref 5 1 0 0])] [15] A879 B880 .ready none),(7,.dat 6 (y.2.2.2.map qf))],8⟩) hA879 hB880 ee ee ee ee ee ee ?_ ?_
   ·refine qi<|q13 ee ee<|q1f 10 (.cel 3 [[di_ g,di_ l,.hs 9 1 0 1]]) ee<|nl_ ?_
    refine ⟨ee,_,ee,?_⟩
    refine ql<|sr_<|v_ (.ref 10 3 0 2) ee<|v_ (.hs 9 1 0 1) ee<|v_ (.ref 9 1 0 0) ee<|v_ (.d (.sl 4 (s.map qd))) ee ?_
    obtain ⟨z,bz,u⟩:=q6 u
    refine pc_ (qqh s z bz) ee<|mv_ ee<|v_ (.d (.sl 4 (z.1.map qd))) ee<|v_ (di_ z.2) ee<|as_ ee<|as_ ee<|q0<|qa<|sr_<|v_ (.ref 10 3 0 2) ee<|v_ (.hs 9 1 0 1) ee<|v_ (.hs 9 1 1 0) ee<|v_ (di_ 0) ee<|mv_ ee<|q0<|ql<|q9v<|sr_<|v_ (db_ false) ee<|q0<|qa<|qa6 ee<|qv<|qgk<|qa<|sr_<|mv_ ee<|v_ (db_ (z.2 != 0)) ee<|q0 ?_
    refine qg ee u (fun _ u=>?_) (fun _ u=>?_)
    ·refine sr_<|mv_ ee<|q1f 1 (.dat 1 [[.nilsl]]) ee<|q1f 2 (.dat 1 [[i_ z.2]]) ee<|nt_ ?_
     obtain rfl:=q9 u
     refine ⟨_,ee,?_⟩
     refine v_ (db_ true) ee<|q0<|qf8 ee<|qh4 ?_
     refine ⟨_,(Option.some.inj j).symm,fun hm=>?_⟩
     subst hm
     refine ⟨.inr ee,_,ee,_,_,.ret,ee,by decide,?_⟩
     refine qyl ?_
     obtain rfl:=q9 ai
     obtain rfl:=q9 o
     exact finD (.inr ee) (v:=.d (.tup [.nilsl,i_ z.2])) ee ee (q7i (.cons (.nil _) (.cons (.refl _) .nil)))
    refine qh<|qi<|v_ (.ref 10 3 0 0) ee<|v_ (di_ g) ee<|v_ (.ref 10 3 0 1) ee<|v_ (di_ l) ee<|mv_ ee ?_
    obtain ⟨ac,ca,u⟩:=q6 u
    refine q41 [(0,3),(1,8)] [(0,3),(1,3),(2,3),(3,0),(4,3),(5,3),(6,3),(7,3),(8,1),(9,3),(10,3),(11,2)] [.ref 3 4 0 0,di_ g,di_ l,.d (.sl 4 (z.1.map qd))] (.d (.tup [])) 2 [(3,.cel 4 [[.hs 11 6 0 ac.2.2.2.length,.d (.sl 4 (ac.1.map qd)),di_ ac.2.1,di_ ac.2.2.1]]),(11,.dat 6 (ac.2.2.2.map qf)),(0,.dat 1 [[.nilf]]),(1,.dat 1 [[.nilsl]]),(2,.dat 1 [[i_ 0]]),(4,.cel 1 [[.d (.sl 1 (h.map (eI .i64)))]]),(5,.dat 1 [[.sl 1 ([c].map qy)]]),(6,.loop [(2,.ref 0 1 0 0),(4,.ref 1 1 0 0),(5,.ref 2 1 0 0),(6,.ref 3 4 0 0),(14,.fn 112 [.ref 4 1 0 0,.ref 5 1 0 0])] [15] A879 B880 .busy none),(7,.cel 3 [[di_ g,di_ l,.hs 9 1 0 1]]),(9,.cel 1 [[.d (.sl 4 (s.map qd))]]),(10,.cel 3 [[di_ g,di_ l,.hs 9 1 0 1]])] 12 (qh9 b.2.2.2.2 b.2.1 b.2.2.1 b.2.2.2.1 g l z.1 ac ca)<|nl_<|qw<|qz ?_
    refine ⟨_,ee,?_⟩
    obtain rfl:=q9 u
    exact ⟨_,ee,wkA [(7,11)] [] []⟩
   intro y hb
   subst hb
   refine v_ (db_ false) ee<|q0<|qa6 ee<|qh<|qz<|qw<|qi<|mv_ ee<|v_ (.d (i_ (w64 (b.1 + 1)))) ee<|as_ ee<|nl_ ?_
   exact ⟨_,(Option.some.inj j).symm,wkA [(7,7)] [] []⟩
  refine qv ?_
  refine ⟨_,(Option.some.inj j).symm,fun hm=>?_⟩
  subst hm
  refine ⟨.inl ee,_,ee,_,_,.nor,ee,by decide,?_⟩
  refine qki<|qz ?_
  obtain rfl:=q9 ai
  exact ⟨_,ee,wkA [(0,1),(1,2),(2,3),(3,7)] [] []⟩
 intro k st hb hw
 subst hb
 refine qad hw ?_ (by simp)
 refine qa<|sr_<|v_ (.ref 2 4 0 0) ee<|v_ (.hs 3 6 0 k.2.2.2.length) ee<|v_ (di_ (k.2.2.2.length : Int)) ee<|v_ (.d (.bool (decide ((k.2.2.2.length : Int) > 400)))) ee<|q0 ?_
 refine qg ee o (fun _ o=>?_) (fun _ o=>?_)
 ·refine sr_<|q1f 0 (.dat 1 [[.nilsl]]) ee<|q1f 1 (.dat 1 [[i_ 4]]) ee<|nt_ ?_
  obtain rfl:=q9 o
  exact finD (.inr ee) (v:=.d (.tup [.nilsl,i_ 4])) ee ee (q7i (.cons (.nil _) (.cons (.refl _) .nil)))
 refine qh<|sr_<|v_ (.ref 2 4 0 0) ee<|v_ (.hs 3 6 0 k.2.2.2.length) ee<|q1f 0 (.cel 1 [[.hs 3 6 0 k.2.2.2.length]]) ee<|q1f 1 (.dat 1 [[i_ 0]]) ee<|nt_ ?_
 obtain rfl:=q9 o
 exact finD (.inr ee) (v:=.tup [.hs 3 6 0 k.2.2.2.length,di_ 0]) ee (qpv (qcv (qc1 ee ee) (qcv ee ee))) (.refl _)
theorem qg3 (b : List q8) (r : List q8 × Int) (a : qb1 b = some r) : Pure Tryz.prog tab 14 [.sl 6 (b.map qf)] (.tup [.sl 6 (r.1.map qf),i_ r.2]):=by
 unfold qb1 at a
 refine qn Tryz.func14 ee (by kernel_rfl) (by kernel_rfl) ee<|sr_<|as_ ee<|as_ ee<|q0<|qa<|sr_<|mv_ ee<|ln_ ee<|v_ (.d (.bool (decide ((b.length : Int) > 400)))) ee<|q0 ?_
 refine qg ee a (fun _ a=>?_) (fun _ a=>?_)
 ·refine sr_<|as_ ee<|as_ ee<|nt_ ?_
  obtain rfl:=q9 a
  exact finD (.inr ee) (v:=.d (.tup [.nilsl,i_ 4])) ee ee (q7i (.cons (.nil _) (.cons (.refl _) .nil)))
 refine qh<|qa<|sr_<|mv_ ee ?_
 obtain ⟨g,h,a⟩:=q6 a
 refine pc_ (qbq b (fun f=>q80 f) 51 [] (fun f r hr=>qpt f r hr) g h) ee<|q0 ?_
 refine qg ee a (fun _ a=>?_) (fun _ a=>?_)
 ·refine sr_<|as_ ee<|as_ ee<|nt_ ?_
  obtain rfl:=q9 a
  exact finD (.inr ee) (v:=.d (.tup [.nilsl,i_ 8])) ee ee (q7i (.cons (.nil _) (.cons (.refl _) .nil)))
 refine qh<|sr_<|v_ (.d (.agg [.nilf])) ee<|mv_ ee<|qu5 (es:=1) ([b].map qy) ee ee ee ee ee ?_
 obtain ⟨c,j,a⟩:=q6 a
 refine pc_ (qd4 b c j) ee<|v_ (.d (.sl 6 (c.1.map qf))) ee<|v_ (di_ c.2) ee<|as_ ee<|as_ ee<|nt_ ?_
 obtain rfl:=q9 a
 exact fR_ (.d (.tup [.sl 6 (c.1.map qf),i_ c.2])) ee
theorem qrx (a : qk) (c : Int) (r : Bool) (b : qij a c = some r) : Pure Tryz.prog tab 73 [.agg [i_ a.X,i_ a.Y,i_ a.Z],i_ c] (.bool r):=by
 unfold qij at b
 refine qn Tryz.func73 ee (by kernel_rfl) (by kernel_rfl) ee<|sr_<|q20 (.ref 0 3 0 0) (.dat 3 [[i_ a.X,i_ a.Y,i_ a.Z]]) ee<|as_ ee<|qs<|v_ (.ref 0 3 0 0) ee<|v_ (di_ a.X) ee<|mv_ ee<|v_ (.d (.bool (decide (a.X ≥ c)))) ee ?_
 obtain ⟨c1,f,b⟩:=q6 b
 refine qq 6 (fun A st=>∃ (l m n o p : V),st = A [(14,db_ c1),(13,p),(12,o),(11,n),(10,m),(9,l)]) ?_ ?_
 ·refine qu ee ee f (fun f=>?_) (fun f=>?_)
  ·refine v_ (.ref 0 3 0 1) ee<|v_ (di_ a.Y) ee<|mv_ ee<|v_ (.d (.bool (decide (a.Y ≥ c)))) ee<|v_ (.d (.bool (decide (a.Y ≥ c)))) ee<|q0 ?_
   obtain rfl:=q9 f
   exact ⟨_,_,_,_,_,ee⟩
  refine q7 ee<|q7 ee<|q7 ee<|q7 ee<|v_ (db_ false) ee<|q0 ?_
  obtain rfl:=q9 f
  exact ⟨_,_,_,_,_,ee⟩
 rintro _ ⟨l,m,n,o,p,rfl⟩
 obtain ⟨c8,g,b⟩:=q6 b
 refine qq 6 (fun A st=>∃ (q s t u v : V),st = A [(20,db_ c8),(19,v),(18,u),(17,t),(16,s),(15,q)]) ?_ ?_
 ·refine qu ee ee g (fun g=>?_) (fun g=>?_)
  ·refine v_ (.ref 0 3 0 2) ee<|v_ (di_ a.Z) ee<|mv_ ee<|v_ (.d (.bool (decide (a.Z ≥ c)))) ee<|v_ (.d (.bool (decide (a.Z ≥ c)))) ee<|q0 ?_
   obtain rfl:=q9 g
   exact ⟨_,_,_,_,_,ee⟩
  refine q7 ee<|q7 ee<|q7 ee<|q7 ee<|v_ (db_ false) ee<|q0 ?_
  obtain rfl:=q9 g
  exact ⟨_,_,_,_,_,ee⟩
 rintro _ ⟨q,s,t,u,v,rfl⟩
 obtain ⟨al,h,b⟩:=q6 b
 refine qq 5 (fun A st=>∃ (w x y z : V),st = A [(25,db_ al),(24,z),(23,y),(22,x),(21,w)]) ?_ ?_
 ·refine qu ee ee h (fun h=>?_) (fun h=>?_)
  ·refine v_ (.ref 0 3 0 0) ee<|v_ (di_ a.X) ee<|v_ (.d (.bool (decide (a.X≤1000000)))) ee<|v_ (.d (.bool (decide (a.X≤1000000)))) ee<|q0 ?_
   obtain rfl:=q9 h
   exact ⟨_,_,_,_,ee⟩
  refine q7 ee<|q7 ee<|q7 ee<|v_ (db_ false) ee<|q0 ?_
  obtain rfl:=q9 h
  exact ⟨_,_,_,_,ee⟩
 rintro _ ⟨w,x,y,z,rfl⟩
 obtain ⟨am,j,b⟩:=q6 b
 refine qq 5 (fun A st=>∃ (aa ab ac ad : V),st = A [(30,db_ am),(29,ad),(28,ac),(27,ab),(26,aa)]) ?_ ?_
 ·refine qu ee ee j (fun j=>?_) (fun j=>?_)
  ·refine v_ (.ref 0 3 0 1) ee<|v_ (di_ a.Y) ee<|v_ (.d (.bool (decide (a.Y≤1000000)))) ee<|v_ (.d (.bool (decide (a.Y≤1000000)))) ee<|q0 ?_
   obtain rfl:=q9 j
   exact ⟨_,_,_,_,ee⟩
  refine q7 ee<|q7 ee<|q7 ee<|v_ (db_ false) ee<|q0 ?_
  obtain rfl:=q9 j
  exact ⟨_,_,_,_,ee⟩
 rintro _ ⟨aa,ab,ac,ad,rfl⟩
 obtain ⟨ae,k,b⟩:=q6 b
 refine qq 5 (fun A st=>∃ (af ag ah ai : V),st = A [(35,db_ ae),(34,ai),(33,ah),(32,ag),(31,af)]) ?_ ?_
 ·refine qu ee ee k (fun k=>?_) (fun k=>?_)
  ·refine v_ (.ref 0 3 0 2) ee<|v_ (di_ a.Z) ee<|v_ (.d (.bool (decide (a.Z≤1000000)))) ee<|v_ (.d (.bool (decide (a.Z≤1000000)))) ee<|q0 ?_
   obtain rfl:=q9 k
   exact ⟨_,_,_,_,ee⟩
  refine q7 ee<|q7 ee<|q7 ee<|v_ (db_ false) ee<|q0 ?_
  obtain rfl:=q9 k
  exact ⟨_,_,_,_,ee⟩
 rintro _ ⟨af,ag,ah,ai,rfl⟩
 refine as_ ee<|nt_ ?_
 obtain rfl:=q9 b
 exact fR_ (db_ ae) ee
theorem qlf (a : q8) (r : Bool) (b : qdy a = some r) : Pure Tryz.prog tab 54 [.agg [i_ a.Lo.X,i_ a.Lo.Y,i_ a.Lo.Z,i_ a.Hi.X,i_ a.Hi.Y,i_ a.Hi.Z]] (.bool r):=by
 unfold qdy at b
 refine qn Tryz.func54 ee (by kernel_rfl) (by kernel_rfl) ee<|sr_<|q20 (.ref 0 6 0 0) (.dat 6 [[i_ a.Lo.X,i_ a.Lo.Y,i_ a.Lo.Z,i_ a.Hi.X,i_ a.Hi.Y,i_ a.Hi.Z]]) ee<|as_ ee<|qs<|v_ (.ref 0 6 0 0) ee<|v_ (.d (.agg [i_ a.Lo.X,i_ a.Lo.Y,i_ a.Lo.Z])) ee ?_
 obtain ⟨r1,h2,b⟩:=q6 b
 refine pc_ (qrx a.Lo (-1000000) r1 h2) ee ?_
 obtain ⟨c5,c,b⟩:=q6 b
 refine qq 5 (fun A st=>∃ (j k l m : V),st = A [(11,db_ c5),(10,m),(9,l),(8,k),(7,j)]) ?_ ?_
 ·refine qu ee ee c (fun c=>?_) (fun c=>?_)
  ·refine v_ (.ref 0 6 0 3) ee<|v_ (.d (.agg [i_ a.Hi.X,i_ a.Hi.Y,i_ a.Hi.Z])) ee ?_
   obtain ⟨n,ar,c⟩:=q6 c
   refine pc_ (qrx a.Hi (-1000000) n ar) ee<|v_ (db_ n) ee<|q0 ?_
   obtain rfl:=q9 c
   exact ⟨_,_,_,_,ee⟩
  refine q7 ee<|q7 ee<|q7 ee<|v_ (db_ false) ee<|q0 ?_
  obtain rfl:=q9 c
  exact ⟨_,_,_,_,ee⟩
 rintro _ ⟨j,k,l,m,rfl⟩
 refine as_ ee<|qs<|mv_ ee ?_
 obtain ⟨au,f,b⟩:=q6 b
 refine qq 9 (fun A st=>∃ (o p q s t u v w : V),st = A [(21,db_ au),(20,w),(19,v),(18,u),(17,t),(16,s),(15,q),(14,p),(13,o)]) ?_ ?_
 ·refine qu ee ee f (fun f=>?_) (fun f=>?_)
  ·refine v_ (.ref 0 6 0 0) ee<|v_ (.ref 0 6 0 0) ee<|v_ (di_ a.Lo.X) ee<|v_ (.ref 0 6 0 3) ee<|v_ (.ref 0 6 0 3) ee<|v_ (di_ a.Hi.X) ee<|v_ (.d (.bool (decide (a.Lo.X < a.Hi.X)))) ee<|v_ (.d (.bool (decide (a.Lo.X < a.Hi.X)))) ee<|q0 ?_
   obtain rfl:=q9 f
   exact ⟨_,_,_,_,_,_,_,_,ee⟩
  refine q7 ee<|q7 ee<|q7 ee<|q7 ee<|q7 ee<|q7 ee<|q7 ee<|v_ (db_ false) ee<|q0 ?_
  obtain rfl:=q9 f
  exact ⟨_,_,_,_,_,_,_,_,ee⟩
 rintro _ ⟨o,p,q,s,t,u,v,w,rfl⟩
 obtain ⟨av,g,b⟩:=q6 b
 refine qq 9 (fun A st=>∃ (x y z aa ab ac ad ae : V),st = A [(30,db_ av),(29,ae),(28,ad),(27,ac),(26,ab),(25,aa),(24,z),(23,y),(22,x)]) ?_ ?_
 ·refine qu ee ee g (fun g=>?_) (fun g=>?_)
  ·refine v_ (.ref 0 6 0 0) ee<|v_ (.ref 0 6 0 1) ee<|v_ (di_ a.Lo.Y) ee<|v_ (.ref 0 6 0 3) ee<|v_ (.ref 0 6 0 4) ee<|v_ (di_ a.Hi.Y) ee<|v_ (.d (.bool (decide (a.Lo.Y < a.Hi.Y)))) ee<|v_ (.d (.bool (decide (a.Lo.Y < a.Hi.Y)))) ee<|q0 ?_
   obtain rfl:=q9 g
   exact ⟨_,_,_,_,_,_,_,_,ee⟩
  refine q7 ee<|q7 ee<|q7 ee<|q7 ee<|q7 ee<|q7 ee<|q7 ee<|v_ (db_ false) ee<|q0 ?_
  obtain rfl:=q9 g
  exact ⟨_,_,_,_,_,_,_,_,ee⟩
 rintro _ ⟨x,y,z,aa,ab,ac,ad,ae,rfl⟩
 obtain ⟨af,h,b⟩:=q6 b
 refine qq 9 (fun A st=>∃ (ag ah ai aj ak al am an : V),st = A [(39,db_ af),(38,an),(37,am),(36,al),(35,ak),(34,aj),(33,ai),(32,ah),(31,ag)]) ?_ ?_
 ·refine qu ee ee h (fun h=>?_) (fun h=>?_)
  ·refine v_ (.ref 0 6 0 0) ee<|v_ (.ref 0 6 0 2) ee<|v_ (di_ a.Lo.Z) ee<|v_ (.ref 0 6 0 3) ee<|v_ (.ref 0 6 0 5) ee<|v_ (di_ a.Hi.Z) ee<|v_ (.d (.bool (decide (a.Lo.Z < a.Hi.Z)))) ee<|v_ (.d (.bool (decide (a.Lo.Z < a.Hi.Z)))) ee<|q0 ?_
   obtain rfl:=q9 h
   exact ⟨_,_,_,_,_,_,_,_,ee⟩
  refine q7 ee<|q7 ee<|q7 ee<|q7 ee<|q7 ee<|q7 ee<|q7 ee<|v_ (db_ false) ee<|q0 ?_
  obtain rfl:=q9 h
  exact ⟨_,_,_,_,_,_,_,_,ee⟩
 rintro _ ⟨ag,ah,ai,aj,ak,al,am,an,rfl⟩
 refine as_ ee<|nt_ ?_
 obtain rfl:=q9 b
 exact fR_ (db_ af) ee
theorem qg0 (c : List Int) (r : List Int) (p : q6p c = some r) : Pure Tryz.prog tab 115 [.sl 1 (c.map (eI .i64))] (.sl 1 (r.map (eI .i64))):=by
 unfold q6p at p
 refine qn Tryz.func115 ee (by kernel_rfl) (by kernel_rfl) ee<|sr_<|as_ ee<|qs<|as_ ee<|q0<|qa<|sr_<|as_ ee<|q0 ?_
 obtain ⟨aa,bg,p⟩:=q6 p
 refine qp (fun l=>l = aa) (fun (l : List Int)=>⟨[(3,.hs 0 1 0 l.length)],[(0,.dat 1 (l.map (eI .i64)))],1⟩) (by simp) ?_ ?_
 ·refine qt (q89 c) (fun (b : Int × List Int)=>⟨[(0,.d (.sl 1 (c.map (eI .i64)))),(3,.hs 0 1 0 b.2.length),(4,di_ b.1)],[(0,.dat 1 (b.2.map (eI .i64)))],1⟩) (0,[]) aa bg (wkA [] [] [0]) ?_
  intro b bp h
  unfold q89 at h
  refine qa<|sr_<|mv_ ee<|mv_ ee<|ln_ ee<|v_ (.d (.bool (decide (b.1 < (c.length : Int))))) ee<|q0 ?_
  refine qg ee h (fun _ h=>?_) (fun _ h=>?_)
  ·refine qh<|qa ?_
   obtain ⟨bh,a,h⟩:=q6 h
   refine qp (fun n=>n = bh) (fun (n : List Int)=>⟨[(0,.d (.sl 1 (c.map (eI .i64)))),(3,.hs 0 1 0 n.length),(4,di_ b.1)],[(0,.dat 1 (n.map (eI .i64)))],1⟩) (by simp) ?_ ?_
   ·refine sr_<|mv_ ee<|v_ (di_ (b.2.length : Int)) ee<|as_ ee<|q0<|qa ?_
    obtain ⟨ab,bi,a⟩:=q6 a
    refine qp (fun k=>k = ab) (fun (k : Int)=>⟨[(0,.d (.sl 1 (c.map (eI .i64)))),(3,.hs 0 1 0 b.2.length),(4,di_ b.1),(5,di_ k)],[(0,.dat 1 (b.2.map (eI .i64)))],1⟩) (by simp) ?_ ?_
    ·refine qt (q8a b c) (fun (o : Int)=>⟨[(0,.d (.sl 1 (c.map (eI .i64)))),(3,.hs 0 1 0 b.2.length),(4,di_ b.1),(5,di_ o)],[(0,.dat 1 (b.2.map (eI .i64)))],1⟩) (b.2.length : Int) ab bi (wkA [(0,0)] [] []) ?_
     intro o bq j
     unfold q8a at j
     refine qa<|qa<|qm [(some [],[]),(some [],[]),(some [],[]),(some [],[]),(some [],[]),(some [],[]),(some [0],[]),(some [],[]),(some [],[]),(some [],[]),(some [],[]),(some [],[]),(some [],[]),(some [],[])] (by kernel_rfl)<|mv_ ee<|v_ (.d (.bool (decide (o > 0)))) ee ?_
     obtain ⟨bj,f,j⟩:=q6 j
     refine qq 12 (fun A st=>∃ (ac ad ae af ag ah ai aj ak al am : V),st = A [(27,db_ bj),(26,am),(25,al),(24,ak),(23,aj),(22,ai),(21,ah),(20,ag),(19,af),(18,ae),(17,ad),(16,ac)]) ?_ ?_
     ·refine qu ee ee f (fun f=>?_) (fun f=>?_)
      ·refine mv_ ee<|mv_ ee<|v_ (.d (i_ (w64 (o - 1)))) ee ?_
       obtain ⟨s,an,f⟩:=q6 f
       refine ih_ an ee ee<|lh_ (di_ s) an ee<|mv_ ee<|mv_ ee ?_
       obtain ⟨t,bk,f⟩:=q6 f
       refine ix_ (enc:=(eI .i64)) bk ee<|v_ (di_ t) ee<|v_ (.d (.bool (decide (s > t)))) ee<|v_ (.d (.bool (decide (s > t)))) ee<|q0 ?_
       obtain rfl:=q9 f
       exact ⟨_,_,_,_,_,_,_,_,_,_,_,ee⟩
      refine q7 ee<|q7 ee<|q7 ee<|q7 ee<|q7 ee<|q7 ee<|q7 ee<|q7 ee<|q7 ee<|q7 ee<|v_ (db_ false) ee<|q0 ?_
      obtain rfl:=q9 f
      exact ⟨_,_,_,_,_,_,_,_,_,_,_,ee⟩
     rintro _ ⟨ac,ad,ae,af,ag,ah,ai,aj,ak,al,am,rfl⟩
     refine q0 ?_
     refine qg ee j (fun _ j=>?_) (fun _ j=>?_)
     ·refine qh<|ql<|qi<|mv_ ee<|v_ (.d (i_ (w64 (o - 1)))) ee<|as_ ee<|nl_<|qw<|qz ?_
      exact ⟨_,(Option.some.inj j).symm,wkA [(0,0)] [] []⟩
     refine qv ?_
     refine ⟨_,(Option.some.inj j).symm,fun hm=>?_⟩
     subst hm
     exact ⟨_,ee,wkA [(0,0)] [] []⟩
    intro k hb
    subst hb
    refine qa<|qa<|qm [(some [],[]),(some [],[]),(some [],[]),(some [],[]),(some [],[]),(some [],[]),(some [0],[]),(some [],[]),(some [],[]),(some [],[]),(some [],[]),(some [],[]),(some [],[]),(some [],[])] (by kernel_rfl)<|mv_ ee<|v_ (.d (.bool (decide (k > 0)))) ee ?_
    obtain ⟨bl,g,a⟩:=q6 a
    refine qq 12 (fun A st=>∃ (ao ap aq ar au av aw ax ay az ba : V),st = A [(43,db_ bl),(42,ba),(41,az),(40,ay),(39,ax),(38,aw),(37,av),(36,au),(35,ar),(34,aq),(33,ap),(32,ao)]) ?_ ?_
    ·refine qu ee ee g (fun g=>?_) (fun g=>?_)
     ·refine mv_ ee<|mv_ ee<|v_ (.d (i_ (w64 (k - 1)))) ee ?_
      obtain ⟨u,bb,g⟩:=q6 g
      refine ih_ bb ee ee<|lh_ (di_ u) bb ee<|mv_ ee<|mv_ ee ?_
      obtain ⟨x,bm,g⟩:=q6 g
      refine ix_ (enc:=(eI .i64)) bm ee<|v_ (di_ x) ee<|v_ (db_ (u == x)) ee<|v_ (db_ (u == x)) ee<|q0 ?_
      obtain rfl:=q9 g
      exact ⟨_,_,_,_,_,_,_,_,_,_,_,ee⟩
     refine q7 ee<|q7 ee<|q7 ee<|q7 ee<|q7 ee<|q7 ee<|q7 ee<|q7 ee<|q7 ee<|q7 ee<|v_ (db_ false) ee<|q0 ?_
     obtain rfl:=q9 g
     exact ⟨_,_,_,_,_,_,_,_,_,_,_,ee⟩
    rintro _ ⟨ao,ap,aq,ar,au,av,aw,ax,ay,az,ba,rfl⟩
    refine q0 ?_
    refine qg ee a (fun _ a=>?_) (fun _ a=>?_)
    ·refine qv ?_
     obtain rfl:=q9 a
     exact ⟨_,ee,wkA [(0,0)] [] []⟩
    refine qh<|sr_<|mv_ ee<|q20 (.hs 1 1 0 [0].length) (.dat 1 ([0].map (eI .i64))) ee ?_
    obtain ⟨q,bn,a⟩:=q6 a
    refine q7c (xs:=b.2) (ys:=[0]) (enc:=(eI .i64)) (.hs 1 1 0 [0].length) bn ee ee ee ee ee ee ee (q4w ee ee) ee ee ee ee<|as_ ee<|q0<|qa<|qm [(some [2],[2]),(some [],[]),(some [],[]),(some [],[]),(some [],[]),(some [],[]),(some [],[]),(some [],[])] (by kernel_rfl)<|mv_ ee<|mv_ ee<|v_ (.d (i_ (w64 (k + 1)))) ee ?_
    obtain ⟨bc,y,a⟩:=q6 a
    refine ql7 y ee ee ee ee ee (qgg ee) (fun _=>rfl)<|mv_ ee<|mv_ ee ?_
    obtain ⟨m,bd,a⟩:=q6 a
    refine ql7 bd ee ee ee ee ee (qgg ee) (fun _=>rfl)<|q143 (w:=bc) (xs:=q) (ys:=(q.drop m.1).take m.2) (enc:=(eI .i64)) (.hs 2 1 m.1 m.2) (qfv y) ee ee ee ee ee ee (qz3 (qfv bd) ee) ee ee ee ee ?_
    have be:=@qth _ q ((q.drop m.1).take m.2) bc (qfv y)
    refine q0<|qi<|mv_ ee<|mv_ ee<|mv_ ee<|mv_ ee ?_
    obtain ⟨z,bo,a⟩:=q6 a
    refine ix_ (enc:=(eI .i64)) bo ee<|v_ (di_ z) ee ?_
    obtain ⟨br,bf,a⟩:=q6 a
    refine ih_ bf (by simp [be]) ee<|q18 (ds:=[i_ z]) z bf ee ee ee ee ee ee ee ee (leb ee) ee<|nl_ ?_
    obtain rfl:=q9 a
    exact ⟨_,ee,wkE [(0,2)] [] [] ee ⟨⟨_,ee,.d (.refl _)⟩,⟨_,ee,q16 (by simp [be]) ee (by decide) (ltd ee)⟩,⟨_,ee,.d (.refl _)⟩,trivial⟩ ⟨⟨ltd ee,.inr ⟨by decide,_,ee,.dat _ _⟩⟩,trivial⟩⟩
   intro n hb
   subst hb
   refine qi<|mv_ ee<|v_ (.d (i_ (w64 (b.1 + 1)))) ee<|as_ ee<|nl_ ?_
   exact ⟨_,(Option.some.inj h).symm,wkA [(0,0)] [] []⟩
  refine qv ?_
  refine ⟨_,(Option.some.inj h).symm,fun hm=>?_⟩
  subst hm
  exact ⟨_,ee,wkA [(0,0)] [] []⟩
 intro l hb
 subst hb
 refine sr_<|mv_ ee<|as_ ee<|nt_ ?_
 obtain rfl:=q9 p
 exact finD (.inr ee) (v:=.hs 0 1 0 l.length) ee (qc1 ee ee) (.refl _)
theorem qw5 (p : List q8) (k : List q8) (r : List Int) (j : qh0 p k = some r) : Pure Tryz.prog tab 85 [.sl 6 (p.map qf),.sl 6 (k.map qf)] (.sl 1 (r.map (eI .i64))):=by
 unfold qh0 at j
 refine qn Tryz.func85 ee (by kernel_rfl) (by kernel_rfl) ee<|sr_<|as_ ee<|qs<|as_ ee<|q0<|qa<|sr_<|as_ ee<|q0 ?_
 obtain ⟨q,u,j⟩:=q6 j
 refine qp (fun o=>o = q) (fun (o : List Int)=>⟨[(1,.d (.sl 6 (k.map qf))),(5,.hs 0 1 0 o.length)],[(0,.dat 1 (o.map (eI .i64)))],1⟩) (by simp) ?_ ?_
 ·refine qt (qa4 p) (fun (l : Int × List Int)=>⟨[(0,.d (.sl 6 (p.map qf))),(1,.d (.sl 6 (k.map qf))),(5,.hs 0 1 0 l.2.length),(6,di_ l.1)],[(0,.dat 1 (l.2.map (eI .i64)))],1⟩) (0,[]) q u (wkA [] [] [0]) ?_
  intro l ad g
  unfold qa4 at g
  refine qa<|sr_<|mv_ ee<|mv_ ee<|ln_ ee<|v_ (.d (.bool (decide (l.1 < (p.length : Int))))) ee<|q0 ?_
  refine qg ee g (fun _ g=>?_) (fun _ g=>?_)
  ·refine qh<|qa<|ql<|qm [(some [],[]),(some [0,1],[0,2]),(some [],[1]),(some [],[]),(some [],[]),(some [],[]),(some [],[]),(some [],[]),(some [],[]),(some [],[]),(some [],[]),(some [],[]),(some [],[]),(some [],[]),(some [],[]),(some [],[])] (by kernel_rfl)<|mv_ ee<|mv_ ee<|mv_ ee ?_
   obtain ⟨a,v,g⟩:=q6 g
   refine ix_ (enc:=qf) v ee<|v_ (.dref [i_ a.Lo.X,i_ a.Lo.Y,i_ a.Lo.Z,i_ a.Hi.X,i_ a.Hi.Y,i_ a.Hi.Z] 0) ee<|v_ (.dref [i_ a.Lo.X,i_ a.Lo.Y,i_ a.Lo.Z,i_ a.Hi.X,i_ a.Hi.Y,i_ a.Hi.Z] 2) ee<|v_ (di_ a.Lo.Z) ee<|mv_ ee<|mv_ ee ?_
   obtain ⟨b,w,g⟩:=q6 g
   refine ix_ (enc:=qf) w ee<|v_ (.dref [i_ b.Lo.X,i_ b.Lo.Y,i_ b.Lo.Z,i_ b.Hi.X,i_ b.Hi.Y,i_ b.Hi.Z] 3) ee<|v_ (.dref [i_ b.Lo.X,i_ b.Lo.Y,i_ b.Lo.Z,i_ b.Hi.X,i_ b.Hi.Y,i_ b.Hi.Z] 5) ee<|v_ (di_ b.Hi.Z) ee<|q20 (.hs 1 1 0 [a.Lo.Z,b.Hi.Z].length) (.dat 1 ([a.Lo.Z,b.Hi.Z].map (eI .i64))) ee ?_
   obtain ⟨ae,x,g⟩:=q6 g
   refine q7c (xs:=l.2) (ys:=[a.Lo.Z,b.Hi.Z]) (enc:=(eI .i64)) (.hs 1 1 0 [a.Lo.Z,b.Hi.Z].length) x ee ee ee ee ee ee ee (q4w ee ee) ee ee ee ee<|as_ ee<|nl_<|qw<|qi<|mv_ ee<|v_ (.d (i_ (w64 (l.1 + 1)))) ee<|as_ ee<|nl_ ?_
   exact ⟨_,(Option.some.inj g).symm,wkA [(0,2)] [] []⟩
  refine qv ?_
  refine ⟨_,(Option.some.inj g).symm,fun hm=>?_⟩
  subst hm
  exact ⟨_,ee,wkA [(0,0)] [] []⟩
 intro o hb
 subst hb
 refine qa<|sr_<|as_ ee<|q0 ?_
 obtain ⟨s,y,j⟩:=q6 j
 refine qp (fun m=>m = s) (fun (m : List Int)=>⟨[(5,.hs 0 1 0 m.length)],[(0,.dat 1 (m.map (eI .i64)))],1⟩) (by simp) ?_ ?_
 ·refine qt (qa5 k) (fun (n : Int × List Int)=>⟨[(1,.d (.sl 6 (k.map qf))),(5,.hs 0 1 0 n.2.length),(7,di_ n.1)],[(0,.dat 1 (n.2.map (eI .i64)))],1⟩) (0,o) s y (wkA [(0,0)] [] []) ?_
  intro n af h
  unfold qa5 at h
  refine qa<|sr_<|mv_ ee<|mv_ ee<|ln_ ee<|v_ (.d (.bool (decide (n.1 < (k.length : Int))))) ee<|q0 ?_
  refine qg ee h (fun _ h=>?_) (fun _ h=>?_)
  ·refine qh<|qa<|ql<|qm [(some [],[]),(some [0,1],[0,2]),(some [],[1]),(some [],[]),(some [],[]),(some [],[]),(some [],[]),(some [],[]),(some [],[]),(some [],[]),(some [],[]),(some [],[]),(some [],[]),(some [],[]),(some [],[]),(some [],[])] (by kernel_rfl)<|mv_ ee<|mv_ ee<|mv_ ee ?_
   obtain ⟨c,z,h⟩:=q6 h
   refine ix_ (enc:=qf) z ee<|v_ (.dref [i_ c.Lo.X,i_ c.Lo.Y,i_ c.Lo.Z,i_ c.Hi.X,i_ c.Hi.Y,i_ c.Hi.Z] 0) ee<|v_ (.dref [i_ c.Lo.X,i_ c.Lo.Y,i_ c.Lo.Z,i_ c.Hi.X,i_ c.Hi.Y,i_ c.Hi.Z] 2) ee<|v_ (di_ c.Lo.Z) ee<|mv_ ee<|mv_ ee ?_
   obtain ⟨f,aa,h⟩:=q6 h
   refine ix_ (enc:=qf) aa ee<|v_ (.dref [i_ f.Lo.X,i_ f.Lo.Y,i_ f.Lo.Z,i_ f.Hi.X,i_ f.Hi.Y,i_ f.Hi.Z] 3) ee<|v_ (.dref [i_ f.Lo.X,i_ f.Lo.Y,i_ f.Lo.Z,i_ f.Hi.X,i_ f.Hi.Y,i_ f.Hi.Z] 5) ee<|v_ (di_ f.Hi.Z) ee<|q20 (.hs 1 1 0 [c.Lo.Z,f.Hi.Z].length) (.dat 1 ([c.Lo.Z,f.Hi.Z].map (eI .i64))) ee ?_
   obtain ⟨ag,ab,h⟩:=q6 h
   refine q7c (xs:=n.2) (ys:=[c.Lo.Z,f.Hi.Z]) (enc:=(eI .i64)) (.hs 1 1 0 [c.Lo.Z,f.Hi.Z].length) ab ee ee ee ee ee ee ee (q4w ee ee) ee ee ee ee<|as_ ee<|nl_<|qw<|qi<|mv_ ee<|v_ (.d (i_ (w64 (n.1 + 1)))) ee<|as_ ee<|nl_ ?_
   exact ⟨_,(Option.some.inj h).symm,wkA [(0,2)] [] []⟩
  refine qv ?_
  refine ⟨_,(Option.some.inj h).symm,fun hm=>?_⟩
  subst hm
  exact ⟨_,ee,wkA [(0,0)] [] []⟩
 intro m hb
 subst hb
 refine qa ?_
 refine qad (st':=⟨[(5,.d (.sl 1 (m.map (eI .i64))))],[],0⟩) (wkA [] [0] []) ?_ (by simp)
 refine qi<|mv_ ee ?_
 obtain ⟨t,ac,j⟩:=q6 j
 refine pc_ (qg0 m t ac) ee<|as_ ee<|nt_ ?_
 obtain rfl:=q9 j
 exact fR_ (.d (.sl 1 (t.map (eI .i64)))) ee
theorem qhp (o : List q8) (k : Int) (r : List qb) (s : qb9 o k = some r) : Pure Tryz.prog tab 68 [.sl 6 (o.map qf),i_ k] (.sl 4 (r.map qd)):=by
 unfold qb9 at s
 refine qn Tryz.func68 ee (by kernel_rfl) (by kernel_rfl) ee<|sr_<|as_ ee<|qs<|as_ ee<|q0<|qa<|sr_<|as_ ee<|q0 ?_
 obtain ⟨t,ae,s⟩:=q6 s
 refine qp (fun p=>p = t) (fun (p : List qb)=>⟨[(5,.hs 0 4 0 p.length)],[(0,.dat 4 (p.map qd))],1⟩) (by simp) ?_ ?_
 ·refine qt (qdw o k) (fun (l : Int × List qb)=>⟨[(0,.d (.sl 6 (o.map qf))),(1,di_ k),(5,.hs 0 4 0 l.2.length),(6,di_ l.1)],[(0,.dat 4 (l.2.map qd))],1⟩) (0,[]) t ae (wkA [] [] [0]) ?_
  intro l ao m
  unfold qdw at m
  refine qa<|sr_<|mv_ ee<|mv_ ee<|ln_ ee<|v_ (.d (.bool (decide (l.1 < (o.length : Int))))) ee<|q0 ?_
  refine qg ee m (fun _ m=>?_) (fun _ m=>?_)
  ·refine qh<|qa ?_
   obtain ⟨af,a,m⟩:=q6 m
   refine qp (fun q=>q = af) (fun (q : List qb)=>⟨[(0,.d (.sl 6 (o.map qf))),(1,di_ k),(5,.hs 0 4 0 q.length),(6,di_ l.1)],[(0,.dat 4 (q.map qd))],1⟩) (by simp) ?_ ?_
   ·refine sr_<|mv_ ee<|mv_ ee ?_
    obtain ⟨j,ag,a⟩:=q6 a
    refine ix_ (enc:=qf) ag ee<|v_ (.dref [i_ j.Lo.X,i_ j.Lo.Y,i_ j.Lo.Z,i_ j.Hi.X,i_ j.Hi.Y,i_ j.Hi.Z] 0) ee<|v_ (.dref [i_ j.Lo.X,i_ j.Lo.Y,i_ j.Lo.Z,i_ j.Hi.X,i_ j.Hi.Y,i_ j.Hi.Z] 2) ee<|v_ (di_ j.Lo.Z) ee<|mv_ ee<|v_ (.d (.bool (decide (j.Lo.Z≤k)))) ee ?_
    obtain ⟨ah,n,a⟩:=q6 a
    refine qq 10 (fun A st=>∃ (u w x y z aa ab ac ad : V),st = A [(30,db_ ah),(29,ad),(28,ac),(27,ab),(26,aa),(25,z),(24,y),(23,x),(22,w),(21,u)]) ?_ ?_
    ·refine qu ee ee n (fun n=>?_) (fun n=>?_)
     ·refine mv_ ee<|mv_ ee<|mv_ ee ?_
      obtain ⟨h,ai,n⟩:=q6 n
      refine ix_ (enc:=qf) ai ee<|v_ (.dref [i_ h.Lo.X,i_ h.Lo.Y,i_ h.Lo.Z,i_ h.Hi.X,i_ h.Hi.Y,i_ h.Hi.Z] 3) ee<|v_ (.dref [i_ h.Lo.X,i_ h.Lo.Y,i_ h.Lo.Z,i_ h.Hi.X,i_ h.Hi.Y,i_ h.Hi.Z] 5) ee<|v_ (di_ h.Hi.Z) ee<|v_ (.d (.bool (decide (k < h.Hi.Z)))) ee<|v_ (.d (.bool (decide (k < h.Hi.Z)))) ee<|q0 ?_
      obtain rfl:=q9 n
      exact ⟨_,_,_,_,_,_,_,_,_,ee⟩
     refine q7 ee<|q7 ee<|q7 ee<|q7 ee<|q7 ee<|q7 ee<|q7 ee<|q7 ee<|v_ (db_ false) ee<|q0 ?_
     obtain rfl:=q9 n
     exact ⟨_,_,_,_,_,_,_,_,_,ee⟩
    rintro _ ⟨u,w,x,y,z,aa,ab,ac,ad,rfl⟩
    refine q0 ?_
    refine qg ee a (fun _ a=>?_) (fun _ a=>?_)
    ·refine qm [(some [],[]),(some [0,1],[0,2]),(some [],[1]),(some [],[]),(some [],[]),(some [],[]),(some [],[]),(some [],[]),(some [],[]),(some [],[]),(some [],[]),(some [],[]),(some [],[]),(some [],[]),(some [],[]),(some [],[]),(some [],[]),(some [],[]),(some [],[]),(some [],[]),(some [],[]),(some [],[]),(some [],[]),(some [],[]),(some [],[]),(some [],[]),(some [],[]),(some [],[]),(some [],[])] (by kernel_rfl)<|mv_ ee<|mv_ ee<|mv_ ee ?_
     obtain ⟨b,aj,a⟩:=q6 a
     refine ix_ (enc:=qf) aj ee<|v_ (.dref [i_ b.Lo.X,i_ b.Lo.Y,i_ b.Lo.Z,i_ b.Hi.X,i_ b.Hi.Y,i_ b.Hi.Z] 0) ee<|v_ (.dref [i_ b.Lo.X,i_ b.Lo.Y,i_ b.Lo.Z,i_ b.Hi.X,i_ b.Hi.Y,i_ b.Hi.Z] 0) ee<|v_ (di_ b.Lo.X) ee<|mv_ ee<|mv_ ee ?_
     obtain ⟨c,ak,a⟩:=q6 a
     refine ix_ (enc:=qf) ak ee<|v_ (.dref [i_ c.Lo.X,i_ c.Lo.Y,i_ c.Lo.Z,i_ c.Hi.X,i_ c.Hi.Y,i_ c.Hi.Z] 0) ee<|v_ (.dref [i_ c.Lo.X,i_ c.Lo.Y,i_ c.Lo.Z,i_ c.Hi.X,i_ c.Hi.Y,i_ c.Hi.Z] 1) ee<|v_ (di_ c.Lo.Y) ee<|mv_ ee<|mv_ ee ?_
     obtain ⟨f,al,a⟩:=q6 a
     refine ix_ (enc:=qf) al ee<|v_ (.dref [i_ f.Lo.X,i_ f.Lo.Y,i_ f.Lo.Z,i_ f.Hi.X,i_ f.Hi.Y,i_ f.Hi.Z] 3) ee<|v_ (.dref [i_ f.Lo.X,i_ f.Lo.Y,i_ f.Lo.Z,i_ f.Hi.X,i_ f.Hi.Y,i_ f.Hi.Z] 3) ee<|v_ (di_ f.Hi.X) ee<|mv_ ee<|mv_ ee ?_
     obtain ⟨g,am,a⟩:=q6 a
     refine ix_ (enc:=qf) am ee<|v_ (.dref [i_ g.Lo.X,i_ g.Lo.Y,i_ g.Lo.Z,i_ g.Hi.X,i_ g.Hi.Y,i_ g.Hi.Z] 3) ee<|v_ (.dref [i_ g.Lo.X,i_ g.Lo.Y,i_ g.Lo.Z,i_ g.Hi.X,i_ g.Hi.Y,i_ g.Hi.Z] 4) ee<|v_ (di_ g.Hi.Y) ee<|v_ (.d (.agg [i_ b.Lo.X,i_ c.Lo.Y,i_ f.Hi.X,i_ g.Hi.Y])) ee<|q20 (.hs 1 4 0 [({X0:=b.Lo.X,Y0:=c.Lo.Y,X1:=f.Hi.X,Y1:=g.Hi.Y} : qb)].length) (.dat 4 ([({X0:=b.Lo.X,Y0:=c.Lo.Y,X1:=f.Hi.X,Y1:=g.Hi.Y} : qb)].map qd)) ee ?_
     obtain ⟨ap,an,a⟩:=q6 a
     refine q7c (xs:=l.2) (ys:=[({X0:=b.Lo.X,Y0:=c.Lo.Y,X1:=f.Hi.X,Y1:=g.Hi.Y} : qb)]) (enc:=qd) (.hs 1 4 0 [({X0:=b.Lo.X,Y0:=c.Lo.Y,X1:=f.Hi.X,Y1:=g.Hi.Y} : qb)].length) an ee ee ee ee ee ee ee (q4w ee ee) ee ee ee ee<|as_ ee<|nl_ ?_
     obtain rfl:=q9 a
     exact ⟨_,ee,wkA [(0,2)] [] []⟩
    refine qh<|qz ?_
    obtain rfl:=q9 a
    exact ⟨_,ee,wkA [(0,0)] [] []⟩
   intro q hb
   subst hb
   refine qi<|mv_ ee<|v_ (.d (i_ (w64 (l.1 + 1)))) ee<|as_ ee<|nl_ ?_
   exact ⟨_,(Option.some.inj m).symm,wkA [(0,0)] [] []⟩
  refine qv ?_
  refine ⟨_,(Option.some.inj m).symm,fun hm=>?_⟩
  subst hm
  exact ⟨_,ee,wkA [(0,0)] [] []⟩
 intro p hb
 subst hb
 refine sr_<|mv_ ee<|as_ ee<|nt_ ?_
 obtain rfl:=q9 s
 exact finD (.inr ee) (v:=.hs 0 4 0 p.length) ee (qc1 ee ee) (.refl _)
theorem qzy (p : List qb) (k : List qb) (r : List Int) (j : qla p k = some r) : Pure Tryz.prog tab 91 [.sl 4 (p.map qd),.sl 4 (k.map qd)] (.sl 1 (r.map (eI .i64))):=by
 unfold qla at j
 refine qn Tryz.func91 ee (by kernel_rfl) (by kernel_rfl) ee<|sr_<|as_ ee<|qs<|as_ ee<|q0<|qa<|sr_<|as_ ee<|q0 ?_
 obtain ⟨q,u,j⟩:=q6 j
 refine qp (fun o=>o = q) (fun (o : List Int)=>⟨[(1,.d (.sl 4 (k.map qd))),(5,.hs 0 1 0 o.length)],[(0,.dat 1 (o.map (eI .i64)))],1⟩) (by simp) ?_ ?_
 ·refine qt (qcg p) (fun (l : Int × List Int)=>⟨[(0,.d (.sl 4 (p.map qd))),(1,.d (.sl 4 (k.map qd))),(5,.hs 0 1 0 l.2.length),(6,di_ l.1)],[(0,.dat 1 (l.2.map (eI .i64)))],1⟩) (0,[]) q u (wkA [] [] [0]) ?_
  intro l ad a
  unfold qcg at a
  refine qa<|sr_<|mv_ ee<|mv_ ee<|ln_ ee<|v_ (.d (.bool (decide (l.1 < (p.length : Int))))) ee<|q0 ?_
  refine qg ee a (fun _ a=>?_) (fun _ a=>?_)
  ·refine qh<|qa<|ql<|qm [(some [],[]),(some [0,1],[0,2]),(some [],[1]),(some [],[]),(some [],[]),(some [],[]),(some [],[]),(some [],[]),(some [],[]),(some [],[]),(some [],[]),(some [],[]),(some [],[]),(some [],[])] (by kernel_rfl)<|mv_ ee<|mv_ ee<|mv_ ee ?_
   obtain ⟨c,v,a⟩:=q6 a
   refine ix_ (enc:=qd) v ee<|v_ (.dref [i_ c.X0,i_ c.Y0,i_ c.X1,i_ c.Y1] 0) ee<|v_ (di_ c.X0) ee<|mv_ ee<|mv_ ee ?_
   obtain ⟨f,w,a⟩:=q6 a
   refine ix_ (enc:=qd) w ee<|v_ (.dref [i_ f.X0,i_ f.Y0,i_ f.X1,i_ f.Y1] 2) ee<|v_ (di_ f.X1) ee<|q20 (.hs 1 1 0 [c.X0,f.X1].length) (.dat 1 ([c.X0,f.X1].map (eI .i64))) ee ?_
   obtain ⟨ae,x,a⟩:=q6 a
   refine q7c (xs:=l.2) (ys:=[c.X0,f.X1]) (enc:=(eI .i64)) (.hs 1 1 0 [c.X0,f.X1].length) x ee ee ee ee ee ee ee (q4w ee ee) ee ee ee ee<|as_ ee<|nl_<|qw<|qi<|mv_ ee<|v_ (.d (i_ (w64 (l.1 + 1)))) ee<|as_ ee<|nl_ ?_
   exact ⟨_,(Option.some.inj a).symm,wkA [(0,2)] [] []⟩
  refine qv ?_
  refine ⟨_,(Option.some.inj a).symm,fun hm=>?_⟩
  subst hm
  exact ⟨_,ee,wkA [(0,0)] [] []⟩
 intro o hb
 subst hb
 refine qa<|sr_<|as_ ee<|q0 ?_
 obtain ⟨s,y,j⟩:=q6 j
 refine qp (fun m=>m = s) (fun (m : List Int)=>⟨[(5,.hs 0 1 0 m.length)],[(0,.dat 1 (m.map (eI .i64)))],1⟩) (by simp) ?_ ?_
 ·refine qt (qch k) (fun (n : Int × List Int)=>⟨[(1,.d (.sl 4 (k.map qd))),(5,.hs 0 1 0 n.2.length),(7,di_ n.1)],[(0,.dat 1 (n.2.map (eI .i64)))],1⟩) (0,o) s y (wkA [(0,0)] [] []) ?_
  intro n af b
  unfold qch at b
  refine qa<|sr_<|mv_ ee<|mv_ ee<|ln_ ee<|v_ (.d (.bool (decide (n.1 < (k.length : Int))))) ee<|q0 ?_
  refine qg ee b (fun _ b=>?_) (fun _ b=>?_)
  ·refine qh<|qa<|ql<|qm [(some [],[]),(some [0,1],[0,2]),(some [],[1]),(some [],[]),(some [],[]),(some [],[]),(some [],[]),(some [],[]),(some [],[]),(some [],[]),(some [],[]),(some [],[]),(some [],[]),(some [],[])] (by kernel_rfl)<|mv_ ee<|mv_ ee<|mv_ ee ?_
   obtain ⟨g,z,b⟩:=q6 b
   refine ix_ (enc:=qd) z ee<|v_ (.dref [i_ g.X0,i_ g.Y0,i_ g.X1,i_ g.Y1] 0) ee<|v_ (di_ g.X0) ee<|mv_ ee<|mv_ ee ?_
   obtain ⟨h,aa,b⟩:=q6 b
   refine ix_ (enc:=qd) aa ee<|v_ (.dref [i_ h.X0,i_ h.Y0,i_ h.X1,i_ h.Y1] 2) ee<|v_ (di_ h.X1) ee<|q20 (.hs 1 1 0 [g.X0,h.X1].length) (.dat 1 ([g.X0,h.X1].map (eI .i64))) ee ?_
   obtain ⟨ag,ab,b⟩:=q6 b
   refine q7c (xs:=n.2) (ys:=[g.X0,h.X1]) (enc:=(eI .i64)) (.hs 1 1 0 [g.X0,h.X1].length) ab ee ee ee ee ee ee ee (q4w ee ee) ee ee ee ee<|as_ ee<|nl_<|qw<|qi<|mv_ ee<|v_ (.d (i_ (w64 (n.1 + 1)))) ee<|as_ ee<|nl_ ?_
   exact ⟨_,(Option.some.inj b).symm,wkA [(0,2)] [] []⟩
  refine qv ?_
  refine ⟨_,(Option.some.inj b).symm,fun hm=>?_⟩
  subst hm
  exact ⟨_,ee,wkA [(0,0)] [] []⟩
 intro m hb
 subst hb
 refine qa ?_
 refine qad (st':=⟨[(5,.d (.sl 1 (m.map (eI .i64))))],[],0⟩) (wkA [] [0] []) ?_ (by simp)
 refine qi<|mv_ ee ?_
 obtain ⟨t,ac,j⟩:=q6 j
 refine pc_ (qg0 m t ac) ee<|as_ ee<|nt_ ?_
 obtain rfl:=q9 j
 exact fR_ (.d (.sl 1 (t.map (eI .i64)))) ee
theorem q100 (p : List qb) (k : List qb) (r : List Int) (j : qlb p k = some r) : Pure Tryz.prog tab 92 [.sl 4 (p.map qd),.sl 4 (k.map qd)] (.sl 1 (r.map (eI .i64))):=by
 unfold qlb at j
 refine qn Tryz.func92 ee (by kernel_rfl) (by kernel_rfl) ee<|sr_<|as_ ee<|qs<|as_ ee<|q0<|qa<|sr_<|as_ ee<|q0 ?_
 obtain ⟨q,u,j⟩:=q6 j
 refine qp (fun o=>o = q) (fun (o : List Int)=>⟨[(1,.d (.sl 4 (k.map qd))),(5,.hs 0 1 0 o.length)],[(0,.dat 1 (o.map (eI .i64)))],1⟩) (by simp) ?_ ?_
 ·refine qt (qci p) (fun (l : Int × List Int)=>⟨[(0,.d (.sl 4 (p.map qd))),(1,.d (.sl 4 (k.map qd))),(5,.hs 0 1 0 l.2.length),(6,di_ l.1)],[(0,.dat 1 (l.2.map (eI .i64)))],1⟩) (0,[]) q u (wkA [] [] [0]) ?_
  intro l ad a
  unfold qci at a
  refine qa<|sr_<|mv_ ee<|mv_ ee<|ln_ ee<|v_ (.d (.bool (decide (l.1 < (p.length : Int))))) ee<|q0 ?_
  refine qg ee a (fun _ a=>?_) (fun _ a=>?_)
  ·refine qh<|qa<|ql<|qm [(some [],[]),(some [0,1],[0,2]),(some [],[1]),(some [],[]),(some [],[]),(some [],[]),(some [],[]),(some [],[]),(some [],[]),(some [],[]),(some [],[]),(some [],[]),(some [],[]),(some [],[])] (by kernel_rfl)<|mv_ ee<|mv_ ee<|mv_ ee ?_
   obtain ⟨c,v,a⟩:=q6 a
   refine ix_ (enc:=qd) v ee<|v_ (.dref [i_ c.X0,i_ c.Y0,i_ c.X1,i_ c.Y1] 1) ee<|v_ (di_ c.Y0) ee<|mv_ ee<|mv_ ee ?_
   obtain ⟨f,w,a⟩:=q6 a
   refine ix_ (enc:=qd) w ee<|v_ (.dref [i_ f.X0,i_ f.Y0,i_ f.X1,i_ f.Y1] 3) ee<|v_ (di_ f.Y1) ee<|q20 (.hs 1 1 0 [c.Y0,f.Y1].length) (.dat 1 ([c.Y0,f.Y1].map (eI .i64))) ee ?_
   obtain ⟨ae,x,a⟩:=q6 a
   refine q7c (xs:=l.2) (ys:=[c.Y0,f.Y1]) (enc:=(eI .i64)) (.hs 1 1 0 [c.Y0,f.Y1].length) x ee ee ee ee ee ee ee (q4w ee ee) ee ee ee ee<|as_ ee<|nl_<|qw<|qi<|mv_ ee<|v_ (.d (i_ (w64 (l.1 + 1)))) ee<|as_ ee<|nl_ ?_
   exact ⟨_,(Option.some.inj a).symm,wkA [(0,2)] [] []⟩
  refine qv ?_
  refine ⟨_,(Option.some.inj a).symm,fun hm=>?_⟩
  subst hm
  exact ⟨_,ee,wkA [(0,0)] [] []⟩
 intro o hb
 subst hb
 refine qa<|sr_<|as_ ee<|q0 ?_
 obtain ⟨s,y,j⟩:=q6 j
 refine qp (fun m=>m = s) (fun (m : List Int)=>⟨[(5,.hs 0 1 0 m.length)],[(0,.dat 1 (m.map (eI .i64)))],1⟩) (by simp) ?_ ?_
 ·refine qt (qcj k) (fun (n : Int × List Int)=>⟨[(1,.d (.sl 4 (k.map qd))),(5,.hs 0 1 0 n.2.length),(7,di_ n.1)],[(0,.dat 1 (n.2.map (eI .i64)))],1⟩) (0,o) s y (wkA [(0,0)] [] []) ?_
  intro n af b
  unfold qcj at b
  refine qa<|sr_<|mv_ ee<|mv_ ee<|ln_ ee<|v_ (.d (.bool (decide (n.1 < (k.length : Int))))) ee<|q0 ?_
  refine qg ee b (fun _ b=>?_) (fun _ b=>?_)
  ·refine qh<|qa<|ql<|qm [(some [],[]),(some [0,1],[0,2]),(some [],[1]),(some [],[]),(some [],[]),(some [],[]),(some [],[]),(some [],[]),(some [],[]),(some [],[]),(some [],[]),(some [],[]),(some [],[]),(some [],[])] (by kernel_rfl)<|mv_ ee<|mv_ ee<|mv_ ee ?_
   obtain ⟨g,z,b⟩:=q6 b
   refine ix_ (enc:=qd) z ee<|v_ (.dref [i_ g.X0,i_ g.Y0,i_ g.X1,i_ g.Y1] 1) ee<|v_ (di_ g.Y0) ee<|mv_ ee<|mv_ ee ?_
   obtain ⟨h,aa,b⟩:=q6 b
   refine ix_ (enc:=qd) aa ee<|v_ (.dref [i_ h.X0,i_ h.Y0,i_ h.X1,i_ h.Y1] 3) ee<|v_ (di_ h.Y1) ee<|q20 (.hs 1 1 0 [g.Y0,h.Y1].length) (.dat 1 ([g.Y0,h.Y1].map (eI .i64))) ee ?_
   obtain ⟨ag,ab,b⟩:=q6 b
   refine q7c (xs:=n.2) (ys:=[g.Y0,h.Y1]) (enc:=(eI .i64)) (.hs 1 1 0 [g.Y0,h.Y1].length) ab ee ee ee ee ee ee ee (q4w ee ee) ee ee ee ee<|as_ ee<|nl_<|qw<|qi<|mv_ ee<|v_ (.d (i_ (w64 (n.1 + 1)))) ee<|as_ ee<|nl_ ?_
   exact ⟨_,(Option.some.inj b).symm,wkA [(0,2)] [] []⟩
  refine qv ?_
  refine ⟨_,(Option.some.inj b).symm,fun hm=>?_⟩
  subst hm
  exact ⟨_,ee,wkA [(0,0)] [] []⟩
 intro m hb
 subst hb
 refine qa ?_
 refine qad (st':=⟨[(5,.d (.sl 1 (m.map (eI .i64))))],[],0⟩) (wkA [] [0] []) ?_ (by simp)
 refine qi<|mv_ ee ?_
 obtain ⟨t,ac,j⟩:=q6 j
 refine pc_ (qg0 m t ac) ee<|as_ ee<|nt_ ?_
 obtain rfl:=q9 j
 exact fR_ (.d (.sl 1 (t.map (eI .i64)))) ee
theorem qjk (n : List qb) (c : Int) (b : Int) (r : Bool) (o : qf7 n c b = some r) : Pure Tryz.prog tab 45 [.sl 4 (n.map qd),i_ c,i_ b] (.bool r):=by
 unfold qf7 at o
 refine qn Tryz.func45 ee (by kernel_rfl) (by kernel_rfl) ee<|sr_<|as_ ee<|q0<|qa<|sr_<|as_ ee<|q0 ?_
 obtain ⟨s,ar,o⟩:=q6 o
 refine qp (fun q=>.inl q = s) (fun (q : Unit)=>⟨[],[],0⟩) (by simp) ?_ ?_
 ·refine qt (q9t n c b) (fun (p : Int)=>⟨[(0,.d (.sl 4 (n.map qd))),(1,di_ c),(2,di_ b),(7,di_ p)],[],0⟩) 0 s ar (wkA [] [] []) ?_
  intro p bb a
  unfold q9t at a
  refine qa<|sr_<|mv_ ee<|mv_ ee<|ln_ ee<|v_ (.d (.bool (decide (p < (n.length : Int))))) ee<|q0 ?_
  refine qg ee a (fun _ a=>?_) (fun _ a=>?_)
  ·refine qh<|qa<|ql<|sr_<|mv_ ee<|mv_ ee ?_
   obtain ⟨m,au,a⟩:=q6 a
   refine ix_ (enc:=qd) au ee<|v_ (.dref [i_ m.X0,i_ m.Y0,i_ m.X1,i_ m.Y1] 0) ee<|v_ (di_ m.X0) ee<|mv_ ee<|v_ (.d (.bool (decide (m.X0≤c)))) ee ?_
   obtain ⟨av,f,a⟩:=q6 a
   refine qq 9 (fun A st=>∃ (t u v w x y z aa : V),st = A [(29,db_ av),(28,aa),(27,z),(26,y),(25,x),(24,w),(23,v),(22,u),(21,t)]) ?_ ?_
   ·refine qu ee ee f (fun f=>?_) (fun f=>?_)
    ·refine mv_ ee<|mv_ ee<|mv_ ee ?_
     obtain ⟨g,aw,f⟩:=q6 f
     refine ix_ (enc:=qd) aw ee<|v_ (.dref [i_ g.X0,i_ g.Y0,i_ g.X1,i_ g.Y1] 2) ee<|v_ (di_ g.X1) ee<|v_ (.d (.bool (decide (c < g.X1)))) ee<|v_ (.d (.bool (decide (c < g.X1)))) ee<|q0 ?_
     obtain rfl:=q9 f
     exact ⟨_,_,_,_,_,_,_,_,ee⟩
    refine q7 ee<|q7 ee<|q7 ee<|q7 ee<|q7 ee<|q7 ee<|q7 ee<|v_ (db_ false) ee<|q0 ?_
    obtain rfl:=q9 f
    exact ⟨_,_,_,_,_,_,_,_,ee⟩
   rintro _ ⟨t,u,v,w,x,y,z,aa,rfl⟩
   obtain ⟨ax,h,a⟩:=q6 a
   refine qq 9 (fun A st=>∃ (ab ac ad ae af ag ah ai : V),st = A [(38,db_ ax),(37,ai),(36,ah),(35,ag),(34,af),(33,ae),(32,ad),(31,ac),(30,ab)]) ?_ ?_
   ·refine qu ee ee h (fun h=>?_) (fun h=>?_)
    ·refine mv_ ee<|mv_ ee ?_
     obtain ⟨j,ay,h⟩:=q6 h
     refine ix_ (enc:=qd) ay ee<|v_ (.dref [i_ j.X0,i_ j.Y0,i_ j.X1,i_ j.Y1] 1) ee<|v_ (di_ j.Y0) ee<|mv_ ee<|v_ (.d (.bool (decide (j.Y0≤b)))) ee<|v_ (.d (.bool (decide (j.Y0≤b)))) ee<|q0 ?_
     obtain rfl:=q9 h
     exact ⟨_,_,_,_,_,_,_,_,ee⟩
    refine q7 ee<|q7 ee<|q7 ee<|q7 ee<|q7 ee<|q7 ee<|q7 ee<|v_ (db_ false) ee<|q0 ?_
    obtain rfl:=q9 h
    exact ⟨_,_,_,_,_,_,_,_,ee⟩
   rintro _ ⟨ab,ac,ad,ae,af,ag,ah,ai,rfl⟩
   obtain ⟨az,k,a⟩:=q6 a
   refine qq 9 (fun A st=>∃ (aj ak al am an ao ap aq : V),st = A [(47,db_ az),(46,aq),(45,ap),(44,ao),(43,an),(42,am),(41,al),(40,ak),(39,aj)]) ?_ ?_
   ·refine qu ee ee k (fun k=>?_) (fun k=>?_)
    ·refine mv_ ee<|mv_ ee<|mv_ ee ?_
     obtain ⟨l,ba,k⟩:=q6 k
     refine ix_ (enc:=qd) ba ee<|v_ (.dref [i_ l.X0,i_ l.Y0,i_ l.X1,i_ l.Y1] 3) ee<|v_ (di_ l.Y1) ee<|v_ (.d (.bool (decide (b < l.Y1)))) ee<|v_ (.d (.bool (decide (b < l.Y1)))) ee<|q0 ?_
     obtain rfl:=q9 k
     exact ⟨_,_,_,_,_,_,_,_,ee⟩
    refine q7 ee<|q7 ee<|q7 ee<|q7 ee<|q7 ee<|q7 ee<|q7 ee<|v_ (db_ false) ee<|q0 ?_
    obtain rfl:=q9 k
    exact ⟨_,_,_,_,_,_,_,_,ee⟩
   rintro _ ⟨aj,ak,al,am,an,ao,ap,aq,rfl⟩
   refine q0 ?_
   refine qg ee a (fun _ a=>?_) (fun _ a=>?_)
   ·refine sr_<|as_ ee<|nt_ ?_
    refine ⟨_,(Option.some.inj a).symm,fun hm=>?_⟩
    subst hm
    obtain rfl:=q9 o
    exact fR_ (db_ true) ee
   refine qh<|qz<|qw<|qi<|mv_ ee<|v_ (.d (i_ (w64 (p + 1)))) ee<|as_ ee<|nl_ ?_
   exact ⟨_,(Option.some.inj a).symm,wkA [] [] []⟩
  refine qv ?_
  refine ⟨_,(Option.some.inj a).symm,fun hm=>?_⟩
  subst hm
  exact ⟨_,ee,wkA [] [] []⟩
 intro q hb
 subst hb
 refine sr_<|as_ ee<|nt_ ?_
 obtain rfl:=q9 o
 exact fR_ (db_ false) ee
theorem quk (g : Int) (h : Bool) (b : Bool) (r : Bool) (a : qdv g h b = some r) : Pure Tryz.prog tab 93 [i_ g,.bool h,.bool b] (.bool r):=by
 unfold qdv at a
 refine qn Tryz.func93 ee (by kernel_rfl) (by kernel_rfl) ee<|sr_<|as_ ee<|q0<|qa<|sr_<|mv_ ee<|v_ (db_ (g == 1)) ee<|q0 ?_
 refine qg ee a (fun _ a=>?_) (fun _ a=>?_)
 ·refine sr_<|mv_ ee ?_
  obtain ⟨j,c,a⟩:=q6 a
  refine qq 3 (fun A st=>∃ (k l : V),st = A [(12,db_ j),(11,l),(10,k)]) ?_ ?_
  ·refine qu ee ee c (fun c=>?_) (fun c=>?_)
   ·refine mv_ ee<|v_ (db_ b) ee<|q0 ?_
    obtain rfl:=q9 c
    exact ⟨_,_,ee⟩
   refine q7 ee<|v_ (db_ false) ee<|q0 ?_
   obtain rfl:=q9 c
   exact ⟨_,_,ee⟩
  rintro _ ⟨k,l,rfl⟩
  refine as_ ee<|nt_ ?_
  obtain rfl:=q9 a
  exact fR_ (db_ j) ee
 refine qh<|qa<|sr_<|mv_ ee<|v_ (db_ (g == 2)) ee<|q0 ?_
 refine qg ee a (fun _ a=>?_) (fun _ a=>?_)
 ·refine sr_<|mv_ ee ?_
  obtain ⟨m,d,a⟩:=q6 a
  refine qq 3 (fun A st=>∃ (n o : V),st = A [(18,db_ m),(17,o),(16,n)]) ?_ ?_
  ·refine qu ee ee d (fun d=>?_) (fun d=>?_)
   ·refine q7 ee<|v_ (db_ true) ee<|q0 ?_
    obtain rfl:=q9 d
    exact ⟨_,_,ee⟩
   refine mv_ ee<|v_ (db_ b) ee<|q0 ?_
   obtain rfl:=q9 d
   exact ⟨_,_,ee⟩
  rintro _ ⟨n,o,rfl⟩
  refine as_ ee<|nt_ ?_
  obtain rfl:=q9 a
  exact fR_ (db_ m) ee
 refine qh<|sr_<|mv_ ee ?_
 obtain ⟨p,f,a⟩:=q6 a
 refine qq 4 (fun A st=>∃ (q s t : V),st = A [(23,db_ p),(22,t),(21,s),(20,q)]) ?_ ?_
 ·refine qu ee ee f (fun f=>?_) (fun f=>?_)
  ·refine mv_ ee<|v_ (db_ (!b)) ee<|v_ (db_ (!b)) ee<|q0 ?_
   obtain rfl:=q9 f
   exact ⟨_,_,_,ee⟩
  refine q7 ee<|q7 ee<|v_ (db_ false) ee<|q0 ?_
  obtain rfl:=q9 f
  exact ⟨_,_,_,ee⟩
 rintro _ ⟨q,s,t,rfl⟩
 refine as_ ee<|nt_ ?_
 obtain rfl:=q9 a
 exact fR_ (db_ p) ee
end Go.Proofs.YtjjmcdlnadkjbaaGreat
