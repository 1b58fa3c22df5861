/- W_Allb -/
import Derived.Test.YtlchefooafpdlaaGreatK15
namespace Go.Proofs.YtlchefooafpdlaaGreat
open Go Go.Am Go.Sh
set_option maxHeartbeats 8000000
set_option maxRecDepth 100000
theorem quu (q1 : qg→qg→Option Int) (q1F : FuncId) (q1C : List DV) (q1Ok : ∀ (x0 : qg) (x1 : qg) (r : Int),q1 x0 x1 = some r→Pure Tryz.prog tab q1F ([.agg [G x0.at_,G x0.list_,G x0.by_],.agg [G x1.at_,G x1.list_,G x1.by_]] ++ q1C) (G r)) (j : List qg) (b : Int) (s : Int) (k : Int) (r : Int × Bool × List qg) (a : q89 q1 j b s k = some r) : Qr Tryz.prog tab 210 [.hs 0 3 0 j.length,q6 b,q6 s,q6 k,.d (.fn q1F q1C)] [(0,.dat 3 (j.map Q0))] 1 (.d (.tup [G r.1,.bool r.2.1])) [(0,.dat 3 (r.2.2.map Q0))] 1:=by
 unfold q89 at a
 refine Qy Tryz.func210 J (by kernel_rfl) (by kernel_rfl) J<|qb<|qa J<|qa J<|q8<|qe<|Q4 [Q9 0,q0,Q9 0,q0,qn 0,q0,q0,q0,qn 0,q0,q0,q0,q0,q0,q0,q0] (by kernel_rfl)<|U J<|U J<|U J<|U J<|U J<|U J ?_
 obtain ⟨f,bd,a⟩:=q7 a
 refine qq bd J J<|qx (.d (.agg [G f.at_,G f.list_,G f.by_])) bd J<|U J<|U J ?_
 obtain ⟨g,be,a⟩:=q7 a
 refine qq be J J<|qx (.d (.agg [G g.at_,G g.list_,G g.by_])) be J ?_
 obtain ⟨gd,bf,a⟩:=q7 a
 refine qq bf J J<|Qi (ds:=[G f.at_,G f.list_,G f.by_]) f bf J J J J J J J J (leb J) J ?_
 obtain ⟨ge,bg,a⟩:=q7 a
 refine qq bg (by simp) J<|Qi (ds:=[G g.at_,G g.list_,G g.by_]) g bg J J J J J J J J (leb J) J<|qo<|U J<|O (.d (G (w64 (b + 1)))) J<|U J<|O (.d (G (w64 (s - 1)))) J<|qa J<|qa J<|q8<|qe ?_
 obtain ⟨bh,fq,a⟩:=q7 a
 refine Qd (fun l=>l = bh) (fun (l : Int)=>⟨[(0,.hs 0 3 0 ((j.set b.toNat f).set k.toNat g).length),(1,q6 b),(4,.d (.fn q1F q1C)),(12,q6 l),(13,.d (G (w64 (s - 1))))],[(0,.dat 3 (((j.set b.toNat f).set k.toNat g).map Q0))],1⟩) (by simp) ?_ ?_
 ·refine Q6 (q8a s j b f k g q1) (fun (av : Int)=>⟨[(0,.hs 0 3 0 ((j.set b.toNat f).set k.toNat g).length),(1,q6 b),(4,.d (.fn q1F q1C)),(12,q6 av),(13,.d (G (w64 (s - 1))))],[(0,.dat 3 (((j.set b.toNat f).set k.toNat g).map Q0))],1⟩) (w64 (b + 1)) bh fq (wkE [] [] [] J ⟨⟨_,J,Qq (by simp) J (by decide) (ltd J)⟩,⟨_,J,.d (.refl _)⟩,⟨_,J,.d (.refl _)⟩,⟨_,J,.d (.refl _)⟩,⟨_,J,.d (.refl _)⟩,trivial⟩ ⟨⟨ltd J,.inr ⟨by decide,_,J,.dat _ _⟩⟩,trivial⟩) ?_
  intro av gf t
  unfold q8a at t
  refine qe<|qe<|Q4 [q0,q0,q0,qn 0,q0,q0,q0,qn 0,q0,q0,q0,q0,q0,q0,q0,q0] (by kernel_rfl)<|U J<|U J<|O (.d (.bool (decide (av≤(w64 (s - 1)))))) J ?_
  obtain ⟨fr,m,t⟩:=q7 t
  refine qy 13 (fun A st=>∃ (bi bj bk bl bm bn bo bp bq br bs bt : V),st = A [(47,qd fr),(46,bt),(45,bs),(44,br),(43,bq),(42,bp),(41,bo),(40,bn),(39,bm),(38,bl),(37,bk),(36,bj),(35,bi)]) ?_ ?_
  ·refine qw J J m (fun m=>?_) (fun m=>?_)
   ·refine U J<|U J<|U J ?_
    obtain ⟨ab,bu,m⟩:=q7 m
    refine qq bu J J<|qx (.d (.agg [G ab.at_,G ab.list_,G ab.by_])) bu J<|U J<|U J ?_
    obtain ⟨ac,bv,m⟩:=q7 m
    refine qq bv J J<|qx (.d (.agg [G ac.at_,G ac.list_,G ac.by_])) bv J ?_
    obtain ⟨bb,fs,m⟩:=q7 m
    refine Y5 [.d (.agg [G ab.at_,G ab.list_,G ab.by_]),.d (.agg [G ac.at_,G ac.list_,G ac.by_])] (q1Ok ab ac bb fs) J J J (.inl J)<|O (.d (.bool (decide (bb < 0)))) J<|O (.d (.bool (decide (bb < 0)))) J<|q8 ?_
    obtain rfl:=qc m
    exact ⟨_,_,_,_,_,_,_,_,_,_,_,_,J⟩
   refine q9 J<|q9 J<|q9 J<|q9 J<|q9 J<|q9 J<|q9 J<|q9 J<|q9 J<|q9 J<|q9 J<|O (qd false) J<|q8 ?_
   obtain rfl:=qc m
   exact ⟨_,_,_,_,_,_,_,_,_,_,_,_,J⟩
  rintro _ ⟨bi,bj,bk,bl,bm,bn,bo,bp,bq,br,bs,bt,rfl⟩
  refine q8 ?_
  refine qk J t (fun _ t=>?_) (fun _ t=>?_)
  ·refine ql<|qu<|qs<|U J<|O (.d (G (w64 (av + 1)))) J<|qa J<|qr<|Q8<|Q7 ?_
   exact ⟨_,(Option.some.inj t).symm,wkA [] [] []⟩
  refine Q1 ?_
  refine ⟨_,(Option.some.inj t).symm,fun hm=>?_⟩
  subst hm
  exact ⟨_,J,wkA [] [] []⟩
 intro l hb
 subst hb
 refine qe ?_
 obtain ⟨bw,ft,a⟩:=q7 a
 refine Qd (fun u=>u = bw) (fun (u : Int)=>⟨[(0,.hs 0 3 0 ((j.set b.toNat f).set k.toNat g).length),(1,q6 b),(4,.d (.fn q1F q1C)),(12,q6 l),(13,q6 u)],[(0,.dat 3 (((j.set b.toNat f).set k.toNat g).map Q0))],1⟩) (by simp) ?_ ?_
 ·refine Q6 (q8b l j b f k g q1) (fun (aw : Int)=>⟨[(0,.hs 0 3 0 ((j.set b.toNat f).set k.toNat g).length),(1,q6 b),(4,.d (.fn q1F q1C)),(12,q6 l),(13,q6 aw)],[(0,.dat 3 (((j.set b.toNat f).set k.toNat g).map Q0))],1⟩) (w64 (s - 1)) bw ft (wkA [] [] []) ?_
  intro aw gg v
  unfold q8b at v
  refine qe<|qe<|Q4 [q0,q0,q0,q0,qn 0,q0,q0,q0,qn 0,q0,q0,q0,q0,q0,q0,q0,q0] (by kernel_rfl)<|U J<|U J<|O (.d (.bool (decide (l≤aw)))) J ?_
  obtain ⟨fu,n,v⟩:=q7 v
  refine qy 14 (fun A st=>∃ (bz ca cb cc cd ce cf cg ch ci cj ck cl : V),st = A [(66,qd fu),(65,cl),(64,ck),(63,cj),(62,ci),(61,ch),(60,cg),(59,cf),(58,ce),(57,cd),(56,cc),(55,cb),(54,ca),(53,bz)]) ?_ ?_
  ·refine qw J J n (fun n=>?_) (fun n=>?_)
   ·refine U J<|U J<|U J ?_
    obtain ⟨ad,cm,n⟩:=q7 n
    refine qq cm J J<|qx (.d (.agg [G ad.at_,G ad.list_,G ad.by_])) cm J<|U J<|U J ?_
    obtain ⟨ae,cn,n⟩:=q7 n
    refine qq cn J J<|qx (.d (.agg [G ae.at_,G ae.list_,G ae.by_])) cn J ?_
    obtain ⟨ax,fv,n⟩:=q7 n
    refine Y5 [.d (.agg [G ad.at_,G ad.list_,G ad.by_]),.d (.agg [G ae.at_,G ae.list_,G ae.by_])] (q1Ok ad ae ax fv) J J J (.inl J)<|O (.d (.bool (decide (ax < 0)))) J<|O (.d (.bool (!(decide (ax < 0))))) J<|O (.d (.bool (!(decide (ax < 0))))) J<|q8 ?_
    obtain rfl:=qc n
    exact ⟨_,_,_,_,_,_,_,_,_,_,_,_,_,J⟩
   refine q9 J<|q9 J<|q9 J<|q9 J<|q9 J<|q9 J<|q9 J<|q9 J<|q9 J<|q9 J<|q9 J<|q9 J<|O (qd false) J<|q8 ?_
   obtain rfl:=qc n
   exact ⟨_,_,_,_,_,_,_,_,_,_,_,_,_,J⟩
  rintro _ ⟨bz,ca,cb,cc,cd,ce,cf,cg,ch,ci,cj,ck,cl,rfl⟩
  refine q8 ?_
  refine qk J v (fun _ v=>?_) (fun _ v=>?_)
  ·refine ql<|qu<|qs<|U J<|O (.d (G (w64 (aw - 1)))) J<|qa J<|qr<|Q8<|Q7 ?_
   exact ⟨_,(Option.some.inj v).symm,wkA [] [] []⟩
  refine Q1 ?_
  refine ⟨_,(Option.some.inj v).symm,fun hm=>?_⟩
  subst hm
  exact ⟨_,J,wkA [] [] []⟩
 intro u hb
 subst hb
 refine qe<|qb<|U J<|U J<|O (.d (.bool (decide (l > u)))) J<|q8 ?_
 refine qk J a (fun _ a=>?_) (fun _ a=>?_)
 ·refine qe<|Q4 [Q9 0,q0,Q9 0,q0,qn 0,q0,q0,q0,qn 0,q0,q0,q0,q0,q0,q0,q0] (by kernel_rfl)<|U J<|U J<|U J<|U J<|U J<|U J ?_
  obtain ⟨af,co,a⟩:=q7 a
  refine qq co J J<|qx (.d (.agg [G af.at_,G af.list_,G af.by_])) co J<|U J<|U J ?_
  obtain ⟨ag,cp,a⟩:=q7 a
  refine qq cp J J<|qx (.d (.agg [G ag.at_,G ag.list_,G ag.by_])) cp J ?_
  obtain ⟨gh,cq,a⟩:=q7 a
  refine qq cq J J<|Qi (ds:=[G af.at_,G af.list_,G af.by_]) af cq J J J J J J J J (leb J) J ?_
  obtain ⟨gi,cr,a⟩:=q7 a
  refine qq cr (by simp) J<|Qi (ds:=[G ag.at_,G ag.list_,G ag.by_]) ag cr J J J J J J J J (leb J) J<|qo<|U J<|qa J<|qa J<|qp ?_
  obtain rfl:=qc a
  exact ⟨.inr J,_,J,wkA [] [] []⟩
 refine ql<|qe<|Q4 [Q9 0,q0,Q9 0,q0,qn 0,q0,q0,q0,qn 0,q0,q0,q0,q0,q0,q0,q0] (by kernel_rfl)<|U J<|U J<|U J<|U J<|U J<|U J ?_
 obtain ⟨w,cs,a⟩:=q7 a
 refine qq cs J J<|qx (.d (.agg [G w.at_,G w.list_,G w.by_])) cs J<|U J<|U J ?_
 obtain ⟨x,ct,a⟩:=q7 a
 refine qq ct J J<|qx (.d (.agg [G x.at_,G x.list_,G x.by_])) ct J ?_
 obtain ⟨gj,cu,a⟩:=q7 a
 refine qq cu J J<|Qi (ds:=[G w.at_,G w.list_,G w.by_]) w cu J J J J J J J J (leb J) J ?_
 obtain ⟨gk,cv,a⟩:=q7 a
 refine qq cv (by simp) J<|Qi (ds:=[G x.at_,G x.list_,G x.by_]) x cv J J J J J J J J (leb J) J<|qo<|U J<|O (.d (G (w64 (l + 1)))) J<|qa J<|qo<|U J<|O (.d (G (w64 (u - 1)))) J<|qa J<|q8<|qe ?_
 obtain ⟨cw,fw,a⟩:=q7 a
 refine Qd (fun ap=>ap = cw) (fun (ap : Int × List qg)=>⟨[(0,.hs 0 3 0 ap.2.length),(1,q6 b),(13,q6 ap.1)],[(0,.dat 3 (ap.2.map Q0))],1⟩) (by simp) ?_ ?_
 ·refine Q6 (q8c b q1) (fun (c : Int × Int × List qg)=>⟨[(0,.hs 0 3 0 c.2.2.length),(1,q6 b),(4,.d (.fn q1F q1C)),(12,q6 c.1),(13,q6 c.2.1)],[(0,.dat 3 (c.2.2.map Q0))],1⟩) (w64 (l + 1),w64 (u - 1),(((j.set b.toNat f).set k.toNat g).set l.toNat w).set u.toNat x) cw fw (wkE [] [] [] J ⟨⟨_,J,Qq (by simp) J (by decide) (ltd J)⟩,⟨_,J,.d (.refl _)⟩,⟨_,J,.d (.refl _)⟩,⟨_,J,.d (.refl _)⟩,⟨_,J,.d (.refl _)⟩,trivial⟩ ⟨⟨ltd J,.inr ⟨by decide,_,J,.dat _ _⟩⟩,trivial⟩) ?_
  intro c gl h
  unfold q8c at h
  refine qu<|qe ?_
  obtain ⟨cx,fx,h⟩:=q7 h
  refine Qd (fun q=>q = cx) (fun (q : Int)=>⟨[(0,.hs 0 3 0 c.2.2.length),(1,q6 b),(4,.d (.fn q1F q1C)),(12,q6 q),(13,q6 c.2.1)],[(0,.dat 3 (c.2.2.map Q0))],1⟩) (by simp) ?_ ?_
  ·refine Q6 (q8d c b q1) (fun (ay : Int)=>⟨[(0,.hs 0 3 0 c.2.2.length),(1,q6 b),(4,.d (.fn q1F q1C)),(12,q6 ay),(13,q6 c.2.1)],[(0,.dat 3 (c.2.2.map Q0))],1⟩) c.1 cx fx (wkA [] [] []) ?_
   intro ay gm y
   unfold q8d at y
   refine qe<|qe<|Q4 [q0,q0,q0,qn 0,q0,q0,q0,qn 0,q0,q0,q0,q0,q0,q0,q0,q0] (by kernel_rfl)<|U J<|U J<|O (.d (.bool (decide (ay≤c.2.1)))) J ?_
   obtain ⟨fy,o,y⟩:=q7 y
   refine qy 13 (fun A st=>∃ (cy cz da dc dd de df dg dh dj dk dl : V),st = A [(120,qd fy),(119,dl),(118,dk),(117,dj),(116,dh),(115,dg),(114,df),(113,de),(112,dd),(111,dc),(110,da),(109,cz),(108,cy)]) ?_ ?_
   ·refine qw J J o (fun o=>?_) (fun o=>?_)
    ·refine U J<|U J<|U J ?_
     obtain ⟨ah,dm,o⟩:=q7 o
     refine qq dm J J<|qx (.d (.agg [G ah.at_,G ah.list_,G ah.by_])) dm J<|U J<|U J ?_
     obtain ⟨ai,dn,o⟩:=q7 o
     refine qq dn J J<|qx (.d (.agg [G ai.at_,G ai.list_,G ai.by_])) dn J ?_
     obtain ⟨bc,fz,o⟩:=q7 o
     refine Y5 [.d (.agg [G ah.at_,G ah.list_,G ah.by_]),.d (.agg [G ai.at_,G ai.list_,G ai.by_])] (q1Ok ah ai bc fz) J J J (.inl J)<|O (.d (.bool (decide (bc < 0)))) J<|O (.d (.bool (decide (bc < 0)))) J<|q8 ?_
     obtain rfl:=qc o
     exact ⟨_,_,_,_,_,_,_,_,_,_,_,_,J⟩
    refine q9 J<|q9 J<|q9 J<|q9 J<|q9 J<|q9 J<|q9 J<|q9 J<|q9 J<|q9 J<|q9 J<|O (qd false) J<|q8 ?_
    obtain rfl:=qc o
    exact ⟨_,_,_,_,_,_,_,_,_,_,_,_,J⟩
   rintro _ ⟨cy,cz,da,dc,dd,de,df,dg,dh,dj,dk,dl,rfl⟩
   refine q8 ?_
   refine qk J y (fun _ y=>?_) (fun _ y=>?_)
   ·refine ql<|qu<|qs<|U J<|O (.d (G (w64 (ay + 1)))) J<|qa J<|qr<|Q8<|Q7 ?_
    exact ⟨_,(Option.some.inj y).symm,wkA [] [] []⟩
   refine Q1 ?_
   refine ⟨_,(Option.some.inj y).symm,fun hm=>?_⟩
   subst hm
   exact ⟨_,J,wkA [] [] []⟩
  intro q hb
  subst hb
  refine qe ?_
  obtain ⟨dp,ga,h⟩:=q7 h
  refine Qd (fun aq=>aq = dp) (fun (aq : Int)=>⟨[(0,.hs 0 3 0 c.2.2.length),(1,q6 b),(4,.d (.fn q1F q1C)),(12,q6 q),(13,q6 aq)],[(0,.dat 3 (c.2.2.map Q0))],1⟩) (by simp) ?_ ?_
  ·refine Q6 (q8e q c b q1) (fun (az : Int)=>⟨[(0,.hs 0 3 0 c.2.2.length),(1,q6 b),(4,.d (.fn q1F q1C)),(12,q6 q),(13,q6 az)],[(0,.dat 3 (c.2.2.map Q0))],1⟩) c.2.1 dp ga (wkA [] [] []) ?_
   intro az gn z
   unfold q8e at z
   refine qe<|qe<|Q4 [q0,q0,q0,q0,qn 0,q0,q0,q0,qn 0,q0,q0,q0,q0,q0,q0,q0,q0] (by kernel_rfl)<|U J<|U J<|O (.d (.bool (decide (q≤az)))) J ?_
   obtain ⟨gb,p,z⟩:=q7 z
   refine qy 14 (fun A st=>∃ (dq dr dt du dv dw dx dy dz fa fb fc fd : V),st = A [(139,qd gb),(138,fd),(137,fc),(136,fb),(135,fa),(134,dz),(133,dy),(132,dx),(131,dw),(130,dv),(129,du),(128,dt),(127,dr),(126,dq)]) ?_ ?_
   ·refine qw J J p (fun p=>?_) (fun p=>?_)
    ·refine U J<|U J<|U J ?_
     obtain ⟨aj,fe,p⟩:=q7 p
     refine qq fe J J<|qx (.d (.agg [G aj.at_,G aj.list_,G aj.by_])) fe J<|U J<|U J ?_
     obtain ⟨ak,ff,p⟩:=q7 p
     refine qq ff J J<|qx (.d (.agg [G ak.at_,G ak.list_,G ak.by_])) ff J ?_
     obtain ⟨ba,gc,p⟩:=q7 p
     refine Y5 [.d (.agg [G aj.at_,G aj.list_,G aj.by_]),.d (.agg [G ak.at_,G ak.list_,G ak.by_])] (q1Ok aj ak ba gc) J J J (.inl J)<|O (.d (.bool (decide (ba < 0)))) J<|O (.d (.bool (!(decide (ba < 0))))) J<|O (.d (.bool (!(decide (ba < 0))))) J<|q8 ?_
     obtain rfl:=qc p
     exact ⟨_,_,_,_,_,_,_,_,_,_,_,_,_,J⟩
    refine q9 J<|q9 J<|q9 J<|q9 J<|q9 J<|q9 J<|q9 J<|q9 J<|q9 J<|q9 J<|q9 J<|q9 J<|O (qd false) J<|q8 ?_
    obtain rfl:=qc p
    exact ⟨_,_,_,_,_,_,_,_,_,_,_,_,_,J⟩
   rintro _ ⟨dq,dr,dt,du,dv,dw,dx,dy,dz,fa,fb,fc,fd,rfl⟩
   refine q8 ?_
   refine qk J z (fun _ z=>?_) (fun _ z=>?_)
   ·refine ql<|qu<|qs<|U J<|O (.d (G (w64 (az - 1)))) J<|qa J<|qr<|Q8<|Q7 ?_
    exact ⟨_,(Option.some.inj z).symm,wkA [] [] []⟩
   refine Q1 ?_
   refine ⟨_,(Option.some.inj z).symm,fun hm=>?_⟩
   subst hm
   exact ⟨_,J,wkA [] [] []⟩
  intro aq hb
  subst hb
  refine qe<|qb<|U J<|U J<|O (.d (.bool (decide (q > aq)))) J<|q8 ?_
  refine qk J h (fun _ h=>?_) (fun _ h=>?_)
  ·refine Q1 ?_
   refine ⟨_,(Option.some.inj h).symm,fun hm=>?_⟩
   subst hm
   exact ⟨_,J,wkA [] [] []⟩
  refine ql<|qe<|Q4 [Q9 0,q0,Q9 0,q0,qn 0,q0,q0,q0,qn 0,q0,q0,q0,q0,q0,q0,q0] (by kernel_rfl)<|U J<|U J<|U J<|U J<|U J<|U J ?_
  obtain ⟨al,fg,h⟩:=q7 h
  refine qq fg J J<|qx (.d (.agg [G al.at_,G al.list_,G al.by_])) fg J<|U J<|U J ?_
  obtain ⟨am,fh,h⟩:=q7 h
  refine qq fh J J<|qx (.d (.agg [G am.at_,G am.list_,G am.by_])) fh J ?_
  obtain ⟨go,fi,h⟩:=q7 h
  refine qq fi J J<|Qi (ds:=[G al.at_,G al.list_,G al.by_]) al fi J J J J J J J J (leb J) J ?_
  obtain ⟨gp,fj,h⟩:=q7 h
  refine qq fj (by simp) J<|Qi (ds:=[G am.at_,G am.list_,G am.by_]) am fj J J J J J J J J (leb J) J<|qo<|U J<|O (.d (G (w64 (q + 1)))) J<|qa J<|q8<|qs<|U J<|O (.d (G (w64 (aq - 1)))) J<|qa J<|qr<|Q8<|Q7 ?_
  exact ⟨_,(Option.some.inj h).symm,wkE [] [] [] J ⟨⟨_,J,Qq (by simp) J (by decide) (ltd J)⟩,⟨_,J,.d (.refl _)⟩,⟨_,J,.d (.refl _)⟩,⟨_,J,.d (.refl _)⟩,⟨_,J,.d (.refl _)⟩,trivial⟩ ⟨⟨ltd J,.inr ⟨by decide,_,J,.dat _ _⟩⟩,trivial⟩⟩
 intro ap hb
 subst hb
 refine qe<|Q4 [Q9 0,q0,Q9 0,q0,qn 0,q0,q0,q0,qn 0,q0,q0,q0,q0,q0,q0,q0] (by kernel_rfl)<|U J<|U J<|U J<|U J<|U J<|U J ?_
 obtain ⟨an,fk,a⟩:=q7 a
 refine qq fk J J<|qx (.d (.agg [G an.at_,G an.list_,G an.by_])) fk J<|U J<|U J ?_
 obtain ⟨ao,fl,a⟩:=q7 a
 refine qq fl J J<|qx (.d (.agg [G ao.at_,G ao.list_,G ao.by_])) fl J ?_
 obtain ⟨gq,fm,a⟩:=q7 a
 refine qq fm J J<|Qi (ds:=[G an.at_,G an.list_,G an.by_]) an fm J J J J J J J J (leb J) J ?_
 obtain ⟨gr,fo,a⟩:=q7 a
 refine qq fo (by simp) J<|Qi (ds:=[G ao.at_,G ao.list_,G ao.by_]) ao fo J J J J J J J J (leb J) J<|qo<|U J<|qa J<|qa J<|qp ?_
 obtain rfl:=qc a
 exact ⟨.inr J,_,J,wkA [] [] []⟩
theorem quj (s : qg→qg→Option Int) (q1F : FuncId) (q1C : List DV) (_q1Ok : ∀ (o : qg) (p : qg) (r : Int),s o p = some r→Pure Tryz.prog tab q1F ([.agg [G o.at_,G o.list_,G o.by_],.agg [G p.at_,G p.list_,G p.by_]] ++ q1C) (G r)) (q : List qg) (a : Int) (b : Int) (r : List qg) (g : q7w s q a b = some r) : Qr Tryz.prog tab 205 [.hs 0 3 0 q.length,q6 a,q6 b,.d (.fn q1F q1C)] [(0,.dat 3 (q.map Q0))] 1 (.d (.tup [])) [(0,.dat 3 (r.map Q0))] 1:=by
 unfold q7w at g
 refine Qy Tryz.func205 J (by kernel_rfl) (by kernel_rfl) J<|qb<|U J<|U J<|O (.d (G (w64 (b - a)))) J<|qa J<|qo<|U J<|O (.d (.bool (decide ((w64 (b - a)) ≥ 8)))) J<|q8 ?_
 refine qk J g (fun _ g=>?_) (fun _ g=>?_)
 ·refine qb<|U J<|O (.d (.int .u64 (IntKind.wrap .u64 (w64 (b - a))))) J<|Qp J J<|Q3 1 (.dat 1 [[.int .u64 (IntKind.wrap .u64 (w64 (b - a)))]]) J<|qo<|U J ?_
  obtain ⟨h,x,g⟩:=q7 g
  refine qt (qjv (w64 (b - a)) h x) J<|qa J<|qo<|U J<|U J<|O (.d (G (w64 (Int.tdiv (w64 (b - a)) 4)))) J<|O (.d (G (w64 ((w64 (Int.tdiv (w64 (b - a)) 4)) * 2)))) J<|O (.d (G (w64 (a + (w64 ((w64 (Int.tdiv (w64 (b - a)) 4)) * 2)))))) J<|O (.d (G (w64 ((w64 (a + (w64 ((w64 (Int.tdiv (w64 (b - a)) 4)) * 2)))) - 1)))) J<|qa J<|q8 ?_
  obtain ⟨y,z,g⟩:=q7 g
  refine qu<|Q6 (q7x a b h) (fun (f : Int × List qg × Int)=>⟨[(0,.hs 0 3 0 f.2.1.length),(1,q6 a),(8,.d (G (w64 (b - a)))),(9,.ref 1 1 0 0),(10,.d (.int .u64 h)),(11,q6 f.1)],[(0,.dat 3 (f.2.1.map Q0)),(1,.dat 1 [[.int .u64 f.2.2]])],2⟩) (w64 ((w64 (a + (w64 ((w64 (Int.tdiv (w64 (b - a)) 4)) * 2)))) - 1),q,IntKind.wrap .u64 (w64 (b - a))) y z (wkA [(1,1)] [] []) ?_
  intro f ac c
  unfold q7x at c
  refine qe<|qb<|U J<|U J<|U J<|O (.d (G (w64 (Int.tdiv (w64 (b - a)) 4)))) J<|O (.d (G (w64 ((w64 (Int.tdiv (w64 (b - a)) 4)) * 2)))) J<|O (.d (G (w64 (a + (w64 ((w64 (Int.tdiv (w64 (b - a)) 4)) * 2)))))) J<|O (.d (G (w64 ((w64 (a + (w64 ((w64 (Int.tdiv (w64 (b - a)) 4)) * 2)))) + 1)))) J<|O (.d (.bool (decide (f.1≤(w64 ((w64 (a + (w64 ((w64 (Int.tdiv (w64 (b - a)) 4)) * 2)))) + 1)))))) J<|q8 ?_
  refine qk J c (fun _ c=>?_) (fun _ c=>?_)
  ·refine ql<|qe<|qu<|qb ?_
   obtain ⟨j,aa,c⟩:=q7 c
   refine Qs [(0,1)] [(0,1),(1,0)] [.ref 1 1 0 0] (.d (.int .u64 j)) 1 [(1,.dat 1 [[.int .u64 j]]),(0,.dat 3 (f.2.1.map Q0))] 2 (qjy f.2.2 j aa)<|U J<|O (.d (.int .u64 (IntKind.wrap .u64 (h - 1)))) J<|O (.d (.int .u64 (andI .u64 j (IntKind.wrap .u64 (h - 1))))) J<|O (.d (G (w64 (andI .u64 j (IntKind.wrap .u64 (h - 1)))))) J<|qa J<|q8<|qe<|qb<|U J<|U J<|O (.d (.bool (decide ((w64 (andI .u64 j (IntKind.wrap .u64 (h - 1)))) ≥ (w64 (b - a)))))) J<|q8 ?_
   obtain ⟨ab,n,c⟩:=q7 c
   refine Y6 (fun m=>m = ab) (fun (m : Int)=>⟨[(0,.hs 0 3 0 f.2.1.length),(1,q6 a),(8,.d (G (w64 (b - a)))),(9,.ref 1 1 0 0),(10,.d (.int .u64 h)),(11,q6 f.1),(12,q6 m)],[(0,.dat 3 (f.2.1.map Q0)),(1,.dat 1 [[.int .u64 j]])],2⟩) (by simp) ?_ ?_
   ·refine qk J n (fun _ n=>?_) (fun _ n=>?_)
    ·refine qs<|U J<|U J<|O (.d (G (w64 ((w64 (andI .u64 j (IntKind.wrap .u64 (h - 1)))) - (w64 (b - a)))))) J<|qa J<|qr ?_
     obtain rfl:=qc n
     exact ⟨_,J,wkA [(1,1)] [] []⟩
    refine ql<|Q7 ?_
    obtain rfl:=qc n
    exact ⟨_,J,wkA [(1,1)] [] []⟩
   intro m hb
   subst hb
   refine Q4 [Q9 0,q0,Q9 0,q0,qn 0,q0,q0,q0,qn 0,q0,q0,q0,q0,q0,q0,q0,q0,q0,q0,q0] (by kernel_rfl)<|U J<|U J<|U J<|U J<|U J<|O (.d (G (w64 (a + m)))) J<|U J<|U J<|U J<|O (.d (G (w64 (a + m)))) J ?_
   obtain ⟨k,t,c⟩:=q7 c
   refine qq t J J<|qx (.d (.agg [G k.at_,G k.list_,G k.by_])) t J<|U J<|U J ?_
   obtain ⟨l,u,c⟩:=q7 c
   refine qq u J J<|qx (.d (.agg [G l.at_,G l.list_,G l.by_])) u J ?_
   obtain ⟨ad,v,c⟩:=q7 c
   refine qq v J J<|Qi (ds:=[G k.at_,G k.list_,G k.by_]) k v J J J J J J J J (leb J) J ?_
   obtain ⟨ae,w,c⟩:=q7 c
   refine qq w (by simp) J<|Qi (ds:=[G l.at_,G l.list_,G l.by_]) l w J J J J J J J J (leb J) J<|qr<|Q8<|qs<|U J<|O (.d (G (w64 (f.1 + 1)))) J<|qa J<|qr ?_
   exact ⟨_,(Option.some.inj c).symm,wkE [(1,1)] [] [] J ⟨⟨_,J,Qq (by simp) J (by decide) (ltd J)⟩,⟨_,J,.d (.refl _)⟩,⟨_,J,.d (.refl _)⟩,⟨_,J,.ref J (by decide) (ltd J)⟩,⟨_,J,.d (.refl _)⟩,⟨_,J,.d (.refl _)⟩,trivial⟩ ⟨⟨ltd J,.inr ⟨by decide,_,J,.dat _ _⟩⟩,⟨ltd J,.inr ⟨by decide,_,J,.dat _ _⟩⟩,trivial⟩⟩
  refine Q1 ?_
  refine ⟨_,(Option.some.inj c).symm,fun hm=>?_⟩
  subst hm
  obtain rfl:=qc g
  exact ⟨.inl J,_,J,wkA [] [] []⟩
 refine ql<|Q7 ?_
 obtain rfl:=qc g
 exact ⟨.inl J,_,J,wkA [] [] []⟩
theorem quy (rec : List qg→Int→Int→Int→Option (List qg)) (j : qg→qg→Option Int) (q1F : FuncId) (q1C : List DV) (q1Ok : ∀ (z : qg) (x1 : qg) (r : Int),j z x1 = some r→Pure Tryz.prog tab q1F ([.agg [G z.at_,G z.list_,G z.by_],.agg [G x1.at_,G x1.list_,G x1.by_]] ++ q1C) (G r)) (hrec : ∀ (o : List qg) (s : Int) (t : Int) (u : Int) (r : List qg),rec o s t u = some r→Qr Tryz.prog tab 187 [.hs 0 3 0 o.length,q6 s,q6 t,q6 u,.d (.fn q1F q1C)] [(0,.dat 3 (o.map Q0))] 1 (.d (.tup [])) [(0,.dat 3 (r.map Q0))] 1) (o : List qg) (s : Int) (t : Int) (u : Int) (r : List qg) (v : q5w rec j o s t u = some r) : Qr Tryz.prog tab 187 [.hs 0 3 0 o.length,q6 s,q6 t,q6 u,.d (.fn q1F q1C)] [(0,.dat 3 (o.map Q0))] 1 (.d (.tup [])) [(0,.dat 3 (r.map Q0))] 1:=by
 unfold q5w at v
 refine Qy Tryz.func187 J (by kernel_rfl) (by kernel_rfl) J<|qb<|qa J<|qo<|qa J<|q8 ?_
 obtain ⟨bi,bj,v⟩:=q7 v
 refine qu<|Q6 (q5v j rec) (fun (a : Int × Int × Int × Bool × Bool × List qg)=>⟨[(0,.hs 0 3 0 a.2.2.2.2.2.length),(1,q6 a.1),(2,q6 a.2.1),(3,q6 a.2.2.1),(4,.d (.fn q1F q1C)),(10,qd a.2.2.2.1),(11,qd a.2.2.2.2.1)],[(0,.dat 3 (a.2.2.2.2.2.map Q0))],1⟩) (s,t,u,true,true,o) bi bj (wkA [] [] []) ?_
 intro a cs b
 unfold q5v at b
 refine qu<|qb<|U J<|U J<|O (.d (G (w64 (a.2.1 - a.1)))) J<|qa J<|q8<|qe<|qb<|U J<|O (.d (.bool (decide ((w64 (a.2.1 - a.1))≤12)))) J<|q8 ?_
 refine qk J b (fun _ b=>?_) (fun _ b=>?_)
 ·refine qb<|U J<|U J<|U J<|U J ?_
  obtain ⟨ah,bk,b⟩:=q7 b
  obtain ⟨ct,bl,b⟩:=q7 b
  have cu:=K6 bl
  refine Qs [(0,0)] [(0,0)] [.hs 0 3 0 a.2.2.2.2.2.length,q6 a.1,q6 a.2.1,.d (.fn q1F q1C)] (.d (.tup [])) 1 [(0,.dat 3 (ah.map Q0))] 1 (quq j q1F q1C q1Ok a.2.2.2.2.2 a.1 a.2.1 ah bk)<|qp ?_
  refine ⟨_,(Option.some.inj b).symm,fun hm=>?_⟩
  subst hm
  obtain rfl:=qc v
  exact ⟨.inr J,_,J,wkA [] [] []⟩
 refine ql<|qe<|qb<|U J<|O (qd (a.2.2.1 == 0)) J<|q8 ?_
 refine qk J b (fun _ b=>?_) (fun _ b=>?_)
 ·refine qb<|U J<|U J<|U J<|U J ?_
  obtain ⟨ai,bm,b⟩:=q7 b
  obtain ⟨cv,bn,b⟩:=q7 b
  have cw:=K6 bn
  refine Qs [(0,0)] [(0,0)] [.hs 0 3 0 a.2.2.2.2.2.length,q6 a.1,q6 a.2.1,.d (.fn q1F q1C)] (.d (.tup [])) 1 [(0,.dat 3 (ai.map Q0))] 1 (qun j q1F q1C q1Ok a.2.2.2.2.2 a.1 a.2.1 ai bm)<|qp ?_
  refine ⟨_,(Option.some.inj b).symm,fun hm=>?_⟩
  subst hm
  obtain rfl:=qc v
  exact ⟨.inr J,_,J,wkA [] [] []⟩
 refine ql<|qe<|qb<|U J<|O (qd (!a.2.2.2.1)) J<|q8 ?_
 obtain ⟨bo,m,b⟩:=q7 b
 refine Y6 (fun f=>f = bo) (fun (f : Int × List qg)=>⟨[(0,.hs 0 3 0 f.2.length),(1,q6 a.1),(2,q6 a.2.1),(3,q6 f.1),(4,.d (.fn q1F q1C)),(10,qd a.2.2.2.1),(11,qd a.2.2.2.2.1),(12,.d (G (w64 (a.2.1 - a.1))))],[(0,.dat 3 (f.2.map Q0))],1⟩) (by simp) ?_ ?_
 ·refine qk J m (fun _ m=>?_) (fun _ m=>?_)
  ·refine qb<|U J<|U J<|U J<|U J ?_
   obtain ⟨aj,bp,m⟩:=q7 m
   obtain ⟨cx,bq,m⟩:=q7 m
   have br:=K6 bq
   refine Qs [(0,0)] [(0,0)] [.hs 0 3 0 a.2.2.2.2.2.length,q6 a.1,q6 a.2.1,.d (.fn q1F q1C)] (.d (.tup [])) 1 [(0,.dat 3 (aj.map Q0))] 1 (quj j q1F q1C q1Ok a.2.2.2.2.2 a.1 a.2.1 aj bp)<|q8<|qs<|U J<|O (.d (G (w64 (a.2.2.1 - 1)))) J<|qa J<|qr ?_
   obtain rfl:=qc m
   exact ⟨_,J,wkE [] [] [] J ⟨⟨_,J,Qq (by simp [br]) J (by decide) (ltd J)⟩,⟨_,J,.d (.refl _)⟩,⟨_,J,.d (.refl _)⟩,⟨_,J,.d (.refl _)⟩,⟨_,J,.d (.refl _)⟩,⟨_,J,.d (.refl _)⟩,⟨_,J,.d (.refl _)⟩,⟨_,J,.d (.refl _)⟩,trivial⟩ ⟨⟨ltd J,.inr ⟨by decide,_,J,.dat _ _⟩⟩,trivial⟩⟩
  refine ql<|Q7 ?_
  obtain rfl:=qc m
  exact ⟨_,J,wkA [] [] []⟩
 intro f hb
 subst hb
 refine qb<|U J<|U J<|U J<|U J ?_
 obtain ⟨w,bs,b⟩:=q7 b
 refine q72 [.hs 0 3 0 f.2.length,q6 a.1,q6 a.2.1,.d (.fn q1F q1C)] (qul f.2 a.1 a.2.1 j q1F q1C q1Ok w bs) J J (J4 (Zo J J) (J4 J (J4 J (J4 J J)))) (.inr J)<|U J<|O (q6 w.1) J<|O (q6 w.2) J<|qa J<|qa J<|q8<|qe<|qb<|U J<|O (qd (w.2 == 2)) J<|q8 ?_
 obtain ⟨bt,n,b⟩:=q7 b
 refine Y6 (fun g=>g = bt) (fun (g : Int × Int × List qg)=>⟨[(0,.hs 0 3 0 g.2.2.length),(1,q6 a.1),(2,q6 a.2.1),(3,q6 f.1),(4,.d (.fn q1F q1C)),(10,qd a.2.2.2.1),(11,qd a.2.2.2.2.1),(12,.d (G (w64 (a.2.1 - a.1)))),(13,q6 g.1),(14,q6 g.2.1)],[(0,.dat 3 (g.2.2.map Q0))],1⟩) (by simp) ?_ ?_
 ·refine qk J n (fun _ n=>?_) (fun _ n=>?_)
  ·refine qb<|U J<|U J<|U J<|U J ?_
   obtain ⟨ak,bu,n⟩:=q7 n
   obtain ⟨cy,bv,n⟩:=q7 n
   have bw:=K6 bv
   refine Qs [(0,0)] [(0,0)] [.hs 0 3 0 f.2.length,q6 a.1,q6 a.2.1,.d (.fn q1F q1C)] (.d (.tup [])) 1 [(0,.dat 3 (ak.map Q0))] 1 (qv2 j q1F q1C q1Ok f.2 a.1 a.2.1 ak bu)<|qo<|U J<|O (.d (G (w64 (a.2.1 - 1)))) J<|U J<|U J<|O (.d (G (w64 (w.1 - a.1)))) J<|O (.d (G (w64 ((w64 (a.2.1 - 1)) - (w64 (w.1 - a.1)))))) J<|qa J<|q8<|qs<|qa J<|qr ?_
   obtain rfl:=qc n
   exact ⟨_,J,wkE [] [] [] J ⟨⟨_,J,Qq (by simp [bw]) J (by decide) (ltd J)⟩,⟨_,J,.d (.refl _)⟩,⟨_,J,.d (.refl _)⟩,⟨_,J,.d (.refl _)⟩,⟨_,J,.d (.refl _)⟩,⟨_,J,.d (.refl _)⟩,⟨_,J,.d (.refl _)⟩,⟨_,J,.d (.refl _)⟩,⟨_,J,.d (.refl _)⟩,⟨_,J,.d (.refl _)⟩,trivial⟩ ⟨⟨ltd J,.inr ⟨by decide,_,J,.dat _ _⟩⟩,trivial⟩⟩
  refine ql<|Q7 ?_
  obtain rfl:=qc n
  exact ⟨_,J,wkA [] [] []⟩
 intro g hb
 subst hb
 refine qe<|qb<|U J ?_
 obtain ⟨bz,x,b⟩:=q7 b
 refine qy 3 (fun A st=>∃ (al am : V),st = A [(71,qd bz),(70,am),(69,al)]) ?_ ?_
 ·refine qw J J x (fun x=>?_) (fun x=>?_)
  ·refine U J<|O (qd a.2.2.2.2.1) J<|q8 ?_
   obtain rfl:=qc x
   exact ⟨_,_,J⟩
  refine q9 J<|O (qd false) J<|q8 ?_
  obtain rfl:=qc x
  exact ⟨_,_,J⟩
 rintro _ ⟨al,am,rfl⟩
 obtain ⟨ca,y,b⟩:=q7 b
 refine qy 4 (fun A st=>∃ (an ao ap : V),st = A [(75,qd ca),(74,ap),(73,ao),(72,an)]) ?_ ?_
 ·refine qw J J y (fun y=>?_) (fun y=>?_)
  ·refine U J<|O (qd (g.2.1 == 1)) J<|O (qd (g.2.1 == 1)) J<|q8 ?_
   obtain rfl:=qc y
   exact ⟨_,_,_,J⟩
  refine q9 J<|q9 J<|O (qd false) J<|q8 ?_
  obtain rfl:=qc y
  exact ⟨_,_,_,J⟩
 rintro _ ⟨an,ao,ap,rfl⟩
 refine q8 ?_
 obtain ⟨cb,h,b⟩:=q7 b
 refine Y6 (fun k=>.inl k = cb) (fun (k : List qg)=>⟨[(0,.hs 0 3 0 k.length),(1,q6 a.1),(2,q6 a.2.1),(3,q6 f.1),(4,.d (.fn q1F q1C)),(10,qd a.2.2.2.1),(11,qd a.2.2.2.2.1),(12,.d (G (w64 (a.2.1 - a.1)))),(13,q6 g.1)],[(0,.dat 3 (k.map Q0))],1⟩) (by simp) ?_ ?_
 ·refine qk J h (fun _ h=>?_) (fun _ h=>?_)
  ·refine qb<|U J<|U J<|U J<|U J ?_
   obtain ⟨ad,cc,h⟩:=q7 h
   obtain ⟨cz,cd,h⟩:=q7 h
   have ce:=K6 cd
   refine Qs [(0,0)] [(0,0)] [.hs 0 3 0 g.2.2.length,q6 a.1,q6 a.2.1,.d (.fn q1F q1C)] (qd ad.1) 1 [(0,.dat 3 (ad.2.map Q0))] 1 (qus j q1F q1C q1Ok g.2.2 a.1 a.2.1 ad cc)<|q8 ?_
   refine qk J h (fun _ h=>?_) (fun _ h=>?_)
   ·refine q3d ?_
    obtain rfl:=qc h
    refine ⟨_,(Option.some.inj b).symm,fun hm=>?_⟩
    subst hm
    obtain rfl:=qc v
    exact ⟨.inr J,_,J,wkA [] [] []⟩
   refine ql<|Q7 ?_
   obtain rfl:=qc h
   exact ⟨_,J,wkE [] [] [] J ⟨⟨_,J,Qq (by simp [ce]) J (by decide) (ltd J)⟩,⟨_,J,.d (.refl _)⟩,⟨_,J,.d (.refl _)⟩,⟨_,J,.d (.refl _)⟩,⟨_,J,.d (.refl _)⟩,⟨_,J,.d (.refl _)⟩,⟨_,J,.d (.refl _)⟩,⟨_,J,.d (.refl _)⟩,⟨_,J,.d (.refl _)⟩,trivial⟩ ⟨⟨ltd J,.inr ⟨by decide,_,J,.dat _ _⟩⟩,trivial⟩⟩
  refine ql<|Q7 ?_
  obtain rfl:=qc h
  exact ⟨_,J,wkA [] [] []⟩
 intro k hb
 subst hb
 refine qe<|qe<|Q4 [q0,q0,q0,q0,qn 0,q0,q0,q0,qn 0,q0,q0,q0,q0,q0,q0,q0,q0] (by kernel_rfl)<|U J<|O (.d (.bool (decide (a.1 > 0)))) J ?_
 obtain ⟨cf,l,b⟩:=q7 b
 refine qy 15 (fun A st=>∃ (aq ar au av aw ax ay az ba bb bc bd be bf : V),st = A [(97,qd cf),(96,bf),(95,be),(94,bd),(93,bc),(92,bb),(91,ba),(90,az),(89,ay),(88,ax),(87,aw),(86,av),(85,au),(84,ar),(83,aq)]) ?_ ?_
 ·refine qw J J l (fun l=>?_) (fun l=>?_)
  ·refine U J<|U J<|U J<|O (.d (G (w64 (a.1 - 1)))) J ?_
   obtain ⟨p,bg,l⟩:=q7 l
   refine qq bg J J<|qx (.d (.agg [G p.at_,G p.list_,G p.by_])) bg J<|U J<|U J ?_
   obtain ⟨q,bh,l⟩:=q7 l
   refine qq bh J J<|qx (.d (.agg [G q.at_,G q.list_,G q.by_])) bh J ?_
   obtain ⟨ab,cg,l⟩:=q7 l
   refine Y5 [.d (.agg [G p.at_,G p.list_,G p.by_]),.d (.agg [G q.at_,G q.list_,G q.by_])] (q1Ok p q ab cg) J J J (.inl J)<|O (.d (.bool (decide (ab < 0)))) J<|O (.d (.bool (!(decide (ab < 0))))) J<|O (.d (.bool (!(decide (ab < 0))))) J<|q8 ?_
   obtain rfl:=qc l
   exact ⟨_,_,_,_,_,_,_,_,_,_,_,_,_,_,J⟩
  refine q9 J<|q9 J<|q9 J<|q9 J<|q9 J<|q9 J<|q9 J<|q9 J<|q9 J<|q9 J<|q9 J<|q9 J<|q9 J<|O (qd false) J<|q8 ?_
  obtain rfl:=qc l
  exact ⟨_,_,_,_,_,_,_,_,_,_,_,_,_,_,J⟩
 rintro _ ⟨aq,ar,au,av,aw,ax,ay,az,ba,bb,bc,bd,be,bf,rfl⟩
 refine q8 ?_
 refine qk J b (fun _ b=>?_) (fun _ b=>?_)
 ·refine qb<|U J<|U J<|U J<|U J<|U J ?_
  obtain ⟨ae,ch,b⟩:=q7 b
  obtain ⟨da,ci,b⟩:=q7 b
  have cj:=K6 ci
  refine Qs [(0,0)] [(0,0)] [.hs 0 3 0 k.length,q6 a.1,q6 a.2.1,q6 g.1,.d (.fn q1F q1C)] (q6 ae.1) 1 [(0,.dat 3 (ae.2.map Q0))] 1 (quv j q1F q1C q1Ok k a.1 a.2.1 g.1 ae ch)<|qa J<|qo<|U J<|qa J<|q8<|Q1<|q2h<|Q7 ?_
  exact ⟨_,(Option.some.inj b).symm,wkE [] [] [] J ⟨⟨_,J,Qq (by simp [cj]) J (by decide) (ltd J)⟩,⟨_,J,.d (.refl _)⟩,⟨_,J,.d (.refl _)⟩,⟨_,J,.d (.refl _)⟩,⟨_,J,.d (.refl _)⟩,⟨_,J,.d (.refl _)⟩,⟨_,J,.d (.refl _)⟩,trivial⟩ ⟨⟨ltd J,.inr ⟨by decide,_,J,.dat _ _⟩⟩,trivial⟩⟩
 refine ql<|qb<|U J<|U J<|U J<|U J<|U J ?_
 obtain ⟨c,ck,b⟩:=q7 b
 obtain ⟨dc,cl,b⟩:=q7 b
 have ac:=K6 cl
 refine Qs [(0,0)] [(0,0)] [.hs 0 3 0 k.length,q6 a.1,q6 a.2.1,q6 g.1,.d (.fn q1F q1C)] (.d (.tup [G c.1,.bool c.2.1])) 1 [(0,.dat 3 (c.2.2.map Q0))] 1 (quu j q1F q1C q1Ok k a.1 a.2.1 g.1 c ck)<|U J<|O (q6 c.1) J<|O (qd c.2.1) J<|qa J<|qa J<|qo<|U J<|qa J<|qo<|U J<|U J<|O (.d (G (w64 (c.1 - a.1)))) J<|U J<|U J<|O (.d (G (w64 (a.2.1 - c.1)))) J<|qa J<|qa J<|qo<|U J<|O (.d (G (w64 (Int.tdiv (w64 (a.2.1 - a.1)) 8)))) J<|qa J<|qo<|U J<|U J<|O (.d (.bool (decide ((w64 (c.1 - a.1)) < (w64 (a.2.1 - c.1)))))) J<|q8 ?_
 refine qk J b (fun _ b=>?_) (fun _ b=>?_)
 ·refine qb<|U J<|U J<|O (.d (.bool (decide ((w64 (c.1 - a.1)) ≥ (w64 (Int.tdiv (w64 (a.2.1 - a.1)) 8)))))) J<|qa J<|qo<|U J<|U J<|U J<|U J<|U J ?_
  obtain ⟨af,cm,b⟩:=q7 b
  obtain ⟨dd,cn,b⟩:=q7 b
  have co:=K6 cn
  refine Jz [(0,0)] [(0,0)] [.hs 0 3 0 k.length,q6 a.1,q6 c.1,q6 f.1,.d (.fn q1F q1C)] (.d (.tup [])) [(0,.dat 3 (af.map Q0))] [(0,.dat 3 (af.map Q0))] 1 (hrec c.2.2 a.1 c.1 f.1 af cm) J J J (Y8 [(0,0)] [] [] J ⟨⟨_,J,Qq (by simp [ac]) J (by decide) (ltd J)⟩,⟨_,J,.d (.refl _)⟩,⟨_,J,.d (.refl _)⟩,⟨_,J,.d (.refl _)⟩,⟨_,J,.d (.refl _)⟩,trivial⟩ ⟨⟨ltd J,.inr ⟨by decide,_,J,.dat _ _⟩⟩,trivial⟩) (Y8 [(0,0)] [] [] J ⟨⟨_,J,.d (.refl _)⟩,trivial⟩ ⟨⟨ltd J,.inr ⟨by decide,_,J,.dat _ _⟩⟩,trivial⟩) J ⟨.inl J,trivial⟩<|q8<|qs<|U J<|O (.d (G (w64 (c.1 + 1)))) J<|qa J<|qr<|Q8<|Q7 ?_
  exact ⟨_,(Option.some.inj b).symm,wkE [] [] [] J ⟨⟨_,J,Qq (by simp [ac,co]) J (by decide) (ltd J)⟩,⟨_,J,.d (.refl _)⟩,⟨_,J,.d (.refl _)⟩,⟨_,J,.d (.refl _)⟩,⟨_,J,.d (.refl _)⟩,⟨_,J,.d (.refl _)⟩,⟨_,J,.d (.refl _)⟩,trivial⟩ ⟨⟨ltd J,.inr ⟨by decide,_,J,.dat _ _⟩⟩,trivial⟩⟩
 refine qb<|U J<|U J<|O (.d (.bool (decide ((w64 (a.2.1 - c.1)) ≥ (w64 (Int.tdiv (w64 (a.2.1 - a.1)) 8)))))) J<|qa J<|qo<|U J<|U J<|O (.d (G (w64 (c.1 + 1)))) J<|U J<|U J<|U J ?_
 obtain ⟨ag,cp,b⟩:=q7 b
 obtain ⟨de,cq,b⟩:=q7 b
 have cr:=K6 cq
 refine Jz [(0,0)] [(0,0)] [.hs 0 3 0 k.length,.d (G (w64 (c.1 + 1))),q6 a.2.1,q6 f.1,.d (.fn q1F q1C)] (.d (.tup [])) [(0,.dat 3 (ag.map Q0))] [(0,.dat 3 (ag.map Q0))] 1 (hrec c.2.2 (w64 (c.1 + 1)) a.2.1 f.1 ag cp) J J J (Y8 [(0,0)] [] [] J ⟨⟨_,J,Qq (by simp [ac]) J (by decide) (ltd J)⟩,⟨_,J,.d (.refl _)⟩,⟨_,J,.d (.refl _)⟩,⟨_,J,.d (.refl _)⟩,⟨_,J,.d (.refl _)⟩,trivial⟩ ⟨⟨ltd J,.inr ⟨by decide,_,J,.dat _ _⟩⟩,trivial⟩) (Y8 [(0,0)] [] [] J ⟨⟨_,J,.d (.refl _)⟩,trivial⟩ ⟨⟨ltd J,.inr ⟨by decide,_,J,.dat _ _⟩⟩,trivial⟩) J ⟨.inl J,trivial⟩<|q8<|qs<|U J<|qa J<|qr<|Q8<|Q7 ?_
 exact ⟨_,(Option.some.inj b).symm,wkE [] [] [] J ⟨⟨_,J,Qq (by simp [ac,cr]) J (by decide) (ltd J)⟩,⟨_,J,.d (.refl _)⟩,⟨_,J,.d (.refl _)⟩,⟨_,J,.d (.refl _)⟩,⟨_,J,.d (.refl _)⟩,⟨_,J,.d (.refl _)⟩,⟨_,J,.d (.refl _)⟩,trivial⟩ ⟨⟨ltd J,.inr ⟨by decide,_,J,.dat _ _⟩⟩,trivial⟩⟩
theorem quz (n : Nat) (g : qg→qg→Option Int) (q1F : FuncId) (q1C : List DV) (q1Ok : ∀ (h : qg) (j : qg) (r : Int),g h j = some r→Pure Tryz.prog tab q1F ([.agg [G h.at_,G h.list_,G h.by_],.agg [G j.at_,G j.list_,G j.by_]] ++ q1C) (G r)) : ∀ (a : List qg) (b : Int) (c : Int) (f : Int) (r : List qg),q5u n g a b c f = some r→Qr Tryz.prog tab 187 [.hs 0 3 0 a.length,q6 b,q6 c,q6 f,.d (.fn q1F q1C)] [(0,.dat 3 (a.map Q0))] 1 (.d (.tup [])) [(0,.dat 3 (r.map Q0))] 1:=by
 induction n with
 | zero=>intro a b c f r k;cases k
 | succ n ih=>intro a b c f r k;exact quy (q5u n g) g q1F q1C q1Ok ih a b c f r k
theorem quh (g : qg→qg→Option Int) (q1F : FuncId) (q1C : List DV) (q1Ok : ∀ (c : qg) (f : qg) (r : Int),g c f = some r→Pure Tryz.prog tab q1F ([.agg [G c.at_,G c.list_,G c.by_],.agg [G f.at_,G f.list_,G f.by_]] ++ q1C) (G r)) (a : List qg) (r : List qg) (b : q55 g a = some r) : Qr Tryz.prog tab 170 [.hs 0 3 0 a.length,.d (.fn q1F q1C)] [(0,.dat 3 (a.map Q0))] 1 (.d (.tup [])) [(0,.dat 3 (r.map Q0))] 1:=by
 unfold q55 at b
 refine Qy Tryz.func170 J (by kernel_rfl) (by kernel_rfl) J<|qb<|U J<|O (q6 (a.length : Int)) J<|qa J<|q8<|qs<|U J<|U J<|U J<|O (.d (.int .u64 (IntKind.wrap .u64 (a.length : Int)))) J ?_
 obtain ⟨h,l,b⟩:=q7 b
 refine qt (qd0 (IntKind.wrap .u64 (a.length : Int)) h l) J<|U J ?_
 obtain ⟨k,j,b⟩:=q7 b
 obtain ⟨o,m,b⟩:=q7 b
 have p:=K6 m
 obtain ⟨n,j⟩:=qcy j
 refine Qs [(0,0)] [(0,0)] [.hs 0 3 0 a.length,q6 0,q6 (a.length : Int),q6 h,.d (.fn q1F q1C)] (.d (.tup [])) 1 [(0,.dat 3 (k.map Q0))] 1 (quz n g q1F q1C q1Ok a 0 (a.length : Int) h k j)<|qr ?_
 obtain rfl:=qc b
 exact ⟨.inl J,_,J,wkA [] [] []⟩
theorem qui (a : List qg) (r : List qg) (b : qb0  a = some r) : Qr Tryz.prog tab 172 [.hs 0 3 0 a.length] [(0,.dat 3 (a.map Q0))] 1 (.fn 188 [.ref 1 1 0 0]) [(0,.dat 3 (r.map Q0)),(1,.cel 1 [[.hs 0 3 0 r.length]])] 2:=by
 unfold qb0 at b
 refine Qy Tryz.func172 J (by kernel_rfl) (by kernel_rfl) J<|qb<|Qh (.ref 1 1 0 0) (.cel 1 [[.hs 0 3 0 a.length]]) J<|qa J<|qo<|O (.fn 188 [.ref 1 1 0 0]) J<|qa J<|qp ?_
 obtain rfl:=qc b
 exact ⟨.inr J,_,J,wkA [(1,1)] [] []⟩
theorem qxs (b : List (List qi)) (r : List (List qi) × List qg) (f : q8v  b = some r) : Qr Tryz.prog tab 154 [.hs 0 1 0 b.length] [(0,.dat 1 (b.map Jk))] 1 (.fn 188 [.ref 1 1 0 0]) [(0,.dat 1 (r.1.map Jk)),(1,.cel 1 [[.hs 2 3 0 r.2.length]]),(2,.dat 3 (r.2.map Q0))] 3:=by
 unfold q8v at f
 refine Qy Tryz.func154 J (by kernel_rfl) (by kernel_rfl) J<|qb<|qa J<|qo<|qa J<|q8<|qe<|qb<|U J<|O (q6 (b.length : Int)) J<|U J<|q8 ?_
 obtain ⟨t,v,f⟩:=q7 f
 refine Qd (fun h=>h = t) (fun (h : List qg)=>⟨[(3,.hs 1 3 0 h.length)],[(0,.dat 1 (b.map Jk)),(1,.dat 3 (h.map Q0))],2⟩) (by simp) ?_ ?_
 ·refine Q6 (U5 b) (fun (a : Int × List qg)=>⟨[(3,.hs 1 3 0 a.2.length),(8,.hs 0 1 0 b.length),(9,q6 (b.length : Int)),(10,q6 a.1)],[(0,.dat 1 (b.map Jk)),(1,.dat 3 (a.2.map Q0))],2⟩) (0,[]) t v (wkA [] [] [1]) ?_
  intro a ag j
  unfold U5 at j
  refine qb<|O (.d (.bool (decide (a.1 < (b.length : Int))))) J<|q8<|qe ?_
  refine qk J j (fun _ j=>?_) (fun _ j=>?_)
  ·refine ql<|qe ?_
   obtain ⟨w,l,j⟩:=q7 j
   refine Qd (fun m=>m = w) (fun (m : List qg)=>⟨[(3,.hs 1 3 0 m.length),(8,.hs 0 1 0 b.length),(9,q6 (b.length : Int)),(10,q6 a.1)],[(0,.dat 1 (b.map Jk)),(1,.dat 3 (m.map Q0))],2⟩) (by simp) ?_ ?_
   ·refine qb<|U J ?_
    obtain ⟨n,u,l⟩:=q7 l
    refine qq u J J<|qx (.d (.sl 2 (n.map Q5))) u J<|qa J<|qa J<|qo<|U J<|Qk J<|U J<|q8 ?_
    obtain ⟨x,y,l⟩:=q7 l
    refine qu<|Q6 (q3t n a) (fun (k : Int × List qg)=>⟨[(3,.hs 1 3 0 k.2.length),(4,q6 a.1),(8,.hs 0 1 0 b.length),(9,q6 (b.length : Int)),(10,q6 a.1),(15,.d (.sl 2 (n.map Q5))),(16,q6 (n.length : Int)),(17,q6 k.1)],[(0,.dat 1 (b.map Jk)),(1,.dat 3 (k.2.map Q0))],2⟩) (0,a.2) x y (wkA [(1,1)] [] []) ?_
    intro k ah g
    unfold q3t at g
    refine qb<|O (.d (.bool (decide (k.1 < (n.length : Int))))) J<|q8<|qe ?_
    refine qk J g (fun _ g=>?_) (fun _ g=>?_)
    ·refine ql<|qe<|qu<|qb ?_
     obtain ⟨c,z,g⟩:=q7 g
     refine Qc (enc:=Q5) z J<|O (.d (.agg [G c.Lo,G c.Hi])) J<|Qp J J<|Q3 2 (.dat 2 [[G c.Lo,G c.Hi]]) J<|q8<|qs<|U J<|O (.ref 2 2 0 0) J<|O (q6 c.Lo) J<|U J<|O (.d (.agg [G c.Lo,G a.1,G 1])) J<|O (.ref 2 2 0 1) J<|O (q6 c.Hi) J<|U J<|O (.d (.agg [G c.Hi,G a.1,G (-1)])) J<|Qh (.hs 3 3 0 [({at_:=c.Lo,list_:=a.1,by_:=1} : qg),({at_:=c.Hi,list_:=a.1,by_:=(-1)} : qg)].length) (.dat 3 ([({at_:=c.Lo,list_:=a.1,by_:=1} : qg),({at_:=c.Hi,list_:=a.1,by_:=(-1)} : qg)].map Q0)) J ?_
     obtain ⟨ai,aa,g⟩:=q7 g
     refine Y2 (xs:=k.2) (ys:=[({at_:=c.Lo,list_:=a.1,by_:=1} : qg),({at_:=c.Hi,list_:=a.1,by_:=(-1)} : qg)]) (enc:=Q0) (.hs 3 3 0 [({at_:=c.Lo,list_:=a.1,by_:=1} : qg),({at_:=c.Hi,list_:=a.1,by_:=(-1)} : qg)].length) aa J J J J J J J (Kz J J) J J J J<|qa J<|qr<|Q8<|qs<|O (.d (G (w64 (k.1 + 1)))) J<|U J<|qr ?_
     exact ⟨_,(Option.some.inj g).symm,wkA [(1,4)] [] []⟩
    refine Q1 ?_
    refine ⟨_,(Option.some.inj g).symm,fun hm=>?_⟩
    subst hm
    obtain rfl:=qc l
    exact ⟨_,J,wkA [(1,1)] [] []⟩
   intro m hb
   subst hb
   refine qs<|O (.d (G (w64 (a.1 + 1)))) J<|U J<|qr ?_
   exact ⟨_,(Option.some.inj j).symm,wkA [(1,1)] [] []⟩
  refine Q1 ?_
  refine ⟨_,(Option.some.inj j).symm,fun hm=>?_⟩
  subst hm
  exact ⟨_,J,wkA [(1,1)] [] []⟩
 intro h hb
 subst hb
 refine qb<|U J ?_
 obtain ⟨p,ab,f⟩:=q7 f
 obtain ⟨aj,ac,f⟩:=q7 f
 have ad:=K6 ac
 refine Qs [(0,1)] [(0,1),(1,0)] [.hs 1 3 0 h.length,.d (.fn 171 [])] (.d (.tup [])) 1 [(1,.dat 3 (p.map Q0)),(0,.dat 1 (b.map Jk))] 2 (quh (fun q s=>q8u q s) 171 [] (fun q s r hr=>qxr q s r hr) h p ab)<|qo<|U J ?_
 obtain ⟨o,ae,f⟩:=q7 f
 obtain ⟨ak,af,f⟩:=q7 f
 have al:=K6 af
 refine Jz [(0,1)] [(0,2),(1,0),(2,1)] [.hs 1 3 0 h.length] (.fn 188 [.ref 2 1 0 0]) [(1,.dat 3 (o.map Q0)),(2,.cel 1 [[.hs 1 3 0 o.length]])] [(1,.dat 3 (o.map Q0)),(2,.cel 1 [[.hs 1 3 0 o.length]]),(0,.dat 1 (b.map Jk))] 3 (qui p o ae) J J J (Y8 [(0,1)] [] [] J ⟨⟨_,J,Qq (by simp [ad]) J (by decide) (ltd J)⟩,trivial⟩ ⟨⟨ltd J,.inr ⟨by decide,_,J,.dat _ _⟩⟩,trivial⟩) (Y8 [(0,2),(1,0),(2,1)] [] [] J ⟨⟨_,J,(q3y (.cons (.ref J (by decide) (ltd J)) .nil))⟩,trivial⟩ ⟨⟨ltd J,.inr ⟨by decide,_,J,.dat _ _⟩⟩,⟨ltd J,.inr ⟨by decide,_,J,Jh (.cons (.hs J (by decide) (ltd J)) J .nil)⟩⟩,trivial⟩) J ⟨.inl J,.inl J,.inr ⟨J,J⟩,trivial⟩<|qa J<|qp ?_
 obtain rfl:=qc f
 exact ⟨.inr J,_,J,wkA [(1,2),(2,1)] [] []⟩
theorem qxt (f : Int) (j : Bool) (b : Int) (c : List qi) (r : Bool × Int × List qi) (a : q8w  f j b c = some r) : Qr Tryz.prog tab 153 [q6 f,.ref 0 1 0 0,.ref 1 1 0 0,.ref 2 1 0 0] [(0,.dat 1 [[.bool j]]),(1,.dat 1 [[G b]]),(2,.cel 1 [[.hs 3 2 0 c.length]]),(3,.dat 2 (c.map Q5))] 4 (.d (.tup [])) [(0,.dat 1 [[.bool r.1]]),(1,.dat 1 [[G r.2.1]]),(2,.cel 1 [[.hs 4 2 0 r.2.2.length]]),(4,.dat 2 (r.2.2.map Q5))] 5:=by
 unfold q8w at a
 refine Qy Tryz.func153 J (by kernel_rfl) (by kernel_rfl) J<|qe<|qb<|O (qd j) J<|O (qd (!j)) J ?_
 obtain ⟨ab,h,a⟩:=q7 a
 refine qy 5 (fun A st=>∃ (l m n o : V),st = A [(12,qd ab),(11,o),(10,n),(9,m),(8,l)]) ?_ ?_
 ·refine qw J J h (fun h=>?_) (fun h=>?_)
  ·refine q9 J<|q9 J<|q9 J<|O (qd true) J<|q8 ?_
   obtain rfl:=qc h
   exact ⟨_,_,_,_,J⟩
  refine O (q6 b) J<|U J<|O (qd (b == f)) J<|O (qd (b == f)) J<|q8 ?_
  obtain rfl:=qc h
  exact ⟨_,_,_,_,J⟩
 rintro _ ⟨l,m,n,o,rfl⟩
 refine q8 ?_
 refine qk J a (fun _ a=>?_) (fun _ a=>?_)
 ·refine q3d ?_
  obtain rfl:=qc a
  exact ⟨.inr J,_,J,wkA [(4,3)] [] []⟩
 refine ql<|qb<|O (.hs 3 2 0 c.length) J<|O (q6 (c.length : Int)) J<|qa J<|q8<|qe<|Q4 [q0,q0,qn 1,qn 3,q0,q0,q0,q0,qn 2,q0,q0,q0] (by kernel_rfl)<|U J<|O (.d (.bool (decide ((c.length : Int) > 0)))) J ?_
 obtain ⟨ac,g,a⟩:=q7 a
 refine qy 10 (fun A st=>∃ (p q s t u v w x y : V),st = A [(26,qd ac),(25,y),(24,x),(23,w),(22,v),(21,u),(20,t),(19,s),(18,q),(17,p)]) ?_ ?_
 ·refine qw J J g (fun g=>?_) (fun g=>?_)
  ·refine O (.hs 3 2 0 c.length) J<|U J<|O (.d (G (w64 ((c.length : Int) - 1)))) J ?_
   obtain ⟨k,z,g⟩:=q7 g
   refine qq z J J<|O (.ref 3 2 (w64 ((c.length : Int) - 1)).toNat 1) J<|qx (q6 k.Hi) z J<|O (q6 b) J<|O (qd (k.Hi == b)) J<|O (qd (k.Hi == b)) J<|q8 ?_
   obtain rfl:=qc g
   exact ⟨_,_,_,_,_,_,_,_,_,J⟩
  refine q9 J<|q9 J<|q9 J<|q9 J<|q9 J<|q9 J<|q9 J<|q9 J<|O (qd false) J<|q8 ?_
  obtain rfl:=qc g
  exact ⟨_,_,_,_,_,_,_,_,_,J⟩
 rintro _ ⟨p,q,s,t,u,v,w,x,y,rfl⟩
 refine q8 ?_
 refine qk J a (fun _ a=>?_) (fun _ a=>?_)
 ·refine qs<|O (.hs 3 2 0 c.length) J<|U J<|O (.d (G (w64 ((c.length : Int) - 1)))) J<|U J ?_
  obtain ⟨ad,aa,a⟩:=q7 a
  refine qq aa J J<|O (.ref 3 2 (w64 ((c.length : Int) - 1)).toNat 1) J<|Qi (ds:=[G f]) ({Lo:=ad.Lo,Hi:=f} : qi) aa J J J J J J J J (leb J) J<|qr ?_
  obtain rfl:=qc a
  exact ⟨.inl J,_,J,wkE [(4,3)] [] [] J ⟨⟨_,J,.d (.refl _)⟩,trivial⟩ ⟨⟨ltd J,.inr ⟨by decide,_,J,.dat _ _⟩⟩,⟨ltd J,.inr ⟨by decide,_,J,.dat _ _⟩⟩,⟨ltd J,.inr ⟨by decide,_,J,Jh (.cons (Qq (by simp) J (by decide) (ltd J)) J .nil)⟩⟩,⟨ltd J,.inr ⟨by decide,_,J,.dat _ _⟩⟩,trivial⟩⟩
 refine qs<|O (.hs 3 2 0 c.length) J<|O (q6 b) J<|U J<|O (.d (.agg [G b,G f])) J<|Qh (.hs 4 2 0 [({Lo:=b,Hi:=f} : qi)].length) (.dat 2 ([({Lo:=b,Hi:=f} : qi)].map Q5)) J ?_
 obtain ⟨ae,af,a⟩:=q7 a
 refine Y2 (xs:=c) (ys:=[({Lo:=b,Hi:=f} : qi)]) (enc:=Q5) (.hs 4 2 0 [({Lo:=b,Hi:=f} : qi)].length) af J J J J J J J (Kz J J) J J J J<|Q3 2 (.cel 1 [[.hs 5 2 0 ae.length]]) J<|qr ?_
 obtain rfl:=qc a
 exact ⟨.inl J,_,J,wkA [(4,5)] [] []⟩
theorem qxu (l : List qi) (m : List qi) (q : Bool→Bool→Option Bool) (p2F : FuncId) (p2C : List DV) (p2Ok : ∀ (u : Bool) (w : Bool) (r : Bool),q u w = some r→Pure Tryz.prog tab p2F ([.bool u,.bool w] ++ p2C) (.bool r)) (r : List qi) (h : q66 l m q = some r) : Pure Tryz.prog tab 122 [.sl 2 (l.map Q5),.sl 2 (m.map Q5),.fn p2F p2C] (.sl 2 (r.map Q5)):=by
 unfold q66 at h
 refine Qa Tryz.func122 J (by kernel_rfl) (by kernel_rfl) J<|qb<|Qh (.ref 0 1 0 0) (.dat 1 [[.fn p2F p2C]]) J<|qa J<|qo<|Qp J J<|qo<|Qp J J<|qo<|Qp J J<|Qp J J<|Q3 3 (.dat 1 [[G 0]]) J<|Q3 4 (.dat 1 [[.bool false]]) J<|qo<|O (.fn 153 [.ref 4 1 0 0,.ref 3 1 0 0,.ref 2 1 0 0]) J<|Qp J J<|Q3 5 (.cel 1 [[.fn 153 [.ref 4 1 0 0,.ref 3 1 0 0,.ref 2 1 0 0]]]) J<|q8<|qe<|qb<|U J<|U J<|Qh (.hs 6 1 0 [l,m].length) (.dat 1 ([l,m].map Jk)) J ?_
 obtain ⟨b,h2,h⟩:=q7 h
 obtain ⟨u3,h4,h⟩:=q7 h
 have h5:=K6 h4
 refine Qs [(0,6)] [(0,3),(1,3),(2,3),(3,3),(4,3),(5,3),(6,0),(7,1),(8,2)] [.hs 6 1 0 [l,m].length] (.fn 188 [.ref 7 1 0 0]) 3 [(6,.dat 1 (b.1.map Jk)),(7,.cel 1 [[.hs 8 3 0 b.2.length]]),(8,.dat 3 (b.2.map Q0)),(0,.dat 1 [[.fn p2F p2C]]),(1,.dat 2 [[0,0].flatMap (eI .i64)]),(2,.dat 1 [[.nilsl]]),(3,.dat 1 [[G 0]]),(4,.dat 1 [[.bool false]]),(5,.cel 1 [[.fn 153 [.ref 4 1 0 0,.ref 3 1 0 0,.ref 2 1 0 0]]])] 9 (qxs [l,m] b h2)<|q8<|qu ?_
 obtain ⟨af,s,h⟩:=q7 h
 refine qdx (fun j=>j = af) (fun (j : List qi)=>⟨[(8,.ref 0 1 0 0)],[(0,.cel 1 [[.hs 1 2 0 j.length]]),(1,.dat 2 (j.map Q5))],2⟩) ?_ ?_
 ·refine Ys (st':=⟨[(5,.ref 0 1 0 0),(6,.d (.nilsl)),(7,.ref 1 2 0 0),(8,.ref 2 1 0 0),(9,.ref 3 1 0 0),(10,.ref 4 1 0 0),(11,.ref 5 1 0 0),(17,.fn 188 [.ref 6 1 0 0])],[(0,.dat 1 [[.fn p2F p2C]]),(1,.dat 2 [[0,0].flatMap (eI .i64)]),(2,.dat 1 [[.nilsl]]),(3,.dat 1 [[G 0]]),(4,.dat 1 [[.bool false]]),(5,.cel 1 [[.fn 153 [.ref 4 1 0 0,.ref 3 1 0 0,.ref 2 1 0 0]]]),(6,.cel 1 [[.hs 7 3 0 b.2.length]]),(7,.dat 3 (b.2.map Q0))],8⟩) (wkA [(0,0),(1,1),(2,2),(3,3),(4,4),(5,5),(6,7),(7,8)] [] []) ?_ (by simp)
  refine qdy [.ref 6 1 0 0] (.inl J) Tryz.func188 J (by kernel_rfl) (by kernel_rfl) J ?_
  intro A154 B155 hA154 hB155
  refine qb<|O (.hs 7 3 0 b.2.length) J<|O (q6 (b.2.length : Int)) J<|U J<|q8 ?_
  obtain ⟨ag,ah,s⟩:=q7 s
  refine qu<|Q6 (q3u b q) (fun (c : Int × List Int × Int × Bool × List qi)=>⟨[(0,.yld 8),(5,.hs 7 3 0 b.2.length),(6,q6 (b.2.length : Int)),(7,q6 c.1)],[(0,.dat 1 [[.fn p2F p2C]]),(1,.dat 2 [c.2.1.flatMap (eI .i64)]),(2,.cel 1 [[.hs 9 2 0 c.2.2.2.2.length]]),(3,.dat 1 [[G c.2.2.1]]),(4,.dat 1 [[.bool c.2.2.2.1]]),(5,.cel 1 [[.fn 153 [.ref 4 1 0 0,.ref 3 1 0 0,.ref 2 1 0 0]]]),(6,.cel 1 [[.hs 7 3 0 b.2.length]]),(7,.dat 3 (b.2.map Q0)),(8,.loop [(5,.ref 0 1 0 0),(6,.d (.nilsl)),(7,.ref 1 2 0 0),(8,.ref 2 1 0 0),(9,.ref 3 1 0 0),(10,.ref 4 1 0 0),(11,.ref 5 1 0 0),(17,.fn 188 [.ref 6 1 0 0])] [18] A154 B155 .ready none),(9,.dat 2 (c.2.2.2.2.map Q5))],10⟩) (0,[0,0],0,false,[]) ag ah (wkA [] [] [9]) ?_
  intro c an g
  unfold q3u at g
  refine qb<|O (.d (.bool (decide (c.1 < (b.2.length : Int))))) J<|q8<|qe ?_
  refine qk J g (fun _ g=>?_) (fun _ g=>?_)
  ·refine ql<|qe<|qu<|qb ?_
   obtain ⟨a,x,g⟩:=q7 g
   refine qq x J J<|qx (.d (.agg [G a.at_,G a.list_,G a.by_])) x J<|Qp J J<|Q3 10 (.dat 3 [[G a.at_,G a.list_,G a.by_]]) J<|qo<|U J<|O (.d (.agg [G a.at_,G a.list_,G a.by_])) J ?_
   obtain ⟨ai,f,g⟩:=q7 g
   refine qdf (fun k=>k = ai) (fun (k : List Int × Bool × List qi)=>⟨[(0,.yld 8),(5,.hs 7 3 0 b.2.length),(6,q6 (b.2.length : Int)),(7,q6 c.1),(13,qd true)],[(0,.dat 1 [[.fn p2F p2C]]),(1,.dat 2 [k.1.flatMap (eI .i64)]),(2,.cel 1 [[.hs 9 2 0 k.2.2.length]]),(3,.dat 1 [[G a.at_]]),(4,.dat 1 [[.bool k.2.1]]),(5,.cel 1 [[.fn 153 [.ref 4 1 0 0,.ref 3 1 0 0,.ref 2 1 0 0]]]),(6,.cel 1 [[.hs 7 3 0 b.2.length]]),(7,.dat 3 (b.2.map Q0)),(8,.loop [(5,.ref 0 1 0 0),(6,.d (.nilsl)),(7,.ref 1 2 0 0),(8,.ref 2 1 0 0),(9,.ref 3 1 0 0),(10,.ref 4 1 0 0),(11,.ref 5 1 0 0),(17,.fn 188 [.ref 6 1 0 0])] [18] A154 B155 .ready none),(9,.dat 2 (k.2.2.map Q5))],10⟩) hA154 hB155 J J J J J J ?_ ?_
   ·refine qs<|Qp J J<|Q3 11 (.dat 3 [[G a.at_,G a.list_,G a.by_]]) J<|qr ?_
    refine ⟨J,_,J,?_⟩
    refine qu<|qb<|O (.fn 153 [.ref 4 1 0 0,.ref 3 1 0 0,.ref 2 1 0 0]) J<|O (.ref 11 3 0 0) J<|O (q6 a.at_) J ?_
    obtain ⟨n,aj,f⟩:=q7 f
    refine Qs [(0,4),(1,3),(2,2),(3,9)] [(0,5),(1,5),(2,2),(3,1),(4,0),(5,5),(6,5),(7,5),(8,5),(9,3),(10,5),(11,5),(12,4)] [q6 a.at_,.ref 4 1 0 0,.ref 3 1 0 0,.ref 2 1 0 0] (.d (.tup [])) 4 [(2,.cel 1 [[.hs 12 2 0 n.2.2.length]]),(3,.dat 1 [[G n.2.1]]),(4,.dat 1 [[.bool n.1]]),(12,.dat 2 (n.2.2.map Q5)),(0,.dat 1 [[.fn p2F p2C]]),(1,.dat 2 [c.2.1.flatMap (eI .i64)]),(5,.cel 1 [[.fn 153 [.ref 4 1 0 0,.ref 3 1 0 0,.ref 2 1 0 0]]]),(6,.cel 1 [[.hs 7 3 0 b.2.length]]),(7,.dat 3 (b.2.map Q0)),(8,.loop [(5,.ref 0 1 0 0),(6,.d (.nilsl)),(7,.ref 1 2 0 0),(8,.ref 2 1 0 0),(9,.ref 3 1 0 0),(10,.ref 4 1 0 0),(11,.ref 5 1 0 0),(17,.fn 188 [.ref 6 1 0 0])] [18] A154 B155 .busy none),(10,.dat 3 [[G a.at_,G a.list_,G a.by_]]),(11,.dat 3 [[G a.at_,G a.list_,G a.by_]])] 13 (qxt a.at_ c.2.2.2.1 c.2.2.1 c.2.2.2.2 n aj)<|q8<|qe<|Q4 [Q9 1,q0,q0,qn 11,q0,qn 1,q0,qn 11,q0] (by kernel_rfl)<|O (.ref 11 3 0 1) J<|O (q6 a.list_) J ?_
    obtain ⟨t,y,f⟩:=q7 f
    refine U0 y J J J J J<|qab (enc:=(eI .i64)) (q6 t) y (fun _=>rfl) J J J J J J<|O (.ref 11 3 0 2) J<|O (q6 a.by_) J<|O (.d (G (w64 (t + a.by_)))) J ?_
    obtain ⟨ao,z,f⟩:=q7 f
    refine U0 z J J J J J<|qde (enc:=(eI .i64)) (w64 (t + a.by_)) z (fun _=>rfl) J J J J J J J J<|q8<|Q4 [Q9 4,Q9 3,q0,q0,qn 1,q0,q0,qn 1,q0,qn 0,qn 11,q0] (by kernel_rfl)<|O (.ref 11 3 0 0) J<|O (q6 a.at_) J<|O (.d (.fn p2F p2C)) J ?_
    obtain ⟨o,aa,f⟩:=q7 f
    refine U0 aa J J J J J<|qab (enc:=(eI .i64)) (q6 o) aa (fun _=>rfl) J J J J J J<|O (.d (.bool (decide (o > 0)))) J ?_
    obtain ⟨p,ab,f⟩:=q7 f
    refine U0 ab J J J J J<|qab (enc:=(eI .i64)) (q6 p) ab (fun _=>rfl) J J J J J J<|O (.d (.bool (decide (p > 0)))) J ?_
    obtain ⟨ac,ak,f⟩:=q7 f
    refine Y5 [.d (.bool (decide (o > 0))),.d (.bool (decide (p > 0)))] (p2Ok (decide (o > 0)) (decide (p > 0)) ac ak) J J J (.inl J)<|Q3 3 (.dat 1 [[G a.at_]]) J<|Q3 4 (.dat 1 [[.bool ac]]) J<|qr<|Q8<|Q7 ?_
    refine ⟨_,J,?_⟩
    obtain rfl:=qc f
    exact ⟨_,J,wkA [(9,12)] [] []⟩
   intro k hb
   subst hb
   refine O (qd false) J<|q8<|U1 J<|ql<|Q7<|Q8<|qs<|O (.d (G (w64 (c.1 + 1)))) J<|U J<|qr ?_
   exact ⟨_,(Option.some.inj g).symm,wkA [(9,9)] [] []⟩
  refine Q1 ?_
  refine ⟨_,(Option.some.inj g).symm,fun hm=>?_⟩
  subst hm
  refine ⟨.inl J,_,J,_,_,.nor,J,by decide,?_⟩
  refine qbq<|Q7 ?_
  obtain rfl:=qc s
  exact ⟨_,J,wkA [(0,2),(1,9)] [] []⟩
 intro j st hb hw
 subst hb
 refine Ys hw ?_ (by simp)
 refine qb<|O (.hs 1 2 0 j.length) J<|qa J<|qp ?_
 obtain rfl:=qc h
 exact finD (.inr J) (v:=.hs 1 2 0 j.length) J (Zo J J) (.refl _)
theorem qxq (a : Bool) (b : Bool) (r : Bool) (c : q8t a b = some r) : Pure Tryz.prog tab 123 [.bool a,.bool b] (.bool r):=by
 unfold q8t at c
 refine Qa Tryz.func123 J (by kernel_rfl) (by kernel_rfl) J<|qb<|qa J<|qo<|U J<|qa J<|qp ?_
 obtain rfl:=qc c
 exact qv (qd a) J
theorem qk8 (c : List qi) (r : List qi × Int) (a : q2a c = some r) : Pure Tryz.prog tab 77 [.sl 2 (c.map Q5)] (.tup [.sl 2 (r.1.map Q5),G r.2]):=by
 unfold q2a at a
 refine Qa Tryz.func77 J (by kernel_rfl) (by kernel_rfl) J<|qb<|qa J<|qa J<|q8<|qe<|qb<|U J<|Qk J<|O (.d (.bool (decide ((c.length : Int) > 400)))) J<|q8 ?_
 refine qk J a (fun _ a=>?_) (fun _ a=>?_)
 ·refine qb<|qa J<|qa J<|qp ?_
  obtain rfl:=qc a
  exact finD (.inr J) (v:=.d (.tup [.nilsl,G 4])) J J (Yu (.cons (.nil _) (.cons (.refl _) .nil)))
 refine ql<|qe<|qb<|U J ?_
 obtain ⟨h,j,a⟩:=q7 a
 refine qt (qu8 c (fun b=>qb8 b) 120 [] (fun b r hr=>qxp b r hr) h j) J<|q8 ?_
 refine qk J a (fun _ a=>?_) (fun _ a=>?_)
 ·refine qb<|qa J<|qa J<|qp ?_
  obtain rfl:=qc a
  exact finD (.inr J) (v:=.d (.tup [.nilsl,G 8])) J J (Yu (.cons (.nil _) (.cons (.refl _) .nil)))
 refine ql<|qb<|U J ?_
 obtain ⟨g,k,a⟩:=q7 a
 refine qt (qdl (.cons (.refl _) (.cons (.nil _) (.cons (.refl _) .nil))) (qxu c [] (fun b f=>q8t b f) 123 [] (fun b f r hr=>qxq b f r hr) g k)) J<|qa J<|qa J<|qp ?_
 obtain rfl:=qc a
 exact qv (.d (.tup [.sl 2 (g.map Q5),G 0])) J
theorem qub (c : List qi) (f : List qi) (r : Bool) (b : q7t c f = some r) : Pure Tryz.prog tab 114 [.sl 2 (c.map Q5),.sl 2 (f.map Q5)] (.bool r):=by
 unfold q7t at b
 refine Qa Tryz.func114 J (by kernel_rfl) (by kernel_rfl) J<|qb<|qa J<|q8<|qe<|qb<|U J<|Qk J<|U J<|Qk J<|O (.d (.bool ((c.length : Int) != (f.length : Int)))) J<|q8 ?_
 refine qk J b (fun _ b=>?_) (fun _ b=>?_)
 ·refine qb<|qa J<|qp ?_
  obtain rfl:=qc b
  exact qv (qd false) J
 refine ql<|qe<|qb<|U J<|Qk J<|U J<|q8 ?_
 obtain ⟨l,m,b⟩:=q7 b
 refine Qd (fun k=>.inl k = l) (fun (k : Unit)=>⟨[],[],0⟩) (by simp) ?_ ?_
 ·refine Q6 (qaw c f) (fun (g : Int)=>⟨[(0,.d (.sl 2 (c.map Q5))),(1,.d (.sl 2 (f.map Q5))),(12,q6 (c.length : Int)),(13,q6 g)],[],0⟩) 0 l m (wkA [] [] []) ?_
  intro g p a
  unfold qaw at a
  refine qb<|O (.d (.bool (decide (g < (c.length : Int))))) J<|q8<|qe ?_
  refine qk J a (fun _ a=>?_) (fun _ a=>?_)
  ·refine ql<|qe<|qu<|qb<|U J<|qa J<|q8<|qe<|Q4 [q0,q0,q0,q0,q0,q0,q0,q0,q0] (by kernel_rfl)<|U J<|U J ?_
   obtain ⟨h,n,a⟩:=q7 a
   refine Qc (enc:=Q5) n J<|O (.d (.agg [G h.Lo,G h.Hi])) J<|U J<|U J ?_
   obtain ⟨j,o,a⟩:=q7 a
   refine Qc (enc:=Q5) o J<|O (.d (.agg [G j.Lo,G j.Hi])) J<|O (.d (.bool (!((h.Lo == j.Lo) && ((h.Hi == j.Hi) && true))))) J<|q8 ?_
   refine qk J a (fun _ a=>?_) (fun _ a=>?_)
   ·refine qb<|qa J<|qp ?_
    refine ⟨_,(Option.some.inj a).symm,fun hm=>?_⟩
    subst hm
    obtain rfl:=qc b
    exact qv (qd false) J
   refine ql<|Q7<|Q8<|qs<|O (.d (G (w64 (g + 1)))) J<|U J<|qr ?_
   exact ⟨_,(Option.some.inj a).symm,wkA [] [] []⟩
  refine Q1 ?_
  refine ⟨_,(Option.some.inj a).symm,fun hm=>?_⟩
  subst hm
  exact ⟨_,J,wkA [] [] []⟩
 intro k hb
 subst hb
 refine qb<|qa J<|qp ?_
 obtain rfl:=qc b
 exact qv (qd true) J
theorem qsd (b : List qf) (m : List qi) (p : Int) (l : Int) (h : Int) (a : Int) (g : List qi) (r : List qi × Int × Int × List qf) (f : q7l  b m p l h a g = some r) : Qr Tryz.prog tab 138 [.ref 0 4 0 0,q6 h,q6 a,.d (.sl 2 (g.map Q5))] [(0,.cel 4 [[.hs 1 4 0 b.length,.d (.sl 2 (m.map Q5)),q6 p,q6 l]]),(1,.dat 4 (b.map qm))] 2 (.d (.tup [])) [(0,.cel 4 [[.hs 2 4 0 r.2.2.2.length,.d (.sl 2 (r.1.map Q5)),q6 r.2.1,q6 r.2.2.1]]),(2,.dat 4 (r.2.2.2.map qm))] 3:=by
 unfold q7l at f
 refine Qy Tryz.func138 J (by kernel_rfl) (by kernel_rfl) J<|qe<|qb<|U J<|Qk J<|O (.d (.bool (decide ((g.length : Int) > 0)))) J ?_
 obtain ⟨am,t,f⟩:=q7 f
 refine qy 8 (fun A st=>∃ (v w x y z aa ab : V),st = A [(21,qd am),(20,ab),(19,aa),(18,z),(17,y),(16,x),(15,w),(14,v)]) ?_ ?_
 ·refine qw J J t (fun t=>?_) (fun t=>?_)
  ·refine U J<|O (.ref 0 4 0 0) J<|O (.ref 0 4 0 3) J<|O (q6 l) J<|U J<|O (qd (l == h)) J<|O (qd (l == h)) J<|q8 ?_
   obtain rfl:=qc t
   exact ⟨_,_,_,_,_,_,_,J⟩
  refine q9 J<|q9 J<|q9 J<|q9 J<|q9 J<|q9 J<|O (qd false) J<|q8 ?_
  obtain rfl:=qc t
  exact ⟨_,_,_,_,_,_,_,J⟩
 rintro _ ⟨v,w,x,y,z,aa,ab,rfl⟩
 obtain ⟨an,q,f⟩:=q7 f
 refine qy 8 (fun A st=>∃ (ac ad ae af ag ah ai : V),st = A [(29,qd an),(28,ai),(27,ah),(26,ag),(25,af),(24,ae),(23,ad),(22,ac)]) ?_ ?_
 ·refine qw J J q (fun q=>?_) (fun q=>?_)
  ·refine U J<|O (.ref 0 4 0 0) J<|O (.ref 0 4 0 1) J<|O (.d (.sl 2 (m.map Q5))) J<|U J ?_
   obtain ⟨aj,ao,q⟩:=q7 q
   refine qt (qub m g aj ao) J<|O (qd aj) J<|q8 ?_
   obtain rfl:=qc q
   exact ⟨_,_,_,_,_,_,_,J⟩
  refine q9 J<|q9 J<|q9 J<|q9 J<|q9 J<|q9 J<|O (qd false) J<|q8 ?_
  obtain rfl:=qc q
  exact ⟨_,_,_,_,_,_,_,J⟩
 rintro _ ⟨ac,ad,ae,af,ag,ah,ai,rfl⟩
 refine q8 ?_
 refine qk J f (fun _ f=>?_) (fun _ f=>?_)
 ·refine qe<|qb<|U J<|O (.ref 0 4 0 0) J<|O (.ref 0 4 0 2) J<|O (q6 p) J<|qa J<|q8 ?_
  obtain ⟨ak,ap,f⟩:=q7 f
  refine Qd (fun s=>s = ak) (fun (s : List qf)=>⟨[(0,.ref 0 4 0 0),(2,q6 a)],[(0,.cel 4 [[.hs 1 4 0 s.length,.d (.sl 2 (m.map Q5)),q6 p,q6 l]]),(1,.dat 4 (s.map qm))],2⟩) (by simp) ?_ ?_
  ·refine Q6 (q4x a) (fun (j : Int × List qf)=>⟨[(0,.ref 0 4 0 0),(2,q6 a),(8,q6 j.1)],[(0,.cel 4 [[.hs 1 4 0 j.2.length,.d (.sl 2 (m.map Q5)),q6 p,q6 l]]),(1,.dat 4 (j.2.map qm))],2⟩) (p,b) ak ap (wkA [] [] []) ?_
   intro j ax n
   unfold q4x at n
   refine qe<|qb<|U J<|U J<|O (.ref 0 4 0 0) J<|O (.ref 0 4 0 0) J<|O (.hs 1 4 0 j.2.length) J<|O (q6 (j.2.length : Int)) J<|O (.d (.bool (decide (j.1 < (j.2.length : Int))))) J<|q8 ?_
   refine qk J n (fun _ n=>?_) (fun _ n=>?_)
   ·refine ql<|qe<|qu<|qs<|U J<|O (.ref 0 4 0 0) J<|O (.ref 0 4 0 0) J<|O (.hs 1 4 0 j.2.length) J<|U J<|U J ?_
    obtain ⟨u,al,n⟩:=q7 n
    refine qq al J J<|O (.ref 1 4 j.1.toNat 2) J<|Qi (ds:=[G a]) ({X0:=u.X0,Y0:=u.Y0,X1:=a,Y1:=u.Y1} : qf) al J J J J J J J J (leb J) J<|qr<|Q8<|qs<|U J<|O (.d (G (w64 (j.1 + 1)))) J<|qa J<|qr ?_
    exact ⟨_,(Option.some.inj n).symm,wkE [] [] [] J ⟨⟨_,J,.ref J (by decide) (ltd J)⟩,⟨_,J,.d (.refl _)⟩,⟨_,J,.d (.refl _)⟩,trivial⟩ ⟨⟨ltd J,.inr ⟨by decide,_,J,Jh (.cons (Qq (by simp) J (by decide) (ltd J)) J (.cons (.d (.refl _)) J (.cons (.d (.refl _)) J (.cons (.d (.refl _)) J .nil))))⟩⟩,⟨ltd J,.inr ⟨by decide,_,J,.dat _ _⟩⟩,trivial⟩⟩
   refine Q1 ?_
   refine ⟨_,(Option.some.inj n).symm,fun hm=>?_⟩
   subst hm
   exact ⟨_,J,wkA [] [] []⟩
  intro s hb
  subst hb
  refine qb<|U J<|U J<|O (.ref 0 4 0 0) J<|O (.ref 0 4 0 3) J<|Q3 0 (.cel 4 [[.hs 1 4 0 s.length,.d (.sl 2 (m.map Q5)),q6 p,q6 a]]) J<|qp ?_
  obtain rfl:=qc f
  exact ⟨.inr J,_,J,wkA [(2,1)] [] []⟩
 refine ql<|qb<|U J<|U J<|U J<|U J<|O (.ref 0 4 0 0) J<|O (.ref 0 4 0 0) J<|O (.hs 1 4 0 b.length) J<|O (q6 (b.length : Int)) J<|U J<|U J<|O (.ref 0 4 0 0) J<|O (.ref 0 4 0 2) J<|Q3 0 (.cel 4 [[.hs 1 4 0 b.length,.d (.sl 2 (m.map Q5)),q6 (b.length : Int),q6 l]]) J<|O (.ref 0 4 0 0) J<|O (.ref 0 4 0 1) J<|Q3 0 (.cel 4 [[.hs 1 4 0 b.length,.d (.sl 2 (g.map Q5)),q6 (b.length : Int),q6 l]]) J<|O (.ref 0 4 0 0) J<|O (.ref 0 4 0 3) J<|Q3 0 (.cel 4 [[.hs 1 4 0 b.length,.d (.sl 2 (g.map Q5)),q6 (b.length : Int),q6 a]]) J<|qo<|U J<|Qk J<|U J<|q8 ?_
 obtain ⟨aq,ar,f⟩:=q7 f
 refine qu<|Q6 (q4y g h a b) (fun (o : Int × List qf)=>⟨[(0,.ref 0 4 0 0),(1,q6 h),(2,q6 a),(71,.d (.sl 2 (g.map Q5))),(72,q6 (g.length : Int)),(73,q6 o.1)],[(0,.cel 4 [[.hs 2 4 0 o.2.length,.d (.sl 2 (g.map Q5)),q6 (b.length : Int),q6 a]]),(2,.dat 4 (o.2.map qm))],3⟩) (0,b) aq ar (wkA [(2,1)] [] []) ?_
 intro o ay k
 unfold q4y at k
 refine qb<|O (.d (.bool (decide (o.1 < (g.length : Int))))) J<|q8<|qe ?_
 refine qk J k (fun _ k=>?_) (fun _ k=>?_)
 ·refine ql<|qe<|qu<|qb ?_
  obtain ⟨c,au,k⟩:=q7 k
  refine Qc (enc:=Q5) au J<|O (.d (.agg [G c.Lo,G c.Hi])) J<|Qp J J<|Q3 3 (.dat 2 [[G c.Lo,G c.Hi]]) J<|q8<|Q4 [Q9 0,q0,q0,(some [2,4],[2,5]),(some [],[4]),q0,qn 3,q0,q0,qn 3,q0,q0,qn 0,q0,q0,q0,q0] (by kernel_rfl)<|U J<|U J<|O (.ref 0 4 0 0) J<|O (.ref 0 4 0 0) J<|O (.hs 2 4 0 o.2.length) J<|U J<|O (.ref 3 2 0 0) J<|O (q6 c.Lo) J<|U J<|O (.ref 3 2 0 1) J<|O (q6 c.Hi) J<|O (.d (.agg [G h,G c.Lo,G a,G c.Hi])) J<|Qh (.hs 4 4 0 [({X0:=h,Y0:=c.Lo,X1:=a,Y1:=c.Hi} : qf)].length) (.dat 4 ([({X0:=h,Y0:=c.Lo,X1:=a,Y1:=c.Hi} : qf)].map qm)) J ?_
  obtain ⟨av,aw,k⟩:=q7 k
  refine Y2 (xs:=o.2) (ys:=[({X0:=h,Y0:=c.Lo,X1:=a,Y1:=c.Hi} : qf)]) (enc:=qm) (.hs 4 4 0 [({X0:=h,Y0:=c.Lo,X1:=a,Y1:=c.Hi} : qf)].length) aw J J J J J J J (Kz J J) J J J J<|O (.ref 0 4 0 0) J<|O (.ref 0 4 0 0) J<|Q3 0 (.cel 4 [[.hs 5 4 0 av.length,.d (.sl 2 (g.map Q5)),q6 (b.length : Int),q6 a]]) J<|qr<|Q8<|qs<|O (.d (G (w64 (o.1 + 1)))) J<|U J<|qr ?_
  exact ⟨_,(Option.some.inj k).symm,wkA [(2,5)] [] []⟩
 refine Q1 ?_
 refine ⟨_,(Option.some.inj k).symm,fun hm=>?_⟩
 subst hm
 obtain rfl:=qc f
 exact ⟨.inl J,_,J,wkA [(2,2)] [] []⟩
theorem qj5 (a : List qf) (r : List qf × Int) (u : q4z a = some r) : Pure Tryz.prog tab 96 [.sl 4 (a.map qm)] (.tup [.sl 4 (r.1.map qm),G r.2]):=by
 unfold q4z at u
 refine Qa Tryz.func96 J (by kernel_rfl) (by kernel_rfl) J<|qb<|qa J<|qa J<|qo<|Qp J J<|q8<|qe<|qb<|U J<|Qh (.hs 1 1 0 [a].length) (.dat 1 ([a].map Z5)) J ?_
 obtain ⟨aw,l,u⟩:=q7 u
 refine q71 [.hs 1 1 0 [a].length] (fun h=>h = aw) (fun (h : List Int)=>⟨[(2,.d (.nilsl)),(3,q6 0),(4,.ref 0 4 0 0),(10,.fn 161 [.ref 1 1 0 0,.ref 2 1 0 0])],[(0,.dat 4 [[.nilsl,.nilsl,G 0,G 0]]),(1,.cel 1 [[.d (.sl 1 (h.map (eI .i64)))]]),(2,.cel 1 [[.hs 3 1 0 [a].length]]),(3,.dat 1 ([a].map Z5))],4⟩) J J Tryz.func137 J (by kernel_rfl) (by kernel_rfl) J ?_ ?_
 ·refine qb<|Qh (.ref 2 1 0 0) (.cel 1 [[.hs 1 1 0 [a].length]]) J<|qa J<|qo<|Qp J J<|q8<|qe<|qb<|O (.hs 1 1 0 [a].length) J<|O (q6 1) J<|U J<|q8<|qu<|Uu<|qb<|O (qd true) J<|q8<|qe<|q53 J<|ql<|qe ?_
  obtain ⟨ax,ac,l⟩:=q7 l
  refine Qd (fun m=>m = ax) (fun (m : List Int)=>⟨[(1,.ref 2 1 0 0),(3,.ref 3 1 0 0),(8,.hs 1 1 0 [a].length),(9,q6 1),(10,q6 0)],[(0,.dat 4 [[.nilsl,.nilsl,G 0,G 0]]),(1,.dat 1 ([a].map Z5)),(2,.cel 1 [[.hs 1 1 0 [a].length]]),(3,.cel 1 [[.hs 4 1 0 m.length]]),(4,.dat 1 (m.map (eI .i64)))],5⟩) (by simp) ?_ ?_
  ·refine qb ?_
   obtain ⟨ad,am,ac⟩:=q7 ac
   refine qq am J J<|qx (.d (.sl 4 (ad.map qm))) am J<|qa J<|qo<|U J<|Qk J<|U J<|q8 ?_
   obtain ⟨ay,az,ac⟩:=q7 ac
   refine qu<|Q6 (q1x ad) (fun (w : Int × List Int)=>⟨[(1,.ref 2 1 0 0),(3,.ref 3 1 0 0),(8,.hs 1 1 0 [a].length),(9,q6 1),(10,q6 0),(14,.d (.sl 4 (ad.map qm))),(15,q6 (ad.length : Int)),(16,q6 w.1)],[(0,.dat 4 [[.nilsl,.nilsl,G 0,G 0]]),(1,.dat 1 ([a].map Z5)),(2,.cel 1 [[.hs 1 1 0 [a].length]]),(3,.cel 1 [[.hs 4 1 0 w.2.length]]),(4,.dat 1 (w.2.map (eI .i64)))],5⟩) (0,[]) ay az (wkA [(2,2),(3,3)] [] [4]) ?_
   intro w cd p
   unfold q1x at p
   refine qb<|O (.d (.bool (decide (w.1 < (ad.length : Int))))) J<|q8<|qe ?_
   refine qk J p (fun _ p=>?_) (fun _ p=>?_)
   ·refine ql<|qe<|qu<|qb ?_
    obtain ⟨g,ba,p⟩:=q7 p
    refine Qc (enc:=qm) ba J<|O (.d (.agg [G g.X0,G g.Y0,G g.X1,G g.Y1])) J<|Qp J J<|Q3 5 (.dat 4 [[G g.X0,G g.Y0,G g.X1,G g.Y1]]) J<|q8<|qs<|O (.hs 4 1 0 w.2.length) J<|O (.ref 5 4 0 0) J<|O (q6 g.X0) J<|O (.ref 5 4 0 2) J<|O (q6 g.X1) J<|Qh (.hs 6 1 0 [g.X0,g.X1].length) (.dat 1 ([g.X0,g.X1].map (eI .i64))) J ?_
    obtain ⟨bb,bc,p⟩:=q7 p
    refine Y2 (xs:=w.2) (ys:=[g.X0,g.X1]) (enc:=(eI .i64)) (.hs 6 1 0 [g.X0,g.X1].length) bc J J J J J J J (Kz J J) J J J J<|Q3 3 (.cel 1 [[.hs 7 1 0 bb.length]]) J<|qr<|Q8<|qs<|O (.d (G (w64 (w.1 + 1)))) J<|U J<|qr ?_
    exact ⟨_,(Option.some.inj p).symm,wkA [(2,2),(3,3),(4,7)] [] []⟩
   refine Q1 ?_
   refine ⟨_,(Option.some.inj p).symm,fun hm=>?_⟩
   subst hm
   obtain rfl:=qc ac
   exact ⟨_,J,wkA [(2,2),(3,3),(4,4)] [] []⟩
  intro m hb
  subst hb
  refine qs<|O (q6 1) J<|U J<|q8<|Uu<|qb<|O (qd false) J<|q8<|qe<|U1 J<|Q1<|q2h<|qb<|O (.hs 4 1 0 m.length) J ?_
  obtain ⟨ak,bd,l⟩:=q7 l
  obtain ⟨ce,be,l⟩:=q7 l
  have bf:=K6 be
  refine Qs [(0,4)] [(0,1),(1,1),(2,1),(3,1),(4,0)] [.hs 4 1 0 m.length] (.d (.tup [])) 1 [(4,.dat 1 (ak.map (eI .i64))),(0,.dat 4 [[.nilsl,.nilsl,G 0,G 0]]),(1,.dat 1 ([a].map Z5)),(2,.cel 1 [[.hs 1 1 0 [a].length]]),(3,.cel 1 [[.hs 4 1 0 m.length]])] 5 (qjs m ak bd)<|qo<|O (.hs 4 1 0 m.length) J ?_
  obtain ⟨z,bg,l⟩:=q7 l
  obtain ⟨cf,bh,l⟩:=q7 l
  have cg:=K6 bh
  obtain ⟨ch,bi,l⟩:=q7 l
  have bj:=ql0 bi
  refine Jz [(0,4)] [(0,1),(1,1),(2,1),(3,1),(4,0)] [.hs 4 1 0 m.length] (.hs 4 1 z.1.1 z.1.2) [(4,.dat 1 (z.2.map (eI .i64)))] [(4,.dat 1 (z.2.map (eI .i64))),(0,.dat 4 [[.nilsl,.nilsl,G 0,G 0]]),(1,.dat 1 ([a].map Z5)),(2,.cel 1 [[.hs 1 1 0 [a].length]]),(3,.cel 1 [[.hs 4 1 0 m.length]])] 5 (qjq ak z bg) J J J (Y8 [(0,4)] [] [] J ⟨⟨_,J,Qq (by simp [bf]) J (by decide) (ltd J)⟩,trivial⟩ ⟨⟨ltd J,.inr ⟨by decide,_,J,.dat _ _⟩⟩,trivial⟩) (Y8 [(0,1),(1,1),(2,1),(3,1),(4,0)] [] [] J ⟨⟨_,J,.hs J (by decide) (ltd J)⟩,trivial⟩ ⟨⟨ltd J,.inr ⟨by decide,_,J,.dat _ _⟩⟩,trivial⟩) J ⟨.inl J,.inr ⟨J,J⟩,.inr ⟨J,J⟩,.inr ⟨J,J⟩,.inr ⟨J,J⟩,trivial⟩<|Q3 3 (.cel 1 [[.hs 4 1 z.1.1 z.1.2]]) J<|qo<|O (.fn 161 [.ref 3 1 0 0,.ref 2 1 0 0]) J<|qa J<|qp ?_
  refine ⟨.inr J,_,J,?_⟩
  obtain rfl:=qc l
  exact ⟨_,J,wkE [(0,0),(1,3),(2,2),(3,1)] [4] [] J ⟨⟨_,J,.d (.refl _)⟩,⟨_,J,.d (.refl _)⟩,⟨_,J,.ref J (by decide) (ltd J)⟩,⟨_,J,(q3y (.cons (.ref J (by decide) (ltd J)) (.cons (.ref J (by decide) (ltd J)) .nil)))⟩,trivial⟩ ⟨⟨ltd J,.inr ⟨by decide,_,J,.dat _ _⟩⟩,⟨ltd J,.inr ⟨by decide,_,J,Jh (.cons (ql4 bj J (by decide)) J .nil)⟩⟩,⟨ltd J,.inr ⟨by decide,_,J,Jh (.cons (.hs J (by decide) (ltd J)) J .nil)⟩⟩,⟨ltd J,.inr ⟨by decide,_,J,.dat _ _⟩⟩,trivial⟩⟩
 intro h hb
 subst hb
 refine q8<|qu ?_
 obtain ⟨bk,al,u⟩:=q7 u
 refine qdx (fun n=>n = bk) (fun (n : List qi × Int × Int × List qf)=>⟨[(4,.ref 0 4 0 0)],[(0,.cel 4 [[.hs 1 4 0 n.2.2.2.length,.d (.sl 2 (n.1.map Q5)),q6 n.2.1,q6 n.2.2.1]]),(1,.dat 4 (n.2.2.2.map qm))],2⟩) ?_ ?_
 ·refine Ys (st':=⟨[(2,.d (.nilsl)),(3,q6 0),(4,.ref 0 4 0 0),(10,.fn 161 [.ref 1 1 0 0,.ref 2 1 0 0])],[(0,.dat 4 [[.nilsl,.nilsl,G 0,G 0]]),(1,.cel 1 [[.d (.sl 1 (h.map (eI .i64)))]]),(2,.cel 1 [[.hs 3 1 0 [a].length]]),(3,.dat 1 ([a].map Z5))],4⟩) (wkA [(0,0),(1,1),(2,2),(3,3)] [] []) ?_ (by simp)
  refine qdy [.ref 1 1 0 0,.ref 2 1 0 0] (.inl J) Tryz.func161 J (by kernel_rfl) (by kernel_rfl) J ?_
  intro A847 B848 hA847 hB848
  refine qb<|qa J<|q8 ?_
  obtain ⟨bl,bm,al⟩:=q7 al
  refine qu<|Q6 (q1y h a) (fun (b : Int × List qi × Int × Int × List qf)=>⟨[(0,.yld 4),(1,.ref 1 1 0 0),(2,.ref 2 1 0 0),(4,q6 b.1)],[(0,.cel 4 [[.hs 5 4 0 b.2.2.2.2.length,.d (.sl 2 (b.2.1.map Q5)),q6 b.2.2.1,q6 b.2.2.2.1]]),(1,.cel 1 [[.d (.sl 1 (h.map (eI .i64)))]]),(2,.cel 1 [[.hs 3 1 0 [a].length]]),(3,.dat 1 ([a].map Z5)),(4,.loop [(2,.d (.nilsl)),(3,q6 0),(4,.ref 0 4 0 0),(10,.fn 161 [.ref 1 1 0 0,.ref 2 1 0 0])] [11] A847 B848 .ready none),(5,.dat 4 (b.2.2.2.2.map qm))],6⟩) (1,[],0,0,[]) bl bm (wkA [] [] [5]) ?_
  intro b ci j
  unfold q1y at j
  refine qe<|qb<|U J<|O (.d (.sl 1 (h.map (eI .i64)))) J<|Qk J<|O (.d (.bool (decide (b.1 < (h.length : Int))))) J<|q8 ?_
  refine qk J j (fun _ j=>?_) (fun _ j=>?_)
  ·refine ql<|qe<|qu<|qe<|Q4 [Q9 7,(some [],[7]),q0,(some [],[6]),q0,qn 2,q0,q0,q0,qn 1,q0,q0,q0,q0,qn 1] (by kernel_rfl)<|O (.d (.sl 1 (h.map (eI .i64)))) J<|U J<|O (.d (G (w64 (b.1 - 1)))) J ?_
   obtain ⟨f,bn,j⟩:=q7 j
   refine Qc (enc:=(eI .i64)) bn J<|O (q6 f) J<|O (.d (.sl 1 (h.map (eI .i64)))) J<|U J ?_
   obtain ⟨k,bo,j⟩:=q7 j
   refine Qc (enc:=(eI .i64)) bo J<|O (q6 k) J<|O (.hs 3 1 0 [a].length) J<|O (q6 1) J<|Qh (.hs 6 1 0 1) (.dat 1 [[.nilsl]]) J<|O (.agg [q6 f,q6 k,.hs 6 1 0 1]) J<|Qp J J<|Q3 7 (.cel 3 [[q6 f,q6 k,.hs 6 1 0 1]]) J<|q8<|qe<|qb<|O (.hs 3 1 0 [a].length) J<|O (q6 1) J<|U J<|q8<|qu<|Uu<|qb<|O (qd true) J<|q8<|qe<|q53 J<|ql<|qe ?_
   obtain ⟨bp,ae,j⟩:=q7 j
   refine Qd (fun s=>s = bp) (fun (s : List qi)=>⟨[(0,.yld 4),(1,.ref 1 1 0 0),(2,.ref 2 1 0 0),(4,q6 b.1),(5,.ref 5 3 0 0),(29,.hs 3 1 0 [a].length),(30,q6 1),(31,q6 0)],[(0,.cel 4 [[.hs 6 4 0 b.2.2.2.2.length,.d (.sl 2 (b.2.1.map Q5)),q6 b.2.2.1,q6 b.2.2.2.1]]),(1,.cel 1 [[.d (.sl 1 (h.map (eI .i64)))]]),(2,.cel 1 [[.hs 3 1 0 [a].length]]),(3,.dat 1 ([a].map Z5)),(4,.loop [(2,.d (.nilsl)),(3,q6 0),(4,.ref 0 4 0 0),(10,.fn 161 [.ref 1 1 0 0,.ref 2 1 0 0])] [11] A847 B848 .ready none),(5,.cel 3 [[q6 f,q6 k,.hs 7 1 0 1]]),(6,.dat 4 (b.2.2.2.2.map qm)),(7,.cel 1 [[.hs 8 2 0 s.length]]),(8,.dat 2 (s.map Q5))],9⟩) (by simp) ?_ ?_
   ·refine qb<|U J ?_
    obtain ⟨aa,an,ae⟩:=q7 ae
    refine qq an J J<|qx (.d (.sl 4 (aa.map qm))) an J<|qa J<|qa J<|qo<|U J<|Qk J<|U J<|q8 ?_
    obtain ⟨bq,br,ae⟩:=q7 ae
    refine qu<|Q6 (q3c aa f) (fun (t : Int × List qi)=>⟨[(0,.yld 4),(1,.ref 1 1 0 0),(2,.ref 2 1 0 0),(4,q6 b.1),(5,.ref 5 3 0 0),(6,q6 0),(29,.hs 3 1 0 [a].length),(30,q6 1),(31,q6 0),(36,.d (.sl 4 (aa.map qm))),(37,q6 (aa.length : Int)),(38,q6 t.1)],[(0,.cel 4 [[.hs 6 4 0 b.2.2.2.2.length,.d (.sl 2 (b.2.1.map Q5)),q6 b.2.2.1,q6 b.2.2.2.1]]),(1,.cel 1 [[.d (.sl 1 (h.map (eI .i64)))]]),(2,.cel 1 [[.hs 3 1 0 [a].length]]),(3,.dat 1 ([a].map Z5)),(4,.loop [(2,.d (.nilsl)),(3,q6 0),(4,.ref 0 4 0 0),(10,.fn 161 [.ref 1 1 0 0,.ref 2 1 0 0])] [11] A847 B848 .ready none),(5,.cel 3 [[q6 f,q6 k,.hs 7 1 0 1]]),(6,.dat 4 (b.2.2.2.2.map qm)),(7,.cel 1 [[.hs 8 2 0 t.2.length]]),(8,.dat 2 (t.2.map Q5))],9⟩) (0,[]) bq br (wkA [(5,7),(6,5),(7,6)] [] [8]) ?_
    intro t cj x
    unfold q3c at x
    refine qb<|O (.d (.bool (decide (t.1 < (aa.length : Int))))) J<|q8<|qe ?_
    refine qk J x (fun _ x=>?_) (fun _ x=>?_)
    ·refine ql<|qe ?_
     obtain ⟨bs,o,x⟩:=q7 x
     refine Qd (fun af=>af = bs) (fun (af : List qi)=>⟨[(0,.yld 4),(1,.ref 1 1 0 0),(2,.ref 2 1 0 0),(4,q6 b.1),(5,.ref 5 3 0 0),(6,q6 0),(29,.hs 3 1 0 [a].length),(30,q6 1),(31,q6 0),(36,.d (.sl 4 (aa.map qm))),(37,q6 (aa.length : Int)),(38,q6 t.1)],[(0,.cel 4 [[.hs 6 4 0 b.2.2.2.2.length,.d (.sl 2 (b.2.1.map Q5)),q6 b.2.2.1,q6 b.2.2.2.1]]),(1,.cel 1 [[.d (.sl 1 (h.map (eI .i64)))]]),(2,.cel 1 [[.hs 3 1 0 [a].length]]),(3,.dat 1 ([a].map Z5)),(4,.loop [(2,.d (.nilsl)),(3,q6 0),(4,.ref 0 4 0 0),(10,.fn 161 [.ref 1 1 0 0,.ref 2 1 0 0])] [11] A847 B848 .ready none),(5,.cel 3 [[q6 f,q6 k,.hs 7 1 0 1]]),(6,.dat 4 (b.2.2.2.2.map qm)),(7,.cel 1 [[.hs 8 2 0 af.length]]),(8,.dat 2 (af.map Q5))],9⟩) (by simp) ?_ ?_
     ·refine qb ?_
      obtain ⟨c,bt,o⟩:=q7 o
      refine Qc (enc:=qm) bt J<|O (.d (.agg [G c.X0,G c.Y0,G c.X1,G c.Y1])) J<|Qp J J<|Q3 9 (.dat 4 [[G c.X0,G c.Y0,G c.X1,G c.Y1]]) J<|qo<|O (.ref 9 4 0 0) J<|O (q6 c.X0) J<|O (.ref 5 3 0 0) J<|O (q6 f) J<|O (.d (.bool (decide (c.X0≤f)))) J ?_
      obtain ⟨bu,ag,o⟩:=q7 o
      refine qy 7 (fun A st=>∃ (ao ap aq ar au av : V),st = A [(53,qd bu),(52,av),(51,au),(50,ar),(49,aq),(48,ap),(47,ao)]) ?_ ?_
      ·refine qw J J ag (fun ag=>?_) (fun ag=>?_)
       ·refine O (.ref 5 3 0 0) J<|O (q6 f) J<|O (.ref 9 4 0 2) J<|O (q6 c.X1) J<|O (.d (.bool (decide (f < c.X1)))) J<|O (.d (.bool (decide (f < c.X1)))) J<|q8 ?_
        obtain rfl:=qc ag
        exact ⟨_,_,_,_,_,_,J⟩
       refine q9 J<|q9 J<|q9 J<|q9 J<|q9 J<|O (qd false) J<|q8 ?_
       obtain rfl:=qc ag
       exact ⟨_,_,_,_,_,_,J⟩
      rintro _ ⟨ao,ap,aq,ar,au,av,rfl⟩
      refine q8 ?_
      refine qk J o (fun _ o=>?_) (fun _ o=>?_)
      ·refine Q4 [Q9 7,q0,(some [8,10],[8,11]),(some [],[10]),q0,qn 9,q0,qn 9,q0,qn 7,q0,q0,qn 5,q0,q0,qn 5,q0] (by kernel_rfl)<|O (.ref 5 3 0 2) J<|O (.hs 7 1 0 1) J<|U J<|O (.ref 5 3 0 2) J<|O (.hs 7 1 0 1) J<|U J<|O (.ref 7 1 0 0) J<|O (.hs 8 2 0 t.2.length) J<|O (.ref 9 4 0 1) J<|O (q6 c.Y0) J<|O (.ref 9 4 0 3) J<|O (q6 c.Y1) J<|O (.d (.agg [G c.Y0,G c.Y1])) J<|Qh (.hs 10 2 0 [({Lo:=c.Y0,Hi:=c.Y1} : qi)].length) (.dat 2 ([({Lo:=c.Y0,Hi:=c.Y1} : qi)].map Q5)) J ?_
       obtain ⟨bv,bw,o⟩:=q7 o
       refine Y2 (xs:=t.2) (ys:=[({Lo:=c.Y0,Hi:=c.Y1} : qi)]) (enc:=Q5) (.hs 10 2 0 [({Lo:=c.Y0,Hi:=c.Y1} : qi)].length) bw J J J J J J J (Kz J J) J J J J<|O (.ref 7 1 0 0) J<|Q3 7 (.cel 1 [[.hs 11 2 0 bv.length]]) J<|qr ?_
       obtain rfl:=qc o
       exact ⟨_,J,wkA [(5,5),(6,6),(7,7),(8,11)] [] []⟩
      refine ql<|Q7 ?_
      obtain rfl:=qc o
      exact ⟨_,J,wkA [(5,5),(6,6),(7,7),(8,8)] [] []⟩
     intro af hb
     subst hb
     refine qs<|O (.d (G (w64 (t.1 + 1)))) J<|U J<|qr ?_
     exact ⟨_,(Option.some.inj x).symm,wkA [(5,5),(6,6),(7,7),(8,8)] [] []⟩
    refine Q1 ?_
    refine ⟨_,(Option.some.inj x).symm,fun hm=>?_⟩
    subst hm
    obtain rfl:=qc ae
    exact ⟨_,J,wkA [(5,5),(6,6),(7,7),(8,8)] [] []⟩
   intro s hb
   subst hb
   refine qs<|O (q6 1) J<|U J<|q8<|Uu<|qb<|O (qd false) J<|q8<|qe<|U1 J<|Q1<|q2h<|qe ?_
   refine Ys (st':=⟨[(0,.yld 4),(1,.ref 1 1 0 0),(2,.ref 2 1 0 0),(4,q6 b.1),(5,.ref 5 3 0 0)],[(0,.cel 4 [[.hs 6 4 0 b.2.2.2.2.length,.d (.sl 2 (b.2.1.map Q5)),q6 b.2.2.1,q6 b.2.2.2.1]]),(1,.cel 1 [[.d (.sl 1 (h.map (eI .i64)))]]),(2,.cel 1 [[.hs 3 1 0 [a].length]]),(3,.dat 1 ([a].map Z5)),(4,.loop [(2,.d (.nilsl)),(3,q6 0),(4,.ref 0 4 0 0),(10,.fn 161 [.ref 1 1 0 0,.ref 2 1 0 0])] [11] A847 B848 .ready none),(5,.cel 3 [[q6 f,q6 k,.hs 7 1 0 1]]),(6,.dat 4 (b.2.2.2.2.map qm)),(7,.cel 1 [[.d (.sl 2 (s.map Q5))]])],8⟩) (wkA [(5,5),(6,6),(7,7)] [8] []) ?_ (by simp)
   refine qs<|U J<|O (.agg [q6 f,q6 k,.hs 7 1 0 1]) J ?_
   obtain ⟨bz,ah,j⟩:=q7 j
   refine qdf (fun y=>y = bz) (fun (y : List qi × Int × Int × List qf)=>⟨[(0,.yld 4),(1,.ref 1 1 0 0),(2,.ref 2 1 0 0),(4,q6 b.1),(74,qd true)],[(0,.cel 4 [[.hs 5 4 0 y.2.2.2.length,.d (.sl 2 (y.1.map Q5)),q6 y.2.1,q6 y.2.2.1]]),(1,.cel 1 [[.d (.sl 1 (h.map (eI .i64)))]]),(2,.cel 1 [[.hs 3 1 0 [a].length]]),(3,.dat 1 ([a].map Z5)),(4,.loop [(2,.d (.nilsl)),(3,q6 0),(4,.ref 0 4 0 0),(10,.fn 161 [.ref 1 1 0 0,.ref 2 1 0 0])] [11] A847 B848 .ready none),(5,.dat 4 (y.2.2.2.map qm))],6⟩) hA847 hB848 J J J J J J ?_ ?_
   ·refine qs<|Qp J J<|Q3 8 (.cel 3 [[q6 f,q6 k,.hs 7 1 0 1]]) J<|qr ?_
    refine ⟨J,_,J,?_⟩
    refine qu<|qb<|O (.ref 8 3 0 2) J<|O (.hs 7 1 0 1) J<|O (.ref 7 1 0 0) J<|O (.d (.sl 2 (s.map Q5))) J ?_
    obtain ⟨ai,ca,ah⟩:=q7 ah
    refine qt (qk8 s ai ca) J<|U J<|O (.d (.sl 2 (ai.1.map Q5))) J<|O (q6 ai.2) J<|qa J<|qa J<|q8<|qs<|O (.ref 8 3 0 0) J<|O (q6 f) J<|O (.ref 8 3 0 1) J<|O (q6 k) J<|U J ?_
    obtain ⟨ab,cb,ah⟩:=q7 ah
    refine Qs [(0,0),(1,6)] [(0,0),(1,3),(2,3),(3,3),(4,3),(5,3),(6,1),(7,3),(8,3),(9,2)] [.ref 0 4 0 0,q6 f,q6 k,.d (.sl 2 (ai.1.map Q5))] (.d (.tup [])) 2 [(0,.cel 4 [[.hs 9 4 0 ab.2.2.2.length,.d (.sl 2 (ab.1.map Q5)),q6 ab.2.1,q6 ab.2.2.1]]),(9,.dat 4 (ab.2.2.2.map qm)),(1,.cel 1 [[.d (.sl 1 (h.map (eI .i64)))]]),(2,.cel 1 [[.hs 3 1 0 [a].length]]),(3,.dat 1 ([a].map Z5)),(4,.loop [(2,.d (.nilsl)),(3,q6 0),(4,.ref 0 4 0 0),(10,.fn 161 [.ref 1 1 0 0,.ref 2 1 0 0])] [11] A847 B848 .busy none),(5,.cel 3 [[q6 f,q6 k,.hs 7 1 0 1]]),(7,.cel 1 [[.d (.sl 2 (s.map Q5))]]),(8,.cel 3 [[q6 f,q6 k,.hs 7 1 0 1]])] 10 (qsd b.2.2.2.2 b.2.1 b.2.2.1 b.2.2.2.1 f k ai.1 ab cb)<|qr<|Q8<|Q7 ?_
    refine ⟨_,J,?_⟩
    obtain rfl:=qc ah
    exact ⟨_,J,wkA [(5,9)] [] []⟩
   intro y hb
   subst hb
   refine O (qd false) J<|q8<|U1 J<|ql<|Q7<|Q8<|qs<|U J<|O (.d (G (w64 (b.1 + 1)))) J<|qa J<|qr ?_
   exact ⟨_,(Option.some.inj j).symm,wkA [(5,5)] [] []⟩
  refine Q1 ?_
  refine ⟨_,(Option.some.inj j).symm,fun hm=>?_⟩
  subst hm
  refine ⟨.inl J,_,J,_,_,.nor,J,by decide,?_⟩
  refine qbq<|Q7 ?_
  obtain rfl:=qc al
  exact ⟨_,J,wkA [(0,0),(1,5)] [] []⟩
 intro n st hb hw
 subst hb
 refine Ys hw ?_ (by simp)
 refine qb ?_
 obtain ⟨cc,aj,u⟩:=q7 u
 refine q71 [.ref 0 4 0 0] (fun q=>q = cc) (fun (q : Int × List qf)=>⟨[(26,.tup [.hs 0 4 0 q.2.length,q6 q.1])],[(0,.dat 4 (q.2.map qm))],1⟩) J J Tryz.func139 J (by kernel_rfl) (by kernel_rfl) J ?_ ?_
 ·refine qb<|qa J<|qa J<|q8<|qe<|qb<|U J<|O (.ref 0 4 0 0) J<|O (.ref 0 4 0 0) J<|O (.hs 1 4 0 n.2.2.2.length) J<|O (q6 (n.2.2.2.length : Int)) J<|O (.d (.bool (decide ((n.2.2.2.length : Int) > 400)))) J<|q8 ?_
  refine qk J aj (fun _ aj=>?_) (fun _ aj=>?_)
  ·refine qb<|qa J<|qa J<|qp ?_
   refine ⟨.inr J,_,J,?_⟩
   obtain rfl:=qc aj
   exact ⟨_,J,wkA [] [] [0]⟩
  refine ql<|qb<|U J<|O (.ref 0 4 0 0) J<|O (.ref 0 4 0 0) J<|O (.hs 1 4 0 n.2.2.2.length) J<|qa J<|qa J<|qp ?_
  refine ⟨.inr J,_,J,?_⟩
  obtain rfl:=qc aj
  exact ⟨_,J,wkA [(0,1)] [] []⟩
 intro q hb
 subst hb
 refine O (.hs 0 4 0 q.2.length) J<|O (q6 q.1) J<|qa J<|qa J<|qp ?_
 obtain rfl:=qc u
 exact finD (.inr J) (v:=.tup [.hs 0 4 0 q.2.length,q6 q.1]) J (q94 (Je (Zo J J) (Je J J))) (.refl _)
theorem qau (g : List qf) (h : List qf) (r : Bool) (b : U2 g h = some r) : Pure Tryz.prog tab 97 [.sl 4 (g.map qm),.sl 4 (h.map qm)] (.bool r):=by
 unfold U2 at b
 refine Qa Tryz.func97 J (by kernel_rfl) (by kernel_rfl) J<|qb<|qa J<|q8<|qe<|qb<|U J<|Qk J<|U J<|Qk J<|O (.d (.bool ((g.length : Int) != (h.length : Int)))) J<|q8 ?_
 refine qk J b (fun _ b=>?_) (fun _ b=>?_)
 ·refine qb<|qa J<|qp ?_
  obtain rfl:=qc b
  exact qv (qd false) J
 refine ql<|qe<|qb<|U J<|Qk J<|U J<|q8 ?_
 obtain ⟨l,m,b⟩:=q7 b
 refine Qd (fun k=>.inl k = l) (fun (k : Unit)=>⟨[],[],0⟩) (by simp) ?_ ?_
 ·refine Q6 (qat g h) (fun (j : Int)=>⟨[(0,.d (.sl 4 (g.map qm))),(1,.d (.sl 4 (h.map qm))),(12,q6 (g.length : Int)),(13,q6 j)],[],0⟩) 0 l m (wkA [] [] []) ?_
  intro j p a
  unfold qat at a
  refine qb<|O (.d (.bool (decide (j < (g.length : Int))))) J<|q8<|qe ?_
  refine qk J a (fun _ a=>?_) (fun _ a=>?_)
  ·refine ql<|qe<|qu<|qb<|U J<|qa J<|q8<|qe<|Q4 [q0,q0,q0,q0,q0,q0,q0,q0,q0] (by kernel_rfl)<|U J<|U J ?_
   obtain ⟨c,n,a⟩:=q7 a
   refine Qc (enc:=qm) n J<|O (.d (.agg [G c.X0,G c.Y0,G c.X1,G c.Y1])) J<|U J<|U J ?_
   obtain ⟨f,o,a⟩:=q7 a
   refine Qc (enc:=qm) o J<|O (.d (.agg [G f.X0,G f.Y0,G f.X1,G f.Y1])) J<|O (.d (.bool (!((c.X0 == f.X0) && ((c.Y0 == f.Y0) && ((c.X1 == f.X1) && ((c.Y1 == f.Y1) && true))))))) J<|q8 ?_
   refine qk J a (fun _ a=>?_) (fun _ a=>?_)
   ·refine qb<|qa J<|qp ?_
    refine ⟨_,(Option.some.inj a).symm,fun hm=>?_⟩
    subst hm
    obtain rfl:=qc b
    exact qv (qd false) J
   refine ql<|Q7<|Q8<|qs<|O (.d (G (w64 (j + 1)))) J<|U J<|qr ?_
   exact ⟨_,(Option.some.inj a).symm,wkA [] [] []⟩
  refine Q1 ?_
  refine ⟨_,(Option.some.inj a).symm,fun hm=>?_⟩
  subst hm
  exact ⟨_,J,wkA [] [] []⟩
 intro k hb
 subst hb
 refine qb<|qa J<|qp ?_
 obtain rfl:=qc b
 exact qv (qd true) J
theorem qdu (c : List qf) (r : Int) (a : q3a c = some r) : Pure Tryz.prog tab 49 [.sl 4 (c.map qm)] (G r):=by
 unfold q3a at a
 refine Qa Tryz.func49 J (by kernel_rfl) (by kernel_rfl) J<|qb<|qa J<|q8<|qe<|qb<|U J<|Qk J<|O (.d (.bool (decide ((c.length : Int) > 400)))) J<|q8 ?_
 refine qk J a (fun _ a=>?_) (fun _ a=>?_)
 ·refine qb<|qa J<|qp ?_
  obtain rfl:=qc a
  exact qv (q6 4) J
 refine ql<|qe<|qb<|U J ?_
 obtain ⟨o,p,a⟩:=q7 a
 refine qt (qu7 c (fun g=>q1u g) 94 [] (fun g r hr=>qsb g r hr) o p) J<|q8 ?_
 refine qk J a (fun _ a=>?_) (fun _ a=>?_)
 ·refine qb<|qa J<|qp ?_
  obtain rfl:=qc a
  exact qv (q6 8) J
 refine ql<|qe<|qb<|U J ?_
 obtain ⟨f,q,a⟩:=q7 a
 refine qt (qj5 c f q) J<|U J<|O (.d (.sl 4 (f.1.map qm))) J<|O (q6 f.2) J<|qa J<|qa J<|qo<|U J<|O (qd (f.2 != 0)) J ?_
 obtain ⟨s,b,a⟩:=q7 a
 refine qy 6 (fun A st=>∃ (j k l m n : V),st = A [(22,qd s),(21,n),(20,m),(19,l),(18,k),(17,j)]) ?_ ?_
 ·refine qw J J b (fun b=>?_) (fun b=>?_)
  ·refine q9 J<|q9 J<|q9 J<|q9 J<|O (qd true) J<|q8 ?_
   obtain rfl:=qc b
   exact ⟨_,_,_,_,_,J⟩
  refine U J<|U J ?_
  obtain ⟨h,t,b⟩:=q7 b
  refine qt (qau f.1 c h t) J<|O (qd (!h)) J<|O (qd (!h)) J<|q8 ?_
  obtain rfl:=qc b
  exact ⟨_,_,_,_,_,J⟩
 rintro _ ⟨j,k,l,m,n,rfl⟩
 refine q8 ?_
 refine qk J a (fun _ a=>?_) (fun _ a=>?_)
 ·refine qb<|qa J<|qp ?_
  obtain rfl:=qc a
  exact qv (q6 8) J
 refine ql<|qb<|qa J<|qp ?_
 obtain rfl:=qc a
 exact qv (q6 0) J
theorem qdr (a : Int) (r : Bool) (c : q4q a = some r) : Pure Tryz.prog tab 50 [G a] (.bool r):=by
 unfold q4q at c
 refine Qa Tryz.func50 J (by kernel_rfl) (by kernel_rfl) J<|qb<|qa J<|qo<|U J<|O (.d (.bool (decide (a ≥ (-1000000))))) J ?_
 obtain ⟨f,b,c⟩:=q7 c
 refine qy 4 (fun A st=>∃ (g h j : V),st = A [(8,qd f),(7,j),(6,h),(5,g)]) ?_ ?_
 ·refine qw J J b (fun b=>?_) (fun b=>?_)
  ·refine U J<|O (.d (.bool (decide (a≤1000000)))) J<|O (.d (.bool (decide (a≤1000000)))) J<|q8 ?_
   obtain rfl:=qc b
   exact ⟨_,_,_,J⟩
  refine q9 J<|q9 J<|O (qd false) J<|q8 ?_
  obtain rfl:=qc b
  exact ⟨_,_,_,J⟩
 rintro _ ⟨g,h,j,rfl⟩
 refine qa J<|qp ?_
 obtain rfl:=qc c
 exact qv (qd f) J
theorem qs7 (j : Int) (k : Int) (f : Int) (b : Int) (g : List qf) (r : List qf × Int × Int × List qj) (c : q7j  j k f b g = some r) : Qr Tryz.prog tab 51 [.ref 0 4 0 0,q6 f,q6 b,.d (.sl 4 (g.map qm))] [(0,.dat 4 [[.nilsl,.nilsl,G j,G k]])] 1 (.d (.tup [])) [(0,.cel 4 [[.hs 1 6 0 r.2.2.2.length,.d (.sl 4 (r.1.map qm)),q6 r.2.1,q6 r.2.2.1]]),(1,.dat 6 (r.2.2.2.map Qf))] 2:=by
 unfold q7j at c
 refine Qy Tryz.func51 J (by kernel_rfl) (by kernel_rfl) J<|qe<|qb<|U J<|Qk J<|O (.d (.bool (decide ((g.length : Int) > 0)))) J ?_
 obtain ⟨ah,o,c⟩:=q7 c
 refine qy 8 (fun A st=>∃ (q s t u v w x : V),st = A [(21,qd ah),(20,x),(19,w),(18,v),(17,u),(16,t),(15,s),(14,q)]) ?_ ?_
 ·refine qw J J o (fun o=>?_) (fun o=>?_)
  ·refine U J<|O (.ref 0 4 0 0) J<|O (.ref 0 4 0 3) J<|O (q6 k) J<|U J<|O (qd (k == f)) J<|O (qd (k == f)) J<|q8 ?_
   obtain rfl:=qc o
   exact ⟨_,_,_,_,_,_,_,J⟩
  refine q9 J<|q9 J<|q9 J<|q9 J<|q9 J<|q9 J<|O (qd false) J<|q8 ?_
  obtain rfl:=qc o
  exact ⟨_,_,_,_,_,_,_,J⟩
 rintro _ ⟨q,s,t,u,v,w,x,rfl⟩
 obtain ⟨ai,m,c⟩:=q7 c
 refine qy 8 (fun A st=>∃ (y z aa ab ac ad ae : V),st = A [(29,qd ai),(28,ae),(27,ad),(26,ac),(25,ab),(24,aa),(23,z),(22,y)]) ?_ ?_
 ·refine qw J J m (fun m=>?_) (fun m=>?_)
  ·refine U J<|O (.ref 0 4 0 0) J<|O (.ref 0 4 0 1) J<|O (.d (.nilsl)) J<|U J ?_
   obtain ⟨af,aj,m⟩:=q7 m
   refine qt (qdl (.cons (.nil _) (.cons (.refl _) .nil)) (qau [] g af aj)) J<|O (qd af) J<|q8 ?_
   obtain rfl:=qc m
   exact ⟨_,_,_,_,_,_,_,J⟩
  refine q9 J<|q9 J<|q9 J<|q9 J<|q9 J<|q9 J<|O (qd false) J<|q8 ?_
  obtain rfl:=qc m
  exact ⟨_,_,_,_,_,_,_,J⟩
 rintro _ ⟨y,z,aa,ab,ac,ad,ae,rfl⟩
 refine q8 ?_
 refine qk J c (fun _ c=>?_) (fun _ c=>?_)
 ·refine qe<|qb<|U J<|O (.ref 0 4 0 0) J<|O (.ref 0 4 0 2) J<|O (q6 j) J<|qa J<|q8 ?_
  obtain ⟨ag,ak,c⟩:=q7 c
  refine Qd (fun p=>p = ag) (fun (p : Unit)=>⟨[(0,.ref 0 4 0 0),(2,q6 b)],[(0,.dat 4 [[.nilsl,.nilsl,G j,G k]])],1⟩) (by simp) ?_ ?_
  ·refine Q6 (qds j) (fun (al : Unit)=>⟨[(0,.ref 0 4 0 0),(2,q6 b),(8,q6 j)],[(0,.dat 4 [[.nilsl,.nilsl,G j,G k]])],1⟩) () ag ak (wkA [] [] []) ?_
   intro al ar n
   unfold qds at n
   refine qe<|qb<|U J<|U J<|O (.ref 0 4 0 0) J<|O (.ref 0 4 0 0) J<|O (.d (.nilsl)) J<|O (q6 0) J<|O (.d (.bool (decide (j < 0)))) J<|q8 ?_
   refine qk J n (fun _ n=>?_) (fun _ n=>?_)
   ·refine ql<|qe<|qu<|qs<|U J<|O (.ref 0 4 0 0) J<|O (.ref 0 4 0 0) J<|O (.d (.nilsl)) J<|U J<|U J ?_
    cases n
   refine Q1 ?_
   refine ⟨_,(Option.some.inj n).symm,fun hm=>?_⟩
   subst hm
   exact ⟨_,J,wkA [] [] []⟩
  intro p hb
  subst hb
  refine qb<|U J<|U J<|O (.ref 0 4 0 0) J<|O (.ref 0 4 0 3) J<|Q3 0 (.dat 4 [[.nilsl,.nilsl,G j,G b]]) J<|qp ?_
  obtain rfl:=qc c
  exact ⟨.inr J,_,J,wkA [] [] [1]⟩
 refine ql<|qb<|U J<|U J<|U J<|U J<|O (.ref 0 4 0 0) J<|O (.ref 0 4 0 0) J<|O (.d (.nilsl)) J<|O (q6 0) J<|U J<|U J<|O (.ref 0 4 0 0) J<|O (.ref 0 4 0 2) J<|Q3 0 (.dat 4 [[.nilsl,.nilsl,G 0,G k]]) J<|O (.ref 0 4 0 0) J<|O (.ref 0 4 0 1) J<|Q3 0 (.dat 4 [[.nilsl,.sl 4 (g.map qm),G 0,G k]]) J<|O (.ref 0 4 0 0) J<|O (.ref 0 4 0 3) J<|Q3 0 (.dat 4 [[.nilsl,.sl 4 (g.map qm),G 0,G b]]) J<|qo<|U J<|Qk J<|U J<|q8 ?_
 obtain ⟨am,an,c⟩:=q7 c
 refine qu<|Q6 (q4r g f b) (fun (l : Int × List qj)=>⟨[(0,.ref 0 4 0 0),(1,q6 f),(2,q6 b),(72,.d (.sl 4 (g.map qm))),(73,q6 (g.length : Int)),(74,q6 l.1)],[(0,.cel 4 [[.hs 1 6 0 l.2.length,.d (.sl 4 (g.map qm)),q6 0,q6 b]]),(1,.dat 6 (l.2.map Qf))],2⟩) (0,[]) am an (wkA [] [] [1]) ?_
 intro l au h
 unfold q4r at h
 refine qb<|O (.d (.bool (decide (l.1 < (g.length : Int))))) J<|q8<|qe ?_
 refine qk J h (fun _ h=>?_) (fun _ h=>?_)
 ·refine ql<|qe<|qu<|qb ?_
  obtain ⟨a,ao,h⟩:=q7 h
  refine Qc (enc:=qm) ao J<|O (.d (.agg [G a.X0,G a.Y0,G a.X1,G a.Y1])) J<|Qp J J<|Q3 2 (.dat 4 [[G a.X0,G a.Y0,G a.X1,G a.Y1]]) J<|q8<|Q4 [Q9 0,q0,q0,(some [1,3],[1,4]),(some [],[3]),q0,q0,q0,qn 2,q0,qn 2,q0,q0,q0,qn 2,q0,qn 2,q0,qn 0,q0,q0,q0,q0] (by kernel_rfl)<|U J<|U J<|O (.ref 0 4 0 0) J<|O (.ref 0 4 0 0) J<|O (.hs 1 6 0 l.2.length) J<|O (.ref 2 4 0 0) J<|O (q6 a.X0) J<|O (.ref 2 4 0 1) J<|O (q6 a.Y0) J<|U J<|O (.d (.agg [G a.X0,G a.Y0,G f])) J<|O (.ref 2 4 0 2) J<|O (q6 a.X1) J<|O (.ref 2 4 0 3) J<|O (q6 a.Y1) J<|U J<|O (.d (.agg [G a.X1,G a.Y1,G b])) J<|O (.d (.agg [G a.X0,G a.Y0,G f,G a.X1,G a.Y1,G b])) J<|Qh (.hs 3 6 0 [({Lo:=({X:=a.X0,Y:=a.Y0,Z:=f} : qh),Hi:=({X:=a.X1,Y:=a.Y1,Z:=b} : qh)} : qj)].length) (.dat 6 ([({Lo:=({X:=a.X0,Y:=a.Y0,Z:=f} : qh),Hi:=({X:=a.X1,Y:=a.Y1,Z:=b} : qh)} : qj)].map Qf)) J ?_
  obtain ⟨ap,aq,h⟩:=q7 h
  refine Y2 (xs:=l.2) (ys:=[({Lo:=({X:=a.X0,Y:=a.Y0,Z:=f} : qh),Hi:=({X:=a.X1,Y:=a.Y1,Z:=b} : qh)} : qj)]) (enc:=Qf) (.hs 3 6 0 [({Lo:=({X:=a.X0,Y:=a.Y0,Z:=f} : qh),Hi:=({X:=a.X1,Y:=a.Y1,Z:=b} : qh)} : qj)].length) aq J J J J J J J (Kz J J) J J J J<|O (.ref 0 4 0 0) J<|O (.ref 0 4 0 0) J<|Q3 0 (.cel 4 [[.hs 4 6 0 ap.length,.d (.sl 4 (g.map qm)),q6 0,q6 b]]) J<|qr<|Q8<|qs<|O (.d (G (w64 (l.1 + 1)))) J<|U J<|qr ?_
  exact ⟨_,(Option.some.inj h).symm,wkA [(1,4)] [] []⟩
 refine Q1 ?_
 refine ⟨_,(Option.some.inj h).symm,fun hm=>?_⟩
 subst hm
 obtain rfl:=qc c
 exact ⟨.inl J,_,J,wkA [(1,1)] [] []⟩
theorem qiy (j : List qf) (f : Int) (g : Int) (r : List qj × Int) (a : q37 j f g = some r) : Pure Tryz.prog tab 11 [.sl 4 (j.map qm),G f,G g] (.tup [.sl 6 (r.1.map Qf),G r.2]):=by
 unfold q37 at a
 refine Qa Tryz.func11 J (by kernel_rfl) (by kernel_rfl) J<|qb<|qa J<|qa J<|q8<|qe<|qb<|U J ?_
 obtain ⟨m,z,a⟩:=q7 a
 refine qt (qdu j m z) J<|qa J<|qo<|U J<|O (qd (m != 0)) J<|q8 ?_
 refine qk J a (fun _ a=>?_) (fun _ a=>?_)
 ·refine qb<|U J<|qa J<|qa J<|qp ?_
  obtain rfl:=qc a
  exact finD (.inr J) (v:=.d (.tup [.nilsl,G m])) J J (Yu (.cons (.nil _) (.cons (.refl _) .nil)))
 refine ql<|qe<|qb<|U J ?_
 obtain ⟨o,h4,a⟩:=q7 a
 refine qt (qdr f o h4) J<|O (qd (!o)) J ?_
 obtain ⟨c7,h,a⟩:=q7 a
 refine qy 5 (fun A st=>∃ (p q s t : V),st = A [(22,qd c7),(21,t),(20,s),(19,q),(18,p)]) ?_ ?_
 ·refine qw J J h (fun h=>?_) (fun h=>?_)
  ·refine q9 J<|q9 J<|q9 J<|O (qd true) J<|q8 ?_
   obtain rfl:=qc h
   exact ⟨_,_,_,_,J⟩
  refine U J ?_
  obtain ⟨n,ac,h⟩:=q7 h
  refine qt (qdr g n ac) J<|O (qd (!n)) J<|O (qd (!n)) J<|q8 ?_
  obtain rfl:=qc h
  exact ⟨_,_,_,_,J⟩
 rintro _ ⟨p,q,s,t,rfl⟩
 obtain ⟨ad,k,a⟩:=q7 a
 refine qy 5 (fun A st=>∃ (u w x y : V),st = A [(27,qd ad),(26,y),(25,x),(24,w),(23,u)]) ?_ ?_
 ·refine qw J J k (fun k=>?_) (fun k=>?_)
  ·refine q9 J<|q9 J<|q9 J<|O (qd true) J<|q8 ?_
   obtain rfl:=qc k
   exact ⟨_,_,_,_,J⟩
  refine U J<|U J<|O (.d (.bool (decide (f ≥ g)))) J<|O (.d (.bool (decide (f ≥ g)))) J<|q8 ?_
  obtain rfl:=qc k
  exact ⟨_,_,_,_,J⟩
 rintro _ ⟨u,w,x,y,rfl⟩
 refine q8 ?_
 refine qk J a (fun _ a=>?_) (fun _ a=>?_)
 ·refine qb<|qa J<|qa J<|qp ?_
  obtain rfl:=qc a
  exact finD (.inr J) (v:=.d (.tup [.nilsl,G 2])) J J (Yu (.cons (.nil _) (.cons (.refl _) .nil)))
 refine ql<|qb<|Qp J J<|qo<|U J<|U J<|U J ?_
 obtain ⟨b,ae,a⟩:=q7 a
 refine Qs [(0,0)] [(0,0),(1,1)] [.ref 0 4 0 0,q6 f,q6 g,.d (.sl 4 (j.map qm))] (.d (.tup [])) 2 [(0,.cel 4 [[.hs 1 6 0 b.2.2.2.length,.d (.sl 4 (b.1.map qm)),q6 b.2.1,q6 b.2.2.1]]),(1,.dat 6 (b.2.2.2.map Qf))] 2 (qs7 0 0 f g j b ae)<|qo ?_
 obtain ⟨af,l,a⟩:=q7 a
 refine q71 [.ref 0 4 0 0] (fun c=>c = af) (fun (c : Int × List qj)=>⟨[(32,.tup [.hs 0 6 0 c.2.length,q6 c.1])],[(0,.dat 6 (c.2.map Qf))],1⟩) J J Tryz.func52 J (by kernel_rfl) (by kernel_rfl) J ?_ ?_
 ·refine qb<|qa J<|qa J<|q8<|qe<|qb<|U J<|O (.ref 0 4 0 0) J<|O (.ref 0 4 0 0) J<|O (.hs 1 6 0 b.2.2.2.length) J<|O (q6 (b.2.2.2.length : Int)) J<|O (.d (.bool (decide ((b.2.2.2.length : Int) > 400)))) J<|q8 ?_
  refine qk J l (fun _ l=>?_) (fun _ l=>?_)
  ·refine qb<|qa J<|qa J<|qp ?_
   refine ⟨.inr J,_,J,?_⟩
   obtain rfl:=qc l
   exact ⟨_,J,wkA [] [] [0]⟩
  refine ql<|qb<|U J<|O (.ref 0 4 0 0) J<|O (.ref 0 4 0 0) J<|O (.hs 1 6 0 b.2.2.2.length) J<|qa J<|qa J<|qp ?_
  refine ⟨.inr J,_,J,?_⟩
  obtain rfl:=qc l
  exact ⟨_,J,wkA [(0,1)] [] []⟩
 intro c hb
 subst hb
 refine O (.hs 0 6 0 c.2.length) J<|O (q6 c.1) J<|qa J<|qa J<|qp ?_
 obtain rfl:=qc a
 exact finD (.inr J) (v:=.tup [.hs 0 6 0 c.2.length,q6 c.1]) J (q94 (Je (Zo J J) (Je J J))) (.refl _)
theorem que (f : List qj) (j : qj→Option Bool) (p1F : FuncId) (p1C : List DV) (p1Ok : ∀ (c : qj) (r : Bool),j c = some r→Pure Tryz.prog tab p1F ([.agg [G c.Lo.X,G c.Lo.Y,G c.Lo.Z,G c.Hi.X,G c.Hi.Y,G c.Hi.Z]] ++ p1C) (.bool r)) (r : Int) (g : q7u f j = some r) : Pure Tryz.prog tab 117 [.sl 6 (f.map Qf),.fn p1F p1C] (G r):=by
 unfold q7u at g
 refine Qa Tryz.func117 J (by kernel_rfl) (by kernel_rfl) J<|qb<|qa J<|q8<|qe<|qb<|U J<|Qk J<|U J<|q8 ?_
 obtain ⟨l,m,g⟩:=q7 g
 refine Qd (fun k=>.inl k = l) (fun (k : Unit)=>⟨[],[],0⟩) (by simp) ?_ ?_
 ·refine Q6 (U3 f j) (fun (h : Int)=>⟨[(0,.d (.sl 6 (f.map Qf))),(1,.d (.fn p1F p1C)),(7,q6 (f.length : Int)),(8,q6 h)],[],0⟩) 0 l m (wkA [] [] []) ?_
  intro h q a
  unfold U3 at a
  refine qb<|O (.d (.bool (decide (h < (f.length : Int))))) J<|q8<|qe ?_
  refine qk J a (fun _ a=>?_) (fun _ a=>?_)
  ·refine ql<|qe<|qu<|qb<|U J<|qa J<|qo<|U J<|U J<|U J ?_
   obtain ⟨b,n,a⟩:=q7 a
   refine Qc (enc:=Qf) n J<|O (.d (.agg [G b.Lo.X,G b.Lo.Y,G b.Lo.Z,G b.Hi.X,G b.Hi.Y,G b.Hi.Z])) J ?_
   obtain ⟨o,p,a⟩:=q7 a
   refine Y5 [.d (.agg [G b.Lo.X,G b.Lo.Y,G b.Lo.Z,G b.Hi.X,G b.Hi.Y,G b.Hi.Z])] (p1Ok b o p) J J J (.inl J)<|q8 ?_
   refine qk J a (fun _ a=>?_) (fun _ a=>?_)
   ·refine qb<|U J<|qa J<|qp ?_
    refine ⟨_,(Option.some.inj a).symm,fun hm=>?_⟩
    subst hm
    obtain rfl:=qc g
    exact qv (q6 h) J
   refine ql<|Q7<|Q8<|qs<|O (.d (G (w64 (h + 1)))) J<|U J<|qr ?_
   exact ⟨_,(Option.some.inj a).symm,wkA [] [] []⟩
  refine Q1 ?_
  refine ⟨_,(Option.some.inj a).symm,fun hm=>?_⟩
  subst hm
  exact ⟨_,J,wkA [] [] []⟩
 intro k hb
 subst hb
 refine qb<|qa J<|qp ?_
 obtain rfl:=qc g
 exact qv (q6 (-1)) J
theorem qjr (c : List qj) (f : qj→Option Bool) (p1F : FuncId) (p1C : List DV) (p1Ok : ∀ (a : qj) (r : Bool),f a = some r→Pure Tryz.prog tab p1F ([.agg [G a.Lo.X,G a.Lo.Y,G a.Lo.Z,G a.Hi.X,G a.Hi.Y,G a.Hi.Z]] ++ p1C) (.bool r)) (r : Bool) (b : q3e c f = some r) : Pure Tryz.prog tab 72 [.sl 6 (c.map Qf),.fn p1F p1C] (.bool r):=by
 unfold q3e at b
 refine Qa Tryz.func72 J (by kernel_rfl) (by kernel_rfl) J<|qb<|qa J<|qo<|U J<|U J ?_
 obtain ⟨g,h,b⟩:=q7 b
 refine qt (que c f p1F p1C p1Ok g h) J<|O (.d (.bool (decide (g ≥ 0)))) J<|qa J<|qp ?_
 obtain rfl:=qc b
 exact qv (.d (.bool (decide (g ≥ 0)))) J
theorem qk2 (a : qh) (r : Bool) (c : q65 a = some r) : Pure Tryz.prog tab 140 [.agg [G a.X,G a.Y,G a.Z]] (.bool r):=by
 unfold q65 at c
 refine Qa Tryz.func140 J (by kernel_rfl) (by kernel_rfl) J<|qb<|Qh (.ref 0 3 0 0) (.dat 3 [[G a.X,G a.Y,G a.Z]]) J<|qa J<|qo<|O (.ref 0 3 0 0) J<|O (q6 a.X) J<|O (.ref 0 3 0 1) J<|O (q6 a.Y) J<|O (.ref 0 3 0 2) J<|O (q6 a.Z) J<|qi6 (r:=min (min a.X a.Y) a.Z) J J (by simp only [qhs];rfl)<|O (.d (.bool (decide ((min (min a.X a.Y) a.Z) ≥ (-1000000))))) J ?_
 obtain ⟨f,b,c⟩:=q7 c
 refine qy 10 (fun A st=>∃ (g h j k l m n o p : V),st = A [(20,qd f),(19,p),(18,o),(17,n),(16,m),(15,l),(14,k),(13,j),(12,h),(11,g)]) ?_ ?_
 ·refine qw J J b (fun b=>?_) (fun b=>?_)
  ·refine O (.ref 0 3 0 0) J<|O (q6 a.X) J<|O (.ref 0 3 0 1) J<|O (q6 a.Y) J<|O (.ref 0 3 0 2) J<|O (q6 a.Z) J<|qi5 (r:=max (max a.X a.Y) a.Z) J J (by simp only [qhr];rfl)<|O (.d (.bool (decide ((max (max a.X a.Y) a.Z)≤1000000)))) J<|O (.d (.bool (decide ((max (max a.X a.Y) a.Z)≤1000000)))) J<|q8 ?_
   obtain rfl:=qc b
   exact ⟨_,_,_,_,_,_,_,_,_,J⟩
  refine q9 J<|q9 J<|q9 J<|q9 J<|q9 J<|q9 J<|q9 J<|q9 J<|O (qd false) J<|q8 ?_
  obtain rfl:=qc b
  exact ⟨_,_,_,_,_,_,_,_,_,J⟩
 rintro _ ⟨g,h,j,k,l,m,n,o,p,rfl⟩
 refine qa J<|qp ?_
 obtain rfl:=qc c
 exact qv (qd f) J
theorem qxi (a : qj) (r : Bool) (b : q8q a = some r) : Pure Tryz.prog tab 100 [.agg [G a.Lo.X,G a.Lo.Y,G a.Lo.Z,G a.Hi.X,G a.Hi.Y,G a.Hi.Z]] (.bool r):=by
 unfold q8q at b
 refine Qa Tryz.func100 J (by kernel_rfl) (by kernel_rfl) J<|qb<|Qh (.ref 0 6 0 0) (.dat 6 [[G a.Lo.X,G a.Lo.Y,G a.Lo.Z,G a.Hi.X,G a.Hi.Y,G a.Hi.Z]]) J<|qa J<|qo<|O (.ref 0 6 0 0) J<|O (.ref 0 6 0 0) J<|O (q6 a.Lo.X) J<|O (.ref 0 6 0 3) J<|O (.ref 0 6 0 3) J<|O (q6 a.Hi.X) J<|O (.d (.bool (decide (a.Lo.X < a.Hi.X)))) J ?_
 obtain ⟨c1,g,b⟩:=q7 b
 refine qy 9 (fun A st=>∃ (j k l m n o p q : V),st = A [(18,qd c1),(17,q),(16,p),(15,o),(14,n),(13,m),(12,l),(11,k),(10,j)]) ?_ ?_
 ·refine qw J J g (fun g=>?_) (fun g=>?_)
  ·refine O (.ref 0 6 0 0) J<|O (.ref 0 6 0 1) J<|O (q6 a.Lo.Y) J<|O (.ref 0 6 0 3) J<|O (.ref 0 6 0 4) J<|O (q6 a.Hi.Y) J<|O (.d (.bool (decide (a.Lo.Y < a.Hi.Y)))) J<|O (.d (.bool (decide (a.Lo.Y < a.Hi.Y)))) J<|q8 ?_
   obtain rfl:=qc g
   exact ⟨_,_,_,_,_,_,_,_,J⟩
  refine q9 J<|q9 J<|q9 J<|q9 J<|q9 J<|q9 J<|q9 J<|O (qd false) J<|q8 ?_
  obtain rfl:=qc g
  exact ⟨_,_,_,_,_,_,_,_,J⟩
 rintro _ ⟨j,k,l,m,n,o,p,q,rfl⟩
 obtain ⟨am,h,b⟩:=q7 b
 refine qy 9 (fun A st=>∃ (s t u v w x y z : V),st = A [(27,qd am),(26,z),(25,y),(24,x),(23,w),(22,v),(21,u),(20,t),(19,s)]) ?_ ?_
 ·refine qw J J h (fun h=>?_) (fun h=>?_)
  ·refine O (.ref 0 6 0 0) J<|O (.ref 0 6 0 2) J<|O (q6 a.Lo.Z) J<|O (.ref 0 6 0 3) J<|O (.ref 0 6 0 5) J<|O (q6 a.Hi.Z) J<|O (.d (.bool (decide (a.Lo.Z < a.Hi.Z)))) J<|O (.d (.bool (decide (a.Lo.Z < a.Hi.Z)))) J<|q8 ?_
   obtain rfl:=qc h
   exact ⟨_,_,_,_,_,_,_,_,J⟩
  refine q9 J<|q9 J<|q9 J<|q9 J<|q9 J<|q9 J<|q9 J<|O (qd false) J<|q8 ?_
  obtain rfl:=qc h
  exact ⟨_,_,_,_,_,_,_,_,J⟩
 rintro _ ⟨s,t,u,v,w,x,y,z,rfl⟩
 obtain ⟨an,c,b⟩:=q7 b
 refine qy 5 (fun A st=>∃ (aa ab ac ad : V),st = A [(32,qd an),(31,ad),(30,ac),(29,ab),(28,aa)]) ?_ ?_
 ·refine qw J J c (fun c=>?_) (fun c=>?_)
  ·refine O (.ref 0 6 0 0) J<|O (.d (.agg [G a.Lo.X,G a.Lo.Y,G a.Lo.Z])) J ?_
   obtain ⟨ae,ao,c⟩:=q7 c
   refine qt (qk2 a.Lo ae ao) J<|O (qd ae) J<|q8 ?_
   obtain rfl:=qc c
   exact ⟨_,_,_,_,J⟩
  refine q9 J<|q9 J<|q9 J<|O (qd false) J<|q8 ?_
  obtain rfl:=qc c
  exact ⟨_,_,_,_,J⟩
 rintro _ ⟨aa,ab,ac,ad,rfl⟩
 obtain ⟨af,f,b⟩:=q7 b
 refine qy 5 (fun A st=>∃ (ag ah ai aj : V),st = A [(37,qd af),(36,aj),(35,ai),(34,ah),(33,ag)]) ?_ ?_
 ·refine qw J J f (fun f=>?_) (fun f=>?_)
  ·refine O (.ref 0 6 0 3) J<|O (.d (.agg [G a.Hi.X,G a.Hi.Y,G a.Hi.Z])) J ?_
   obtain ⟨ak,ap,f⟩:=q7 f
   refine qt (qk2 a.Hi ak ap) J<|O (qd ak) J<|q8 ?_
   obtain rfl:=qc f
   exact ⟨_,_,_,_,J⟩
  refine q9 J<|q9 J<|q9 J<|O (qd false) J<|q8 ?_
  obtain rfl:=qc f
  exact ⟨_,_,_,_,J⟩
 rintro _ ⟨ag,ah,ai,aj,rfl⟩
 refine qa J<|qp ?_
 obtain rfl:=qc b
 exact qv (qd af) J
theorem qx5 (a : qj) (r : Bool) (b : q27 a = some r) : Pure Tryz.prog tab 99 [.agg [G a.Lo.X,G a.Lo.Y,G a.Lo.Z,G a.Hi.X,G a.Hi.Y,G a.Hi.Z]] (.bool r):=by
 unfold q27 at b
 refine Qa Tryz.func99 J (by kernel_rfl) (by kernel_rfl) J<|qb<|Qh (.ref 0 6 0 0) (.dat 6 [[G a.Lo.X,G a.Lo.Y,G a.Lo.Z,G a.Hi.X,G a.Hi.Y,G a.Hi.Z]]) J<|qa J<|qo<|O (.d (.agg [G a.Lo.X,G a.Lo.Y,G a.Lo.Z,G a.Hi.X,G a.Hi.Y,G a.Hi.Z])) J ?_
 obtain ⟨c,f,b⟩:=q7 b
 refine qt (qxi a c f) J<|O (qd (!c)) J<|qa J<|qp ?_
 obtain rfl:=qc b
 exact qv (qd (!c)) J
theorem quc (c : List qf) (j : qf→Option Bool) (p1F : FuncId) (p1C : List DV) (p1Ok : ∀ (f : qf) (r : Bool),j f = some r→Pure Tryz.prog tab p1F ([.agg [G f.X0,G f.Y0,G f.X1,G f.Y1]] ++ p1C) (.bool r)) (r : Int) (g : qax c j = some r) : Pure Tryz.prog tab 112 [.sl 4 (c.map qm),.fn p1F p1C] (G r):=by
 unfold qax at g
 refine Qa Tryz.func112 J (by kernel_rfl) (by kernel_rfl) J<|qb<|qa J<|q8<|qe<|qb<|U J<|Qk J<|U J<|q8 ?_
 obtain ⟨l,m,g⟩:=q7 g
 refine Qd (fun k=>.inl k = l) (fun (k : Unit)=>⟨[],[],0⟩) (by simp) ?_ ?_
 ·refine Q6 (q3f c j) (fun (h : Int)=>⟨[(0,.d (.sl 4 (c.map qm))),(1,.d (.fn p1F p1C)),(7,q6 (c.length : Int)),(8,q6 h)],[],0⟩) 0 l m (wkA [] [] []) ?_
  intro h q a
  unfold q3f at a
  refine qb<|O (.d (.bool (decide (h < (c.length : Int))))) J<|q8<|qe ?_
  refine qk J a (fun _ a=>?_) (fun _ a=>?_)
  ·refine ql<|qe<|qu<|qb<|U J<|qa J<|qo<|U J<|U J<|U J ?_
   obtain ⟨b,n,a⟩:=q7 a
   refine Qc (enc:=qm) n J<|O (.d (.agg [G b.X0,G b.Y0,G b.X1,G b.Y1])) J ?_
   obtain ⟨o,p,a⟩:=q7 a
   refine Y5 [.d (.agg [G b.X0,G b.Y0,G b.X1,G b.Y1])] (p1Ok b o p) J J J (.inl J)<|q8 ?_
   refine qk J a (fun _ a=>?_) (fun _ a=>?_)
   ·refine qb<|U J<|qa J<|qp ?_
    refine ⟨_,(Option.some.inj a).symm,fun hm=>?_⟩
    subst hm
    obtain rfl:=qc g
    exact qv (q6 h) J
   refine ql<|Q7<|Q8<|qs<|O (.d (G (w64 (h + 1)))) J<|U J<|qr ?_
   exact ⟨_,(Option.some.inj a).symm,wkA [] [] []⟩
  refine Q1 ?_
  refine ⟨_,(Option.some.inj a).symm,fun hm=>?_⟩
  subst hm
  exact ⟨_,J,wkA [] [] []⟩
 intro k hb
 subst hb
 refine qb<|qa J<|qp ?_
 obtain rfl:=qc g
 exact qv (q6 (-1)) J
theorem qu6 (c : List qf) (f : qf→Option Bool) (p1F : FuncId) (p1C : List DV) (p1Ok : ∀ (a : qf) (r : Bool),f a = some r→Pure Tryz.prog tab p1F ([.agg [G a.X0,G a.Y0,G a.X1,G a.Y1]] ++ p1C) (.bool r)) (r : Bool) (b : q7p c f = some r) : Pure Tryz.prog tab 104 [.sl 4 (c.map qm),.fn p1F p1C] (.bool r):=by
 unfold q7p at b
 refine Qa Tryz.func104 J (by kernel_rfl) (by kernel_rfl) J<|qb<|qa J<|qo<|U J<|U J ?_
 obtain ⟨g,h,b⟩:=q7 b
 refine qt (quc c f p1F p1C p1Ok g h) J<|O (.d (.bool (decide (g ≥ 0)))) J<|qa J<|qp ?_
 obtain rfl:=qc b
 exact qv (.d (.bool (decide (g ≥ 0)))) J
theorem qsc (a : qf) (r : Bool) (b : q1v a = some r) : Pure Tryz.prog tab 105 [.agg [G a.X0,G a.Y0,G a.X1,G a.Y1]] (.bool r):=by
 unfold q1v at b
 refine Qa Tryz.func105 J (by kernel_rfl) (by kernel_rfl) J<|qb<|Qh (.ref 0 4 0 0) (.dat 4 [[G a.X0,G a.Y0,G a.X1,G a.Y1]]) J<|qa J<|qo<|O (.d (.agg [G a.X0,G a.Y0,G a.X1,G a.Y1])) J ?_
 obtain ⟨c,f,b⟩:=q7 b
 refine qt (qj6 a c f) J<|O (qd (!c)) J<|qa J<|qp ?_
 obtain rfl:=qc b
 exact qv (qd (!c)) J
theorem qj4 (b : List qf) (r : List qf × Int) (a : q3b b = some r) : Pure Tryz.prog tab 57 [.sl 4 (b.map qm)] (.tup [.sl 4 (r.1.map qm),G r.2]):=by
 unfold q3b at a
 refine Qa Tryz.func57 J (by kernel_rfl) (by kernel_rfl) J<|qb<|qa J<|qa J<|q8<|qe<|qb<|U J<|Qk J<|O (.d (.bool (decide ((b.length : Int) > 400)))) J<|q8 ?_
 refine qk J a (fun _ a=>?_) (fun _ a=>?_)
 ·refine qb<|qa J<|qa J<|qp ?_
  obtain rfl:=qc a
  exact finD (.inr J) (v:=.d (.tup [.nilsl,G 4])) J J (Yu (.cons (.nil _) (.cons (.refl _) .nil)))
 refine ql<|qe<|qb<|U J ?_
 obtain ⟨g,h,a⟩:=q7 a
 refine qt (qu6 b (fun f=>q1v f) 105 [] (fun f r hr=>qsc f r hr) g h) J<|q8 ?_
 refine qk J a (fun _ a=>?_) (fun _ a=>?_)
 ·refine qb<|qa J<|qa J<|qp ?_
  obtain rfl:=qc a
  exact finD (.inr J) (v:=.d (.tup [.nilsl,G 8])) J J (Yu (.cons (.nil _) (.cons (.refl _) .nil)))
 refine ql<|qb<|U J ?_
 obtain ⟨c,j,a⟩:=q7 a
 refine qt (qj5 b c j) J<|O (.d (.sl 4 (c.1.map qm))) J<|O (q6 c.2) J<|qa J<|qa J<|qp ?_
 obtain rfl:=qc a
 exact qv (.d (.tup [.sl 4 (c.1.map qm),G c.2])) J
theorem qxd (c : List qj) (m : List qf) (p : Int) (l : Int) (g : Int) (b : Int) (h : List qf) (r : List qf × Int × Int × List qj) (f : q8p  c m p l g b h = some r) : Qr Tryz.prog tab 142 [.ref 0 4 0 0,q6 g,q6 b,.d (.sl 4 (h.map qm))] [(0,.cel 4 [[.hs 1 6 0 c.length,.d (.sl 4 (m.map qm)),q6 p,q6 l]]),(1,.dat 6 (c.map Qf))] 2 (.d (.tup [])) [(0,.cel 4 [[.hs 2 6 0 r.2.2.2.length,.d (.sl 4 (r.1.map qm)),q6 r.2.1,q6 r.2.2.1]]),(2,.dat 6 (r.2.2.2.map Qf))] 3:=by
 unfold q8p at f
 refine Qy Tryz.func142 J (by kernel_rfl) (by kernel_rfl) J<|qe<|qb<|U J<|Qk J<|O (.d (.bool (decide ((h.length : Int) > 0)))) J ?_
 obtain ⟨am,t,f⟩:=q7 f
 refine qy 8 (fun A st=>∃ (v w x y z aa ab : V),st = A [(21,qd am),(20,ab),(19,aa),(18,z),(17,y),(16,x),(15,w),(14,v)]) ?_ ?_
 ·refine qw J J t (fun t=>?_) (fun t=>?_)
  ·refine U J<|O (.ref 0 4 0 0) J<|O (.ref 0 4 0 3) J<|O (q6 l) J<|U J<|O (qd (l == g)) J<|O (qd (l == g)) J<|q8 ?_
   obtain rfl:=qc t
   exact ⟨_,_,_,_,_,_,_,J⟩
  refine q9 J<|q9 J<|q9 J<|q9 J<|q9 J<|q9 J<|O (qd false) J<|q8 ?_
  obtain rfl:=qc t
  exact ⟨_,_,_,_,_,_,_,J⟩
 rintro _ ⟨v,w,x,y,z,aa,ab,rfl⟩
 obtain ⟨an,q,f⟩:=q7 f
 refine qy 8 (fun A st=>∃ (ac ad ae af ag ah ai : V),st = A [(29,qd an),(28,ai),(27,ah),(26,ag),(25,af),(24,ae),(23,ad),(22,ac)]) ?_ ?_
 ·refine qw J J q (fun q=>?_) (fun q=>?_)
  ·refine U J<|O (.ref 0 4 0 0) J<|O (.ref 0 4 0 1) J<|O (.d (.sl 4 (m.map qm))) J<|U J ?_
   obtain ⟨aj,ao,q⟩:=q7 q
   refine qt (qau m h aj ao) J<|O (qd aj) J<|q8 ?_
   obtain rfl:=qc q
   exact ⟨_,_,_,_,_,_,_,J⟩
  refine q9 J<|q9 J<|q9 J<|q9 J<|q9 J<|q9 J<|O (qd false) J<|q8 ?_
  obtain rfl:=qc q
  exact ⟨_,_,_,_,_,_,_,J⟩
 rintro _ ⟨ac,ad,ae,af,ag,ah,ai,rfl⟩
 refine q8 ?_
 refine qk J f (fun _ f=>?_) (fun _ f=>?_)
 ·refine qe<|qb<|U J<|O (.ref 0 4 0 0) J<|O (.ref 0 4 0 2) J<|O (q6 p) J<|qa J<|q8 ?_
  obtain ⟨ak,ap,f⟩:=q7 f
  refine Qd (fun s=>s = ak) (fun (s : List qj)=>⟨[(0,.ref 0 4 0 0),(2,q6 b)],[(0,.cel 4 [[.hs 1 6 0 s.length,.d (.sl 4 (m.map qm)),q6 p,q6 l]]),(1,.dat 6 (s.map Qf))],2⟩) (by simp) ?_ ?_
  ·refine Q6 (q63 b) (fun (j : Int × List qj)=>⟨[(0,.ref 0 4 0 0),(2,q6 b),(8,q6 j.1)],[(0,.cel 4 [[.hs 1 6 0 j.2.length,.d (.sl 4 (m.map qm)),q6 p,q6 l]]),(1,.dat 6 (j.2.map Qf))],2⟩) (p,c) ak ap (wkA [] [] []) ?_
   intro j ax n
   unfold q63 at n
   refine qe<|qb<|U J<|U J<|O (.ref 0 4 0 0) J<|O (.ref 0 4 0 0) J<|O (.hs 1 6 0 j.2.length) J<|O (q6 (j.2.length : Int)) J<|O (.d (.bool (decide (j.1 < (j.2.length : Int))))) J<|q8 ?_
   refine qk J n (fun _ n=>?_) (fun _ n=>?_)
   ·refine ql<|qe<|qu<|qs<|U J<|O (.ref 0 4 0 0) J<|O (.ref 0 4 0 0) J<|O (.hs 1 6 0 j.2.length) J<|U J<|U J ?_
    obtain ⟨u,al,n⟩:=q7 n
    refine qq al J J<|O (.ref 1 6 j.1.toNat 3) J<|O (.ref 1 6 j.1.toNat 5) J<|Qi (ds:=[G b]) ({Lo:=u.Lo,Hi:=({X:=u.Hi.X,Y:=u.Hi.Y,Z:=b} : qh)} : qj) al J J J J J J J J (leb J) J<|qr<|Q8<|qs<|U J<|O (.d (G (w64 (j.1 + 1)))) J<|qa J<|qr ?_
    exact ⟨_,(Option.some.inj n).symm,wkE [] [] [] J ⟨⟨_,J,.ref J (by decide) (ltd J)⟩,⟨_,J,.d (.refl _)⟩,⟨_,J,.d (.refl _)⟩,trivial⟩ ⟨⟨ltd J,.inr ⟨by decide,_,J,Jh (.cons (Qq (by simp) J (by decide) (ltd J)) J (.cons (.d (.refl _)) J (.cons (.d (.refl _)) J (.cons (.d (.refl _)) J .nil))))⟩⟩,⟨ltd J,.inr ⟨by decide,_,J,.dat _ _⟩⟩,trivial⟩⟩
   refine Q1 ?_
   refine ⟨_,(Option.some.inj n).symm,fun hm=>?_⟩
   subst hm
   exact ⟨_,J,wkA [] [] []⟩
  intro s hb
  subst hb
  refine qb<|U J<|U J<|O (.ref 0 4 0 0) J<|O (.ref 0 4 0 3) J<|Q3 0 (.cel 4 [[.hs 1 6 0 s.length,.d (.sl 4 (m.map qm)),q6 p,q6 b]]) J<|qp ?_
  obtain rfl:=qc f
  exact ⟨.inr J,_,J,wkA [(2,1)] [] []⟩
 refine ql<|qb<|U J<|U J<|U J<|U J<|O (.ref 0 4 0 0) J<|O (.ref 0 4 0 0) J<|O (.hs 1 6 0 c.length) J<|O (q6 (c.length : Int)) J<|U J<|U J<|O (.ref 0 4 0 0) J<|O (.ref 0 4 0 2) J<|Q3 0 (.cel 4 [[.hs 1 6 0 c.length,.d (.sl 4 (m.map qm)),q6 (c.length : Int),q6 l]]) J<|O (.ref 0 4 0 0) J<|O (.ref 0 4 0 1) J<|Q3 0 (.cel 4 [[.hs 1 6 0 c.length,.d (.sl 4 (h.map qm)),q6 (c.length : Int),q6 l]]) J<|O (.ref 0 4 0 0) J<|O (.ref 0 4 0 3) J<|Q3 0 (.cel 4 [[.hs 1 6 0 c.length,.d (.sl 4 (h.map qm)),q6 (c.length : Int),q6 b]]) J<|qo<|U J<|Qk J<|U J<|q8 ?_
 obtain ⟨aq,ar,f⟩:=q7 f
 refine qu<|Q6 (q64 h g b c) (fun (o : Int × List qj)=>⟨[(0,.ref 0 4 0 0),(1,q6 g),(2,q6 b),(72,.d (.sl 4 (h.map qm))),(73,q6 (h.length : Int)),(74,q6 o.1)],[(0,.cel 4 [[.hs 2 6 0 o.2.length,.d (.sl 4 (h.map qm)),q6 (c.length : Int),q6 b]]),(2,.dat 6 (o.2.map Qf))],3⟩) (0,c) aq ar (wkA [(2,1)] [] []) ?_
 intro o ay k
 unfold q64 at k
 refine qb<|O (.d (.bool (decide (o.1 < (h.length : Int))))) J<|q8<|qe ?_
 refine qk J k (fun _ k=>?_) (fun _ k=>?_)
 ·refine ql<|qe<|qu<|qb ?_
  obtain ⟨a,au,k⟩:=q7 k
  refine Qc (enc:=qm) au J<|O (.d (.agg [G a.X0,G a.Y0,G a.X1,G a.Y1])) J<|Qp J J<|Q3 3 (.dat 4 [[G a.X0,G a.Y0,G a.X1,G a.Y1]]) J<|q8<|Q4 [Q9 0,q0,q0,(some [2,4],[2,5]),(some [],[4]),q0,q0,q0,qn 3,q0,qn 3,q0,q0,q0,qn 3,q0,qn 3,q0,qn 0,q0,q0,q0,q0] (by kernel_rfl)<|U J<|U J<|O (.ref 0 4 0 0) J<|O (.ref 0 4 0 0) J<|O (.hs 2 6 0 o.2.length) J<|O (.ref 3 4 0 0) J<|O (q6 a.X0) J<|O (.ref 3 4 0 1) J<|O (q6 a.Y0) J<|U J<|O (.d (.agg [G a.X0,G a.Y0,G g])) J<|O (.ref 3 4 0 2) J<|O (q6 a.X1) J<|O (.ref 3 4 0 3) J<|O (q6 a.Y1) J<|U J<|O (.d (.agg [G a.X1,G a.Y1,G b])) J<|O (.d (.agg [G a.X0,G a.Y0,G g,G a.X1,G a.Y1,G b])) J<|Qh (.hs 4 6 0 [({Lo:=({X:=a.X0,Y:=a.Y0,Z:=g} : qh),Hi:=({X:=a.X1,Y:=a.Y1,Z:=b} : qh)} : qj)].length) (.dat 6 ([({Lo:=({X:=a.X0,Y:=a.Y0,Z:=g} : qh),Hi:=({X:=a.X1,Y:=a.Y1,Z:=b} : qh)} : qj)].map Qf)) J ?_
  obtain ⟨av,aw,k⟩:=q7 k
  refine Y2 (xs:=o.2) (ys:=[({Lo:=({X:=a.X0,Y:=a.Y0,Z:=g} : qh),Hi:=({X:=a.X1,Y:=a.Y1,Z:=b} : qh)} : qj)]) (enc:=Qf) (.hs 4 6 0 [({Lo:=({X:=a.X0,Y:=a.Y0,Z:=g} : qh),Hi:=({X:=a.X1,Y:=a.Y1,Z:=b} : qh)} : qj)].length) aw J J J J J J J (Kz J J) J J J J<|O (.ref 0 4 0 0) J<|O (.ref 0 4 0 0) J<|Q3 0 (.cel 4 [[.hs 5 6 0 av.length,.d (.sl 4 (h.map qm)),q6 (c.length : Int),q6 b]]) J<|qr<|Q8<|qs<|O (.d (G (w64 (o.1 + 1)))) J<|U J<|qr ?_
  exact ⟨_,(Option.some.inj k).symm,wkA [(2,5)] [] []⟩
 refine Q1 ?_
 refine ⟨_,(Option.some.inj k).symm,fun hm=>?_⟩
 subst hm
 obtain rfl:=qc f
 exact ⟨.inl J,_,J,wkA [(2,2)] [] []⟩
theorem qxj (c : List qj) (r : List qj × Int) (o : q8r c = some r) : Pure Tryz.prog tab 101 [.agg [.nilf],.sl 1 ([c].map Kg)] (.tup [.sl 6 (r.1.map Qf),G r.2]):=by
 unfold q8r at o
 refine Qa Tryz.func101 J (by kernel_rfl) (by kernel_rfl) J<|qb<|Qh (.ref 0 1 0 0) (.dat 1 [[.nilf]]) J<|Qp J J<|Qp J J<|qo<|Qp J J<|q8<|qe<|qb<|U J ?_
 obtain ⟨ar,m,o⟩:=q7 o
 refine q71 [.d (.sl 1 ([c].map Kg))] (fun h=>h = ar) (fun (h : List Int)=>⟨[(2,.ref 0 1 0 0),(4,.ref 1 1 0 0),(5,.ref 2 1 0 0),(6,.ref 3 4 0 0),(14,.fn 162 [.ref 4 1 0 0,.ref 5 1 0 0])],[(0,.dat 1 [[.nilf]]),(1,.dat 1 [[.nilsl]]),(2,.dat 1 [[G 0]]),(3,.dat 4 [[.nilsl,.nilsl,G 0,G 0]]),(4,.cel 1 [[.d (.sl 1 (h.map (eI .i64)))]]),(5,.dat 1 [[.sl 1 ([c].map Kg)]])],6⟩) J J Tryz.func141 J (by kernel_rfl) (by kernel_rfl) J ?_ ?_
 ·refine qb<|Qh (.ref 4 1 0 0) (.dat 1 [[.sl 1 ([c].map Kg)]]) J<|qa J<|qo<|Qp J J<|q8<|qe<|qb<|O (.d (.sl 1 ([c].map Kg))) J<|qdc 1 J J J J J<|U J<|q8<|qu<|Uu<|qb<|O (qd true) J<|q8<|qe<|q53 J<|ql<|qe ?_
  obtain ⟨au,ad,m⟩:=q7 m
  refine Qd (fun n=>n = au) (fun (n : List Int)=>⟨[(1,.ref 4 1 0 0),(3,.ref 5 1 0 0),(8,.d (.sl 1 ([c].map Kg))),(9,q6 1),(10,q6 0)],[(0,.dat 1 [[.nilf]]),(1,.dat 1 [[.nilsl]]),(2,.dat 1 [[G 0]]),(3,.dat 4 [[.nilsl,.nilsl,G 0,G 0]]),(4,.dat 1 [[.sl 1 ([c].map Kg)]]),(5,.cel 1 [[.hs 6 1 0 n.length]]),(6,.dat 1 (n.map (eI .i64)))],7⟩) (by simp) ?_ ?_
  ·refine qb ?_
   obtain ⟨ae,av,ad⟩:=q7 ad
   refine Qc (enc:=Kg) av J<|O (.d (.sl 6 (ae.map Qf))) J<|qa J<|qo<|U J<|Qk J<|U J<|q8 ?_
   obtain ⟨aw,ax,ad⟩:=q7 ad
   refine qu<|Q6 (q3q ae) (fun (w : Int × List Int)=>⟨[(1,.ref 4 1 0 0),(3,.ref 5 1 0 0),(8,.d (.sl 1 ([c].map Kg))),(9,q6 1),(10,q6 0),(14,.d (.sl 6 (ae.map Qf))),(15,q6 (ae.length : Int)),(16,q6 w.1)],[(0,.dat 1 [[.nilf]]),(1,.dat 1 [[.nilsl]]),(2,.dat 1 [[G 0]]),(3,.dat 4 [[.nilsl,.nilsl,G 0,G 0]]),(4,.dat 1 [[.sl 1 ([c].map Kg)]]),(5,.cel 1 [[.hs 6 1 0 w.2.length]]),(6,.dat 1 (w.2.map (eI .i64)))],7⟩) (0,[]) aw ax (wkA [(4,4),(5,5)] [] [6]) ?_
   intro w cb q
   unfold q3q at q
   refine qb<|O (.d (.bool (decide (w.1 < (ae.length : Int))))) J<|q8<|qe ?_
   refine qk J q (fun _ q=>?_) (fun _ q=>?_)
   ·refine ql<|qe<|qu<|qb ?_
    obtain ⟨f,ay,q⟩:=q7 q
    refine Qc (enc:=Qf) ay J<|O (.d (.agg [G f.Lo.X,G f.Lo.Y,G f.Lo.Z,G f.Hi.X,G f.Hi.Y,G f.Hi.Z])) J<|Qp J J<|Q3 7 (.dat 6 [[G f.Lo.X,G f.Lo.Y,G f.Lo.Z,G f.Hi.X,G f.Hi.Y,G f.Hi.Z]]) J<|q8<|qs<|O (.hs 6 1 0 w.2.length) J<|O (.ref 7 6 0 0) J<|O (.ref 7 6 0 2) J<|O (q6 f.Lo.Z) J<|O (.ref 7 6 0 3) J<|O (.ref 7 6 0 5) J<|O (q6 f.Hi.Z) J<|Qh (.hs 8 1 0 [f.Lo.Z,f.Hi.Z].length) (.dat 1 ([f.Lo.Z,f.Hi.Z].map (eI .i64))) J ?_
    obtain ⟨az,ba,q⟩:=q7 q
    refine Y2 (xs:=w.2) (ys:=[f.Lo.Z,f.Hi.Z]) (enc:=(eI .i64)) (.hs 8 1 0 [f.Lo.Z,f.Hi.Z].length) ba J J J J J J J (Kz J J) J J J J<|Q3 5 (.cel 1 [[.hs 9 1 0 az.length]]) J<|qr<|Q8<|qs<|O (.d (G (w64 (w.1 + 1)))) J<|U J<|qr ?_
    exact ⟨_,(Option.some.inj q).symm,wkA [(4,4),(5,5),(6,9)] [] []⟩
   refine Q1 ?_
   refine ⟨_,(Option.some.inj q).symm,fun hm=>?_⟩
   subst hm
   obtain rfl:=qc ad
   exact ⟨_,J,wkA [(4,4),(5,5),(6,6)] [] []⟩
  intro n hb
  subst hb
  refine qs<|O (q6 1) J<|U J<|q8<|Uu<|qb<|O (qd false) J<|q8<|qe<|U1 J<|Q1<|q2h<|qb<|O (.hs 6 1 0 n.length) J ?_
  obtain ⟨aj,bb,m⟩:=q7 m
  obtain ⟨cc,bc,m⟩:=q7 m
  have bd:=K6 bc
  refine Qs [(0,6)] [(0,1),(1,1),(2,1),(3,1),(4,1),(5,1),(6,0)] [.hs 6 1 0 n.length] (.d (.tup [])) 1 [(6,.dat 1 (aj.map (eI .i64))),(0,.dat 1 [[.nilf]]),(1,.dat 1 [[.nilsl]]),(2,.dat 1 [[G 0]]),(3,.dat 4 [[.nilsl,.nilsl,G 0,G 0]]),(4,.dat 1 [[.sl 1 ([c].map Kg)]]),(5,.cel 1 [[.hs 6 1 0 n.length]])] 7 (qjs n aj bb)<|qo<|O (.hs 6 1 0 n.length) J ?_
  obtain ⟨aa,be,m⟩:=q7 m
  obtain ⟨cd,bf,m⟩:=q7 m
  have ce:=K6 bf
  obtain ⟨cf,bg,m⟩:=q7 m
  have bh:=ql0 bg
  refine Jz [(0,6)] [(0,1),(1,1),(2,1),(3,1),(4,1),(5,1),(6,0)] [.hs 6 1 0 n.length] (.hs 6 1 aa.1.1 aa.1.2) [(6,.dat 1 (aa.2.map (eI .i64)))] [(6,.dat 1 (aa.2.map (eI .i64))),(0,.dat 1 [[.nilf]]),(1,.dat 1 [[.nilsl]]),(2,.dat 1 [[G 0]]),(3,.dat 4 [[.nilsl,.nilsl,G 0,G 0]]),(4,.dat 1 [[.sl 1 ([c].map Kg)]]),(5,.cel 1 [[.hs 6 1 0 n.length]])] 7 (qjq aj aa be) J J J (Y8 [(0,6)] [] [] J ⟨⟨_,J,Qq (by simp [bd]) J (by decide) (ltd J)⟩,trivial⟩ ⟨⟨ltd J,.inr ⟨by decide,_,J,.dat _ _⟩⟩,trivial⟩) (Y8 [(0,1),(1,1),(2,1),(3,1),(4,1),(5,1),(6,0)] [] [] J ⟨⟨_,J,.hs J (by decide) (ltd J)⟩,trivial⟩ ⟨⟨ltd J,.inr ⟨by decide,_,J,.dat _ _⟩⟩,trivial⟩) J ⟨.inl J,.inr ⟨J,J⟩,.inr ⟨J,J⟩,.inr ⟨J,J⟩,.inr ⟨J,J⟩,.inr ⟨J,J⟩,.inr ⟨J,J⟩,trivial⟩<|Q3 5 (.cel 1 [[.hs 6 1 aa.1.1 aa.1.2]]) J<|qo<|O (.fn 162 [.ref 5 1 0 0,.ref 4 1 0 0]) J<|qa J<|qp ?_
  refine ⟨.inr J,_,J,?_⟩
  obtain rfl:=qc m
  exact ⟨_,J,wkE [(0,0),(1,1),(2,2),(3,3),(4,5),(5,4)] [6] [] J ⟨⟨_,J,.ref J (by decide) (ltd J)⟩,⟨_,J,.ref J (by decide) (ltd J)⟩,⟨_,J,.ref J (by decide) (ltd J)⟩,⟨_,J,.ref J (by decide) (ltd J)⟩,⟨_,J,(q3y (.cons (.ref J (by decide) (ltd J)) (.cons (.ref J (by decide) (ltd J)) .nil)))⟩,trivial⟩ ⟨⟨ltd J,.inr ⟨by decide,_,J,.dat _ _⟩⟩,⟨ltd J,.inr ⟨by decide,_,J,.dat _ _⟩⟩,⟨ltd J,.inr ⟨by decide,_,J,.dat _ _⟩⟩,⟨ltd J,.inr ⟨by decide,_,J,.dat _ _⟩⟩,⟨ltd J,.inr ⟨by decide,_,J,Jh (.cons (ql4 bh J (by decide)) J .nil)⟩⟩,⟨ltd J,.inr ⟨by decide,_,J,.dat _ _⟩⟩,trivial⟩⟩
 intro h hb
 subst hb
 refine q8<|qu ?_
 obtain ⟨bi,ai,o⟩:=q7 o
 refine qdx (fun k=>.inl k = bi) (fun (k : List qf × Int × Int × List qj)=>⟨[(4,.ref 0 1 0 0),(5,.ref 1 1 0 0),(6,.ref 2 4 0 0)],[(0,.dat 1 [[.nilsl]]),(1,.dat 1 [[G 0]]),(2,.cel 4 [[.hs 3 6 0 k.2.2.2.length,.d (.sl 4 (k.1.map qm)),q6 k.2.1,q6 k.2.2.1]]),(3,.dat 6 (k.2.2.2.map Qf))],4⟩) ?_ ?_
 ·refine Ys (st':=⟨[(2,.ref 0 1 0 0),(4,.ref 1 1 0 0),(5,.ref 2 1 0 0),(6,.ref 3 4 0 0),(14,.fn 162 [.ref 4 1 0 0,.ref 5 1 0 0])],[(0,.dat 1 [[.nilf]]),(1,.dat 1 [[.nilsl]]),(2,.dat 1 [[G 0]]),(3,.dat 4 [[.nilsl,.nilsl,G 0,G 0]]),(4,.cel 1 [[.d (.sl 1 (h.map (eI .i64)))]]),(5,.dat 1 [[.sl 1 ([c].map Kg)]])],6⟩) (wkA [(0,0),(1,1),(2,2),(3,3),(4,4),(5,5)] [] []) ?_ (by simp)
  refine qdy [.ref 4 1 0 0,.ref 5 1 0 0] (.inl J) Tryz.func162 J (by kernel_rfl) (by kernel_rfl) J ?_
  intro A879 B880 hA879 hB880
  refine qb<|qa J<|q8 ?_
  obtain ⟨bj,bk,ai⟩:=q7 ai
  refine qu<|Q6 (q3r h c) (fun (b : Int × List qf × Int × Int × List qj)=>⟨[(0,.yld 6),(1,.ref 4 1 0 0),(2,.ref 5 1 0 0),(4,q6 b.1)],[(0,.dat 1 [[.nilf]]),(1,.dat 1 [[.nilsl]]),(2,.dat 1 [[G 0]]),(3,.cel 4 [[.hs 7 6 0 b.2.2.2.2.length,.d (.sl 4 (b.2.1.map qm)),q6 b.2.2.1,q6 b.2.2.2.1]]),(4,.cel 1 [[.d (.sl 1 (h.map (eI .i64)))]]),(5,.dat 1 [[.sl 1 ([c].map Kg)]]),(6,.loop [(2,.ref 0 1 0 0),(4,.ref 1 1 0 0),(5,.ref 2 1 0 0),(6,.ref 3 4 0 0),(14,.fn 162 [.ref 4 1 0 0,.ref 5 1 0 0])] [15] A879 B880 .ready none),(7,.dat 6 (b.2.2.2.2.map Qf))],8⟩) (1,[],0,0,[]) bj bk (wkA [] [] [7]) ?_
  intro b cg j
  unfold q3r at j
  refine qe<|qb<|U J<|O (.d (.sl 1 (h.map (eI .i64)))) J<|Qk J<|O (.d (.bool (decide (b.1 < (h.length : Int))))) J<|q8 ?_
  refine qk J j (fun _ j=>?_) (fun _ j=>?_)
  ·refine ql<|qe<|qu<|qe<|Q4 [Q9 9,(some [],[9]),q0,(some [],[8]),q0,qn 5,q0,q0,q0,qn 4,q0,q0,q0,q0,qn 4] (by kernel_rfl)<|O (.d (.sl 1 (h.map (eI .i64)))) J<|U J<|O (.d (G (w64 (b.1 - 1)))) J ?_
   obtain ⟨g,bl,j⟩:=q7 j
   refine Qc (enc:=(eI .i64)) bl J<|O (q6 g) J<|O (.d (.sl 1 (h.map (eI .i64)))) J<|U J ?_
   obtain ⟨l,bm,j⟩:=q7 j
   refine Qc (enc:=(eI .i64)) bm J<|O (q6 l) J<|O (.d (.sl 1 ([c].map Kg))) J<|qdc 1 J J J J J<|Qh (.hs 8 1 0 1) (.dat 1 [[.nilsl]]) J<|O (.agg [q6 g,q6 l,.hs 8 1 0 1]) J<|Qp J J<|Q3 9 (.cel 3 [[q6 g,q6 l,.hs 8 1 0 1]]) J<|q8<|qe<|qb<|O (.d (.sl 1 ([c].map Kg))) J<|qdc 1 J J J J J<|U J<|q8<|qu<|Uu<|qb<|O (qd true) J<|q8<|qe<|q53 J<|ql<|qe ?_
   obtain ⟨bn,af,j⟩:=q7 j
   refine Qd (fun s=>s = bn) (fun (s : List qf)=>⟨[(0,.yld 6),(1,.ref 4 1 0 0),(2,.ref 5 1 0 0),(4,q6 b.1),(5,.ref 7 3 0 0),(29,.d (.sl 1 ([c].map Kg))),(30,q6 1),(31,q6 0)],[(0,.dat 1 [[.nilf]]),(1,.dat 1 [[.nilsl]]),(2,.dat 1 [[G 0]]),(3,.cel 4 [[.hs 8 6 0 b.2.2.2.2.length,.d (.sl 4 (b.2.1.map qm)),q6 b.2.2.1,q6 b.2.2.2.1]]),(4,.cel 1 [[.d (.sl 1 (h.map (eI .i64)))]]),(5,.dat 1 [[.sl 1 ([c].map Kg)]]),(6,.loop [(2,.ref 0 1 0 0),(4,.ref 1 1 0 0),(5,.ref 2 1 0 0),(6,.ref 3 4 0 0),(14,.fn 162 [.ref 4 1 0 0,.ref 5 1 0 0])] [15] A879 B880 .ready none),(7,.cel 3 [[q6 g,q6 l,.hs 9 1 0 1]]),(8,.dat 6 (b.2.2.2.2.map Qf)),(9,.cel 1 [[.hs 10 4 0 s.length]]),(10,.dat 4 (s.map qm))],11⟩) (by simp) ?_ ?_
   ·refine qb<|U J ?_
    obtain ⟨ab,bo,af⟩:=q7 af
    refine Qc (enc:=Kg) bo J<|O (.d (.sl 6 (ab.map Qf))) J<|qa J<|qa J<|qo<|U J<|Qk J<|U J<|q8 ?_
    obtain ⟨bp,bq,af⟩:=q7 af
    refine qu<|Q6 (q29 ab g) (fun (t : Int × List qf)=>⟨[(0,.yld 6),(1,.ref 4 1 0 0),(2,.ref 5 1 0 0),(4,q6 b.1),(5,.ref 7 3 0 0),(6,q6 0),(29,.d (.sl 1 ([c].map Kg))),(30,q6 1),(31,q6 0),(36,.d (.sl 6 (ab.map Qf))),(37,q6 (ab.length : Int)),(38,q6 t.1)],[(0,.dat 1 [[.nilf]]),(1,.dat 1 [[.nilsl]]),(2,.dat 1 [[G 0]]),(3,.cel 4 [[.hs 8 6 0 b.2.2.2.2.length,.d (.sl 4 (b.2.1.map qm)),q6 b.2.2.1,q6 b.2.2.2.1]]),(4,.cel 1 [[.d (.sl 1 (h.map (eI .i64)))]]),(5,.dat 1 [[.sl 1 ([c].map Kg)]]),(6,.loop [(2,.ref 0 1 0 0),(4,.ref 1 1 0 0),(5,.ref 2 1 0 0),(6,.ref 3 4 0 0),(14,.fn 162 [.ref 4 1 0 0,.ref 5 1 0 0])] [15] A879 B880 .ready none),(7,.cel 3 [[q6 g,q6 l,.hs 9 1 0 1]]),(8,.dat 6 (b.2.2.2.2.map Qf)),(9,.cel 1 [[.hs 10 4 0 t.2.length]]),(10,.dat 4 (t.2.map qm))],11⟩) (0,[]) bp bq (wkA [(7,9),(8,7),(9,8)] [] [10]) ?_
    intro t ch x
    unfold q29 at x
    refine qb<|O (.d (.bool (decide (t.1 < (ab.length : Int))))) J<|q8<|qe ?_
    refine qk J x (fun _ x=>?_) (fun _ x=>?_)
    ·refine ql<|qe ?_
     obtain ⟨br,p,x⟩:=q7 x
     refine Qd (fun ag=>ag = br) (fun (ag : List qf)=>⟨[(0,.yld 6),(1,.ref 4 1 0 0),(2,.ref 5 1 0 0),(4,q6 b.1),(5,.ref 7 3 0 0),(6,q6 0),(29,.d (.sl 1 ([c].map Kg))),(30,q6 1),(31,q6 0),(36,.d (.sl 6 (ab.map Qf))),(37,q6 (ab.length : Int)),(38,q6 t.1)],[(0,.dat 1 [[.nilf]]),(1,.dat 1 [[.nilsl]]),(2,.dat 1 [[G 0]]),(3,.cel 4 [[.hs 8 6 0 b.2.2.2.2.length,.d (.sl 4 (b.2.1.map qm)),q6 b.2.2.1,q6 b.2.2.2.1]]),(4,.cel 1 [[.d (.sl 1 (h.map (eI .i64)))]]),(5,.dat 1 [[.sl 1 ([c].map Kg)]]),(6,.loop [(2,.ref 0 1 0 0),(4,.ref 1 1 0 0),(5,.ref 2 1 0 0),(6,.ref 3 4 0 0),(14,.fn 162 [.ref 4 1 0 0,.ref 5 1 0 0])] [15] A879 B880 .ready none),(7,.cel 3 [[q6 g,q6 l,.hs 9 1 0 1]]),(8,.dat 6 (b.2.2.2.2.map Qf)),(9,.cel 1 [[.hs 10 4 0 ag.length]]),(10,.dat 4 (ag.map qm))],11⟩) (by simp) ?_ ?_
     ·refine qb ?_
      obtain ⟨a,bs,p⟩:=q7 p
      refine Qc (enc:=Qf) bs J<|O (.d (.agg [G a.Lo.X,G a.Lo.Y,G a.Lo.Z,G a.Hi.X,G a.Hi.Y,G a.Hi.Z])) J<|Qp J J<|Q3 11 (.dat 6 [[G a.Lo.X,G a.Lo.Y,G a.Lo.Z,G a.Hi.X,G a.Hi.Y,G a.Hi.Z]]) J<|qo<|O (.ref 11 6 0 0) J<|O (.ref 11 6 0 2) J<|O (q6 a.Lo.Z) J<|O (.ref 7 3 0 0) J<|O (q6 g) J<|O (.d (.bool (decide (a.Lo.Z≤g)))) J ?_
      obtain ⟨bt,ah,p⟩:=q7 p
      refine qy 8 (fun A st=>∃ (ak al am an ao ap aq : V),st = A [(55,qd bt),(54,aq),(53,ap),(52,ao),(51,an),(50,am),(49,al),(48,ak)]) ?_ ?_
      ·refine qw J J ah (fun ah=>?_) (fun ah=>?_)
       ·refine O (.ref 7 3 0 0) J<|O (q6 g) J<|O (.ref 11 6 0 3) J<|O (.ref 11 6 0 5) J<|O (q6 a.Hi.Z) J<|O (.d (.bool (decide (g < a.Hi.Z)))) J<|O (.d (.bool (decide (g < a.Hi.Z)))) J<|q8 ?_
        obtain rfl:=qc ah
        exact ⟨_,_,_,_,_,_,_,J⟩
       refine q9 J<|q9 J<|q9 J<|q9 J<|q9 J<|q9 J<|O (qd false) J<|q8 ?_
       obtain rfl:=qc ah
       exact ⟨_,_,_,_,_,_,_,J⟩
      rintro _ ⟨ak,al,am,an,ao,ap,aq,rfl⟩
      refine q8 ?_
      refine qk J p (fun _ p=>?_) (fun _ p=>?_)
      ·refine Q4 [Q9 9,q0,(some [10,12],[10,13]),(some [],[12]),q0,qn 11,q0,q0,qn 11,q0,q0,qn 11,q0,q0,qn 11,q0,q0,qn 9,q0,q0,qn 7,q0,q0,qn 7,q0] (by kernel_rfl)<|O (.ref 7 3 0 2) J<|O (.hs 9 1 0 1) J<|U J<|O (.ref 7 3 0 2) J<|O (.hs 9 1 0 1) J<|U J<|O (.ref 9 1 0 0) J<|O (.hs 10 4 0 t.2.length) J<|O (.ref 11 6 0 0) J<|O (.ref 11 6 0 0) J<|O (q6 a.Lo.X) J<|O (.ref 11 6 0 0) J<|O (.ref 11 6 0 1) J<|O (q6 a.Lo.Y) J<|O (.ref 11 6 0 3) J<|O (.ref 11 6 0 3) J<|O (q6 a.Hi.X) J<|O (.ref 11 6 0 3) J<|O (.ref 11 6 0 4) J<|O (q6 a.Hi.Y) J<|O (.d (.agg [G a.Lo.X,G a.Lo.Y,G a.Hi.X,G a.Hi.Y])) J<|Qh (.hs 12 4 0 [({X0:=a.Lo.X,Y0:=a.Lo.Y,X1:=a.Hi.X,Y1:=a.Hi.Y} : qf)].length) (.dat 4 ([({X0:=a.Lo.X,Y0:=a.Lo.Y,X1:=a.Hi.X,Y1:=a.Hi.Y} : qf)].map qm)) J ?_
       obtain ⟨bu,bv,p⟩:=q7 p
       refine Y2 (xs:=t.2) (ys:=[({X0:=a.Lo.X,Y0:=a.Lo.Y,X1:=a.Hi.X,Y1:=a.Hi.Y} : qf)]) (enc:=qm) (.hs 12 4 0 [({X0:=a.Lo.X,Y0:=a.Lo.Y,X1:=a.Hi.X,Y1:=a.Hi.Y} : qf)].length) bv J J J J J J J (Kz J J) J J J J<|O (.ref 9 1 0 0) J<|Q3 9 (.cel 1 [[.hs 13 4 0 bu.length]]) J<|qr ?_
       obtain rfl:=qc p
       exact ⟨_,J,wkA [(7,7),(8,8),(9,9),(10,13)] [] []⟩
      refine ql<|Q7 ?_
      obtain rfl:=qc p
      exact ⟨_,J,wkA [(7,7),(8,8),(9,9),(10,10)] [] []⟩
     intro ag hb
     subst hb
     refine qs<|O (.d (G (w64 (t.1 + 1)))) J<|U J<|qr ?_
     exact ⟨_,(Option.some.inj x).symm,wkA [(7,7),(8,8),(9,9),(10,10)] [] []⟩
    refine Q1 ?_
    refine ⟨_,(Option.some.inj x).symm,fun hm=>?_⟩
    subst hm
    obtain rfl:=qc af
    exact ⟨_,J,wkA [(7,7),(8,8),(9,9),(10,10)] [] []⟩
   intro s hb
   subst hb
   refine qs<|O (q6 1) J<|U J<|q8<|Uu<|qb<|O (qd false) J<|q8<|qe<|U1 J<|Q1<|q2h<|qe ?_
   refine Ys (st':=⟨[(0,.yld 6),(1,.ref 4 1 0 0),(2,.ref 5 1 0 0),(4,q6 b.1),(5,.ref 7 3 0 0)],[(0,.dat 1 [[.nilf]]),(1,.dat 1 [[.nilsl]]),(2,.dat 1 [[G 0]]),(3,.cel 4 [[.hs 8 6 0 b.2.2.2.2.length,.d (.sl 4 (b.2.1.map qm)),q6 b.2.2.1,q6 b.2.2.2.1]]),(4,.cel 1 [[.d (.sl 1 (h.map (eI .i64)))]]),(5,.dat 1 [[.sl 1 ([c].map Kg)]]),(6,.loop [(2,.ref 0 1 0 0),(4,.ref 1 1 0 0),(5,.ref 2 1 0 0),(6,.ref 3 4 0 0),(14,.fn 162 [.ref 4 1 0 0,.ref 5 1 0 0])] [15] A879 B880 .ready none),(7,.cel 3 [[q6 g,q6 l,.hs 9 1 0 1]]),(8,.dat 6 (b.2.2.2.2.map Qf)),(9,.cel 1 [[.d (.sl 4 (s.map qm))]])],10⟩) (wkA [(7,7),(8,8),(9,9)] [10] []) ?_ (by simp)
   refine qs<|U J<|O (.agg [q6 g,q6 l,.hs 9 1 0 1]) J ?_
   obtain ⟨bw,u,j⟩:=q7 j
   refine qdf (fun y=>.inl y = bw) (fun (y : List qf × Int × Int × List qj)=>⟨[(0,.yld 6),(1,.ref 4 1 0 0),(2,.ref 5 1 0 0),(4,q6 b.1),(84,qd true)],[(0,.dat 1 [[.nilf]]),(1,.dat 1 [[.nilsl]]),(2,.dat 1 [[G 0]]),(3,.cel 4 [[.hs 7 6 0 y.2.2.2.length,.d (.sl 4 (y.1.map qm)),q6 y.2.1,q6 y.2.2.1]]),(4,.cel 1 [[.d (.sl 1 (h.map (eI .i64)))]]),(5,.dat 1 [[.sl 1 ([c].map Kg)]]),(6,.loop [(2,.ref 0 1 0 0),(4,.ref 1 1 0 0),(5,.ref 2 1 0 0),(6,.ref 3 4 0 0),(14,.fn 162 [.ref 4 1 0 0,.ref 5 1 0 0])] [15] A879 B880 .ready none),(7,.dat 6 (y.2.2.2.map Qf))],8⟩) hA879 hB880 J J J J J J ?_ ?_
   ·refine qs<|Qp J J<|Q3 10 (.cel 3 [[q6 g,q6 l,.hs 9 1 0 1]]) J<|qr ?_
    refine ⟨J,_,J,?_⟩
    refine qu<|qb<|O (.ref 10 3 0 2) J<|O (.hs 9 1 0 1) J<|O (.ref 9 1 0 0) J<|O (.d (.sl 4 (s.map qm))) J ?_
    obtain ⟨z,bz,u⟩:=q7 u
    refine qt (qj4 s z bz) J<|U J<|O (.d (.sl 4 (z.1.map qm))) J<|O (q6 z.2) J<|qa J<|qa J<|q8<|qe<|qb<|O (.ref 10 3 0 2) J<|O (.hs 9 1 0 1) J<|O (.hs 9 1 1 0) J<|O (q6 0) J<|U J<|q8<|qu<|Uu<|qb<|O (qd false) J<|q8<|qe<|U1 J<|Q1<|q2h<|qe<|qb<|U J<|O (qd (z.2 != 0)) J<|q8 ?_
    refine qk J u (fun _ u=>?_) (fun _ u=>?_)
    ·refine qb<|U J<|Q3 1 (.dat 1 [[.nilsl]]) J<|Q3 2 (.dat 1 [[G z.2]]) J<|qp ?_
     obtain rfl:=qc u
     refine ⟨_,J,?_⟩
     refine O (qd true) J<|q8<|q53 J<|q3d ?_
     refine ⟨_,(Option.some.inj j).symm,fun hm=>?_⟩
     subst hm
     refine ⟨.inr J,_,J,_,_,.ret,J,by decide,?_⟩
     refine qlg ?_
     obtain rfl:=qc ai
     obtain rfl:=qc o
     exact finD (.inr J) (v:=.d (.tup [.nilsl,G z.2])) J J (Yu (.cons (.nil _) (.cons (.refl _) .nil)))
    refine ql<|qs<|O (.ref 10 3 0 0) J<|O (q6 g) J<|O (.ref 10 3 0 1) J<|O (q6 l) J<|U J ?_
    obtain ⟨ac,ca,u⟩:=q7 u
    refine Qs [(0,3),(1,8)] [(0,3),(1,3),(2,3),(3,0),(4,3),(5,3),(6,3),(7,3),(8,1),(9,3),(10,3),(11,2)] [.ref 3 4 0 0,q6 g,q6 l,.d (.sl 4 (z.1.map qm))] (.d (.tup [])) 2 [(3,.cel 4 [[.hs 11 6 0 ac.2.2.2.length,.d (.sl 4 (ac.1.map qm)),q6 ac.2.1,q6 ac.2.2.1]]),(11,.dat 6 (ac.2.2.2.map Qf)),(0,.dat 1 [[.nilf]]),(1,.dat 1 [[.nilsl]]),(2,.dat 1 [[G 0]]),(4,.cel 1 [[.d (.sl 1 (h.map (eI .i64)))]]),(5,.dat 1 [[.sl 1 ([c].map Kg)]]),(6,.loop [(2,.ref 0 1 0 0),(4,.ref 1 1 0 0),(5,.ref 2 1 0 0),(6,.ref 3 4 0 0),(14,.fn 162 [.ref 4 1 0 0,.ref 5 1 0 0])] [15] A879 B880 .busy none),(7,.cel 3 [[q6 g,q6 l,.hs 9 1 0 1]]),(9,.cel 1 [[.d (.sl 4 (s.map qm))]]),(10,.cel 3 [[q6 g,q6 l,.hs 9 1 0 1]])] 12 (qxd b.2.2.2.2 b.2.1 b.2.2.1 b.2.2.2.1 g l z.1 ac ca)<|qr<|Q8<|Q7 ?_
    refine ⟨_,J,?_⟩
    obtain rfl:=qc u
    exact ⟨_,J,wkA [(7,11)] [] []⟩
   intro y hb
   subst hb
   refine O (qd false) J<|q8<|U1 J<|ql<|Q7<|Q8<|qs<|U J<|O (.d (G (w64 (b.1 + 1)))) J<|qa J<|qr ?_
   exact ⟨_,(Option.some.inj j).symm,wkA [(7,7)] [] []⟩
  refine Q1 ?_
  refine ⟨_,(Option.some.inj j).symm,fun hm=>?_⟩
  subst hm
  refine ⟨.inl J,_,J,_,_,.nor,J,by decide,?_⟩
  refine qbq<|Q7 ?_
  obtain rfl:=qc ai
  exact ⟨_,J,wkA [(0,1),(1,2),(2,3),(3,7)] [] []⟩
 intro k st hb hw
 subst hb
 refine Ys hw ?_ (by simp)
 refine qe<|qb<|O (.ref 2 4 0 0) J<|O (.hs 3 6 0 k.2.2.2.length) J<|O (q6 (k.2.2.2.length : Int)) J<|O (.d (.bool (decide ((k.2.2.2.length : Int) > 400)))) J<|q8 ?_
 refine qk J o (fun _ o=>?_) (fun _ o=>?_)
 ·refine qb<|Q3 0 (.dat 1 [[.nilsl]]) J<|Q3 1 (.dat 1 [[G 4]]) J<|qp ?_
  obtain rfl:=qc o
  exact finD (.inr J) (v:=.d (.tup [.nilsl,G 4])) J J (Yu (.cons (.nil _) (.cons (.refl _) .nil)))
 refine ql<|qb<|O (.ref 2 4 0 0) J<|O (.hs 3 6 0 k.2.2.2.length) J<|Q3 0 (.cel 1 [[.hs 3 6 0 k.2.2.2.length]]) J<|Q3 1 (.dat 1 [[G 0]]) J<|qp ?_
 obtain rfl:=qc o
 exact finD (.inr J) (v:=.tup [.hs 3 6 0 k.2.2.2.length,q6 0]) J (q94 (Je (Zo J J) (Je J J))) (.refl _)
theorem qua (g : List qj) (h : List qj) (r : Bool) (f : qav g h = some r) : Pure Tryz.prog tab 102 [.sl 6 (g.map Qf),.sl 6 (h.map Qf)] (.bool r):=by
 unfold qav at f
 refine Qa Tryz.func102 J (by kernel_rfl) (by kernel_rfl) J<|qb<|qa J<|q8<|qe<|qb<|U J<|Qk J<|U J<|Qk J<|O (.d (.bool ((g.length : Int) != (h.length : Int)))) J<|q8 ?_
 refine qk J f (fun _ f=>?_) (fun _ f=>?_)
 ·refine qb<|qa J<|qp ?_
  obtain rfl:=qc f
  exact qv (qd false) J
 refine ql<|qe<|qb<|U J<|Qk J<|U J<|q8 ?_
 obtain ⟨l,m,f⟩:=q7 f
 refine Qd (fun k=>.inl k = l) (fun (k : Unit)=>⟨[],[],0⟩) (by simp) ?_ ?_
 ·refine Q6 (qe5 g h) (fun (j : Int)=>⟨[(0,.d (.sl 6 (g.map Qf))),(1,.d (.sl 6 (h.map Qf))),(12,q6 (g.length : Int)),(13,q6 j)],[],0⟩) 0 l m (wkA [] [] []) ?_
  intro j p a
  unfold qe5 at a
  refine qb<|O (.d (.bool (decide (j < (g.length : Int))))) J<|q8<|qe ?_
  refine qk J a (fun _ a=>?_) (fun _ a=>?_)
  ·refine ql<|qe<|qu<|qb<|U J<|qa J<|q8<|qe<|Q4 [q0,q0,q0,q0,q0,q0,q0,q0,q0] (by kernel_rfl)<|U J<|U J ?_
   obtain ⟨b,n,a⟩:=q7 a
   refine Qc (enc:=Qf) n J<|O (.d (.agg [G b.Lo.X,G b.Lo.Y,G b.Lo.Z,G b.Hi.X,G b.Hi.Y,G b.Hi.Z])) J<|U J<|U J ?_
   obtain ⟨c,o,a⟩:=q7 a
   refine Qc (enc:=Qf) o J<|O (.d (.agg [G c.Lo.X,G c.Lo.Y,G c.Lo.Z,G c.Hi.X,G c.Hi.Y,G c.Hi.Z])) J<|O (.d (.bool (!((b.Lo.X == c.Lo.X) && ((b.Lo.Y == c.Lo.Y) && ((b.Lo.Z == c.Lo.Z) && ((b.Hi.X == c.Hi.X) && ((b.Hi.Y == c.Hi.Y) && ((b.Hi.Z == c.Hi.Z) && true))))))))) J<|q8 ?_
   refine qk J a (fun _ a=>?_) (fun _ a=>?_)
   ·refine qb<|qa J<|qp ?_
    refine ⟨_,(Option.some.inj a).symm,fun hm=>?_⟩
    subst hm
    obtain rfl:=qc f
    exact qv (qd false) J
   refine ql<|Q7<|Q8<|qs<|O (.d (G (w64 (j + 1)))) J<|U J<|qr ?_
   exact ⟨_,(Option.some.inj a).symm,wkA [] [] []⟩
  refine Q1 ?_
  refine ⟨_,(Option.some.inj a).symm,fun hm=>?_⟩
  subst hm
  exact ⟨_,J,wkA [] [] []⟩
 intro k hb
 subst hb
 refine qb<|qa J<|qp ?_
 obtain rfl:=qc f
 exact qv (qd true) J
theorem qb3 (b : List qj) (r : Int) (a : q26 b = some r) : Pure Tryz.prog tab 55 [.sl 6 (b.map Qf)] (G r):=by
 unfold q26 at a
 refine Qa Tryz.func55 J (by kernel_rfl) (by kernel_rfl) J<|qb<|qa J<|q8<|qe<|qb<|U J<|Qk J<|O (.d (.bool (decide ((b.length : Int) > 400)))) J<|q8 ?_
 refine qk J a (fun _ a=>?_) (fun _ a=>?_)
 ·refine qb<|qa J<|qp ?_
  obtain rfl:=qc a
  exact qv (q6 4) J
 refine ql<|qe<|qb<|U J ?_
 obtain ⟨o,p,a⟩:=q7 a
 refine qt (qjr b (fun g=>q27 g) 99 [] (fun g r hr=>qx5 g r hr) o p) J<|q8 ?_
 refine qk J a (fun _ a=>?_) (fun _ a=>?_)
 ·refine qb<|qa J<|qp ?_
  obtain rfl:=qc a
  exact qv (q6 8) J
 refine ql<|qe<|qb<|O (.d (.agg [.nilf])) J<|U J<|qi2 (es:=1) ([b].map Kg) J J J J J ?_
 obtain ⟨f,q,a⟩:=q7 a
 refine qt (qxj b f q) J<|U J<|O (.d (.sl 6 (f.1.map Qf))) J<|O (q6 f.2) J<|qa J<|qa J<|qo<|U J<|O (qd (f.2 != 0)) J ?_
 obtain ⟨s,c,a⟩:=q7 a
 refine qy 6 (fun A st=>∃ (j k l m n : V),st = A [(24,qd s),(23,n),(22,m),(21,l),(20,k),(19,j)]) ?_ ?_
 ·refine qw J J c (fun c=>?_) (fun c=>?_)
  ·refine q9 J<|q9 J<|q9 J<|q9 J<|O (qd true) J<|q8 ?_
   obtain rfl:=qc c
   exact ⟨_,_,_,_,_,J⟩
  refine U J<|U J ?_
  obtain ⟨h,t,c⟩:=q7 c
  refine qt (qua f.1 b h t) J<|O (qd (!h)) J<|O (qd (!h)) J<|q8 ?_
  obtain rfl:=qc c
  exact ⟨_,_,_,_,_,J⟩
 rintro _ ⟨j,k,l,m,n,rfl⟩
 refine q8 ?_
 refine qk J a (fun _ a=>?_) (fun _ a=>?_)
 ·refine qb<|qa J<|qp ?_
  obtain rfl:=qc a
  exact qv (q6 8) J
 refine ql<|qb<|qa J<|qp ?_
 obtain rfl:=qc a
 exact qv (q6 0) J
theorem qxg (a : qj) (r : Int × Int × Int) (b : qb6 a = some r) : Pure Tryz.prog tab 86 [.agg [G a.Lo.X,G a.Lo.Y,G a.Lo.Z,G a.Hi.X,G a.Hi.Y,G a.Hi.Z]] (.tup [G r.1,G r.2.1,G r.2.2]):=by
 unfold qb6 at b
 refine Qa Tryz.func86 J (by kernel_rfl) (by kernel_rfl) J<|qb<|Qh (.ref 0 6 0 0) (.dat 6 [[G a.Lo.X,G a.Lo.Y,G a.Lo.Z,G a.Hi.X,G a.Hi.Y,G a.Hi.Z]]) J<|qa J<|qa J<|qa J<|q8<|qe<|Q4 [q0,q0,q0,q0,qn 0,q0,q0,qn 0,q0,q0,q0,qn 0,q0,q0,qn 0,q0,q0,q0,qn 0,q0,q0,qn 0,q0,q0] (by kernel_rfl)<|O (.ref 0 6 0 3) J<|O (.ref 0 6 0 3) J<|O (q6 a.Hi.X) J<|O (.ref 0 6 0 0) J<|O (.ref 0 6 0 0) J<|O (q6 a.Lo.X) J<|O (.d (G (w64 (a.Hi.X - a.Lo.X)))) J<|O (.ref 0 6 0 3) J<|O (.ref 0 6 0 4) J<|O (q6 a.Hi.Y) J<|O (.ref 0 6 0 0) J<|O (.ref 0 6 0 1) J<|O (q6 a.Lo.Y) J<|O (.d (G (w64 (a.Hi.Y - a.Lo.Y)))) J<|O (.ref 0 6 0 3) J<|O (.ref 0 6 0 5) J<|O (q6 a.Hi.Z) J<|O (.ref 0 6 0 0) J<|O (.ref 0 6 0 2) J<|O (q6 a.Lo.Z) J<|O (.d (G (w64 (a.Hi.Z - a.Lo.Z)))) J<|qa J<|qa J<|qa J<|qp ?_
 obtain rfl:=qc b
 exact qv (.d (.tup [G (w64 (a.Hi.X - a.Lo.X)),G (w64 (a.Hi.Y - a.Lo.Y)),G (w64 (a.Hi.Z - a.Lo.Z))])) J
theorem qb5 (g : List qj) (r : Int × Int) (c : q28 g = some r) : Pure Tryz.prog tab 40 [.sl 6 (g.map Qf)] (.tup [G r.1,G r.2]):=by
 unfold q28 at c
 refine Qa Tryz.func40 J (by kernel_rfl) (by kernel_rfl) J<|qb<|qa J<|qa J<|q8<|qe<|qb<|U J ?_
 obtain ⟨k,m,c⟩:=q7 c
 refine qt (qb3 g k m) J<|qa J<|qo<|U J<|O (qd (k != 0)) J<|q8 ?_
 refine qk J c (fun _ c=>?_) (fun _ c=>?_)
 ·refine qb<|U J<|qa J<|qa J<|qp ?_
  obtain rfl:=qc c
  exact qv (.d (.tup [G 0,G k])) J
 refine ql<|qb<|qa J<|q8<|qe<|qb<|U J<|Qk J<|U J<|q8 ?_
 obtain ⟨l,n,c⟩:=q7 c
 refine Qd (fun j=>j = l) (fun (j : Int)=>⟨[(5,q6 j)],[],0⟩) (by simp) ?_ ?_
 ·refine Q6 (q62 g) (fun (h : Int × Int)=>⟨[(5,q6 h.1),(16,.d (.sl 6 (g.map Qf))),(17,q6 (g.length : Int)),(18,q6 h.2)],[],0⟩) (0,0) l n (wkA [] [] []) ?_
  intro h q f
  unfold q62 at f
  refine qb<|O (.d (.bool (decide (h.2 < (g.length : Int))))) J<|q8<|qe ?_
  refine qk J f (fun _ f=>?_) (fun _ f=>?_)
  ·refine ql<|qe<|qu<|qb ?_
   obtain ⟨a,o,f⟩:=q7 f
   refine Qc (enc:=Qf) o J<|O (.d (.agg [G a.Lo.X,G a.Lo.Y,G a.Lo.Z,G a.Hi.X,G a.Hi.Y,G a.Hi.Z])) J<|Qp J J<|Q3 0 (.dat 6 [[G a.Lo.X,G a.Lo.Y,G a.Lo.Z,G a.Hi.X,G a.Hi.Y,G a.Hi.Z]]) J<|qo<|O (.d (.agg [G a.Lo.X,G a.Lo.Y,G a.Lo.Z,G a.Hi.X,G a.Hi.Y,G a.Hi.Z])) J ?_
   obtain ⟨b,p,f⟩:=q7 f
   refine qt (qxg a b p) J<|U J<|O (q6 b.1) J<|O (q6 b.2.1) J<|O (q6 b.2.2) J<|qa J<|qa J<|qa J<|q8<|qs<|U J<|U J<|U J<|O (.d (G (w64 (b.1 * b.2.1)))) J<|U J<|O (.d (G (w64 ((w64 (b.1 * b.2.1)) * b.2.2)))) J<|O (.d (G (w64 (h.1 + (w64 ((w64 (b.1 * b.2.1)) * b.2.2)))))) J<|qa J<|qr<|Q8<|qs<|O (.d (G (w64 (h.2 + 1)))) J<|U J<|qr ?_
   exact ⟨_,(Option.some.inj f).symm,wkA [] [] []⟩
  refine Q1 ?_
  refine ⟨_,(Option.some.inj f).symm,fun hm=>?_⟩
  subst hm
  exact ⟨_,J,wkA [] [] []⟩
 intro j hb
 subst hb
 refine qb<|U J<|qa J<|qa J<|qp ?_
 obtain rfl:=qc c
 exact qv (.d (.tup [G j,G 0])) J
theorem qug (b : List Qe) (h : Qe→Option Bool) (p1F : FuncId) (p1C : List DV) (p1Ok : ∀ (j : Qe) (r : Bool),h j = some r→Pure Tryz.prog tab p1F ([.agg [.sl 4 (j.Region.map qm),G j.Height]] ++ p1C) (.bool r)) (r : Int) (c : qaz b h = some r) : Pure Tryz.prog tab 98 [.sl 2 (b.map Kf),.fn p1F p1C] (G r):=by
 unfold qaz at c
 refine Qa Tryz.func98 J (by kernel_rfl) (by kernel_rfl) J<|qb<|qa J<|q8<|qe<|qb<|U J<|Qk J<|U J<|q8 ?_
 obtain ⟨l,m,c⟩:=q7 c
 refine Qd (fun k=>.inl k = l) (fun (k : Unit)=>⟨[],[],0⟩) (by simp) ?_ ?_
 ·refine Q6 (q3h b h) (fun (f : Int)=>⟨[(0,.d (.sl 2 (b.map Kf))),(1,.d (.fn p1F p1C)),(7,q6 (b.length : Int)),(8,q6 f)],[],0⟩) 0 l m (wkA [] [] []) ?_
  intro f q a
  unfold q3h at a
  refine qb<|O (.d (.bool (decide (f < (b.length : Int))))) J<|q8<|qe ?_
  refine qk J a (fun _ a=>?_) (fun _ a=>?_)
  ·refine ql<|qe<|qu<|qb<|U J<|qa J<|qo<|U J<|U J<|U J ?_
   obtain ⟨g,n,a⟩:=q7 a
   refine Qc (enc:=Kf) n J<|O (.d (.agg [.sl 4 (g.Region.map qm),G g.Height])) J ?_
   obtain ⟨o,p,a⟩:=q7 a
   refine Y5 [.d (.agg [.sl 4 (g.Region.map qm),G g.Height])] (p1Ok g o p) J J J (.inl J)<|q8 ?_
   refine qk J a (fun _ a=>?_) (fun _ a=>?_)
   ·refine qb<|U J<|qa J<|qp ?_
    refine ⟨_,(Option.some.inj a).symm,fun hm=>?_⟩
    subst hm
    obtain rfl:=qc c
    exact qv (q6 f) J
   refine ql<|Q7<|Q8<|qs<|O (.d (G (w64 (f + 1)))) J<|U J<|qr ?_
   exact ⟨_,(Option.some.inj a).symm,wkA [] [] []⟩
  refine Q1 ?_
  refine ⟨_,(Option.some.inj a).symm,fun hm=>?_⟩
  subst hm
  exact ⟨_,J,wkA [] [] []⟩
 intro k hb
 subst hb
 refine qb<|qa J<|qp ?_
 obtain rfl:=qc c
 exact qv (q6 (-1)) J
theorem qu9 (b : List Qe) (c : Qe→Option Bool) (p1F : FuncId) (p1C : List DV) (p1Ok : ∀ (f : Qe) (r : Bool),c f = some r→Pure Tryz.prog tab p1F ([.agg [.sl 4 (f.Region.map qm),G f.Height]] ++ p1C) (.bool r)) (r : Bool) (a : q7s b c = some r) : Pure Tryz.prog tab 53 [.sl 2 (b.map Kf),.fn p1F p1C] (.bool r):=by
 unfold q7s at a
 refine Qa Tryz.func53 J (by kernel_rfl) (by kernel_rfl) J<|qb<|qa J<|qo<|U J<|U J ?_
 obtain ⟨g,h,a⟩:=q7 a
 refine qt (qug b c p1F p1C p1Ok g h) J<|O (.d (.bool (decide (g ≥ 0)))) J<|qa J<|qp ?_
 obtain rfl:=qc a
 exact qv (.d (.bool (decide (g ≥ 0)))) J
theorem qs3 (a : Qe) (r : Bool) (c : Ut a = some r) : Pure Tryz.prog tab 54 [.agg [.sl 4 (a.Region.map qm),G a.Height]] (.bool r):=by
 unfold Ut at c
 refine Qa Tryz.func54 J (by kernel_rfl) (by kernel_rfl) J<|qb<|Qh (.ref 0 2 0 0) (.dat 2 [[.sl 4 (a.Region.map qm),G a.Height]]) J<|qa J<|qo<|O (.ref 0 2 0 1) J<|O (q6 a.Height) J<|O (.d (.bool (decide (a.Height < 1)))) J ?_
 obtain ⟨f,b,c⟩:=q7 c
 refine qy 5 (fun A st=>∃ (g h j k : V),st = A [(10,qd f),(9,k),(8,j),(7,h),(6,g)]) ?_ ?_
 ·refine qw J J b (fun b=>?_) (fun b=>?_)
  ·refine q9 J<|q9 J<|q9 J<|O (qd true) J<|q8 ?_
   obtain rfl:=qc b
   exact ⟨_,_,_,_,J⟩
  refine O (.ref 0 2 0 1) J<|O (q6 a.Height) J<|O (.d (.bool (decide (a.Height > 1000000)))) J<|O (.d (.bool (decide (a.Height > 1000000)))) J<|q8 ?_
  obtain rfl:=qc b
  exact ⟨_,_,_,_,J⟩
 rintro _ ⟨g,h,j,k,rfl⟩
 refine qa J<|qp ?_
 obtain rfl:=qc c
 exact qv (qd f) J
end Go.Proofs.YtlchefooafpdlaaGreat
