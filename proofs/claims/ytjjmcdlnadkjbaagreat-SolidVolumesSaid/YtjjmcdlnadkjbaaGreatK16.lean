/- W_Allb -/
import Derived.Test.YtjjmcdlnadkjbaaGreatK15
namespace Go.Proofs.YtjjmcdlnadkjbaaGreat
open Go Go.Am Go.Sh
set_option maxHeartbeats 8000000
set_option maxRecDepth 100000
theorem qvn (q1 : qi→qi→Option Int) (q1F : FuncId) (q1C : List DV) (q1Ok : ∀ (x0 : qi) (x1 : qi) (r : Int),q1 x0 x1 = some r→Pure Tryz.prog tab q1F ([.agg [G x0.at_,G x0.list_,G x0.by_],.agg [G x1.at_,G x1.list_,G x1.by_]] ++ q1C) (G r)) (j : List qi) (b : Int) (s : Int) (k : Int) (r : Int × Bool × List qi) (a : q8u q1 j b s k = some r) : Qq Tryz.prog tab 177 [.hs 0 3 0 j.length,q0 b,q0 s,q0 k,.d (.fn q1F q1C)] [(0,.dat 3 (j.map Q3))] 1 (.d (.tup [G r.1,.bool r.2.1])) [(0,.dat 3 (r.2.2.map Q3))] 1:=by
 unfold q8u at a
 refine K1 Tryz.func177 J (by kernel_rfl) (by kernel_rfl) J<|qb<|q9 J<|q9 J<|q8<|qe<|Q5 [Qe 0,q6,Qe 0,q6,qo 0,q6,q6,q6,qo 0,q6,q6,q6,q6,q6,q6,q6] (by kernel_rfl)<|U J<|U J<|U J<|U J<|U J<|U J ?_
 obtain ⟨f,bd,a⟩:=q7 a
 refine qq bd J J<|Q1 (.d (.agg [G f.at_,G f.list_,G f.by_])) bd J<|U J<|U J ?_
 obtain ⟨g,be,a⟩:=q7 a
 refine qq be J J<|Q1 (.d (.agg [G g.at_,G g.list_,G g.by_])) be J ?_
 obtain ⟨gd,bf,a⟩:=q7 a
 refine qq bf J J<|Qn (ds:=[G f.at_,G f.list_,G f.by_]) f bf J J J J J J J J (leb J) J ?_
 obtain ⟨ge,bg,a⟩:=q7 a
 refine qq bg (by simp) J<|Qn (ds:=[G g.at_,G g.list_,G g.by_]) g bg J J J J J J J J (leb J) J<|qm<|U J<|O (.d (G (w64 (b + 1)))) J<|U J<|O (.d (G (w64 (s - 1)))) J<|q9 J<|q9 J<|q8<|qe ?_
 obtain ⟨bh,fq,a⟩:=q7 a
 refine Qb (fun l=>l = bh) (fun (l : Int)=>⟨[(0,.hs 0 3 0 ((j.set b.toNat f).set k.toNat g).length),(1,q0 b),(4,.d (.fn q1F q1C)),(12,q0 l),(13,.d (G (w64 (s - 1))))],[(0,.dat 3 (((j.set b.toNat f).set k.toNat g).map Q3))],1⟩) (by simp) ?_ ?_
 ·refine Q7 (q8v s j b f k g q1) (fun (av : Int)=>⟨[(0,.hs 0 3 0 ((j.set b.toNat f).set k.toNat g).length),(1,q0 b),(4,.d (.fn q1F q1C)),(12,q0 av),(13,.d (G (w64 (s - 1))))],[(0,.dat 3 (((j.set b.toNat f).set k.toNat g).map Q3))],1⟩) (w64 (b + 1)) bh fq (wkE [] [] [] J ⟨⟨_,J,Qp (by simp) J (by decide) (ltd J)⟩,⟨_,J,.d (.refl _)⟩,⟨_,J,.d (.refl _)⟩,⟨_,J,.d (.refl _)⟩,⟨_,J,.d (.refl _)⟩,trivial⟩ ⟨⟨ltd J,.inr ⟨by decide,_,J,.dat _ _⟩⟩,trivial⟩) ?_
  intro av gf t
  unfold q8v at t
  refine qe<|qe<|Q5 [q6,q6,q6,qo 0,q6,q6,q6,qo 0,q6,q6,q6,q6,q6,q6,q6,q6] (by kernel_rfl)<|U J<|U J<|O (.d (.bool (decide (av≤(w64 (s - 1)))))) J ?_
  obtain ⟨fr,m,t⟩:=q7 t
  refine qx 13 (fun A st=>∃ (bi bj bk bl bm bn bo bp bq br bs bt : V),st = A [(47,qd fr),(46,bt),(45,bs),(44,br),(43,bq),(42,bp),(41,bo),(40,bn),(39,bm),(38,bl),(37,bk),(36,bj),(35,bi)]) ?_ ?_
  ·refine qw J J m (fun m=>?_) (fun m=>?_)
   ·refine U J<|U J<|U J ?_
    obtain ⟨ab,bu,m⟩:=q7 m
    refine qq bu J J<|Q1 (.d (.agg [G ab.at_,G ab.list_,G ab.by_])) bu J<|U J<|U J ?_
    obtain ⟨ac,bv,m⟩:=q7 m
    refine qq bv J J<|Q1 (.d (.agg [G ac.at_,G ac.list_,G ac.by_])) bv J ?_
    obtain ⟨bb,fs,m⟩:=q7 m
    refine Kz [.d (.agg [G ab.at_,G ab.list_,G ab.by_]),.d (.agg [G ac.at_,G ac.list_,G ac.by_])] (q1Ok ab ac bb fs) J J J (.inl J)<|O (.d (.bool (decide (bb < 0)))) J<|O (.d (.bool (decide (bb < 0)))) J<|q8 ?_
    obtain rfl:=qc m
    exact ⟨_,_,_,_,_,_,_,_,_,_,_,_,J⟩
   refine qa J<|qa J<|qa J<|qa J<|qa J<|qa J<|qa J<|qa J<|qa J<|qa J<|qa J<|O (qd false) J<|q8 ?_
   obtain rfl:=qc m
   exact ⟨_,_,_,_,_,_,_,_,_,_,_,_,J⟩
  rintro _ ⟨bi,bj,bk,bl,bm,bn,bo,bp,bq,br,bs,bt,rfl⟩
  refine q8 ?_
  refine ql J t (fun _ t=>?_) (fun _ t=>?_)
  ·refine qj<|qu<|qt<|U J<|O (.d (G (w64 (av + 1)))) J<|q9 J<|qr<|Qa<|Q9 ?_
   exact ⟨_,(Option.some.inj t).symm,wkA [] [] []⟩
  refine Q2 ?_
  refine ⟨_,(Option.some.inj t).symm,fun hm=>?_⟩
  subst hm
  exact ⟨_,J,wkA [] [] []⟩
 intro l hb
 subst hb
 refine qe ?_
 obtain ⟨bw,ft,a⟩:=q7 a
 refine Qb (fun u=>u = bw) (fun (u : Int)=>⟨[(0,.hs 0 3 0 ((j.set b.toNat f).set k.toNat g).length),(1,q0 b),(4,.d (.fn q1F q1C)),(12,q0 l),(13,q0 u)],[(0,.dat 3 (((j.set b.toNat f).set k.toNat g).map Q3))],1⟩) (by simp) ?_ ?_
 ·refine Q7 (q8w l j b f k g q1) (fun (aw : Int)=>⟨[(0,.hs 0 3 0 ((j.set b.toNat f).set k.toNat g).length),(1,q0 b),(4,.d (.fn q1F q1C)),(12,q0 l),(13,q0 aw)],[(0,.dat 3 (((j.set b.toNat f).set k.toNat g).map Q3))],1⟩) (w64 (s - 1)) bw ft (wkA [] [] []) ?_
  intro aw gg v
  unfold q8w at v
  refine qe<|qe<|Q5 [q6,q6,q6,q6,qo 0,q6,q6,q6,qo 0,q6,q6,q6,q6,q6,q6,q6,q6] (by kernel_rfl)<|U J<|U J<|O (.d (.bool (decide (l≤aw)))) J ?_
  obtain ⟨fu,n,v⟩:=q7 v
  refine qx 14 (fun A st=>∃ (bz ca cb cc cd ce cf cg ch ci cj ck cl : V),st = A [(66,qd fu),(65,cl),(64,ck),(63,cj),(62,ci),(61,ch),(60,cg),(59,cf),(58,ce),(57,cd),(56,cc),(55,cb),(54,ca),(53,bz)]) ?_ ?_
  ·refine qw J J n (fun n=>?_) (fun n=>?_)
   ·refine U J<|U J<|U J ?_
    obtain ⟨ad,cm,n⟩:=q7 n
    refine qq cm J J<|Q1 (.d (.agg [G ad.at_,G ad.list_,G ad.by_])) cm J<|U J<|U J ?_
    obtain ⟨ae,cn,n⟩:=q7 n
    refine qq cn J J<|Q1 (.d (.agg [G ae.at_,G ae.list_,G ae.by_])) cn J ?_
    obtain ⟨ax,fv,n⟩:=q7 n
    refine Kz [.d (.agg [G ad.at_,G ad.list_,G ad.by_]),.d (.agg [G ae.at_,G ae.list_,G ae.by_])] (q1Ok ad ae ax fv) J J J (.inl J)<|O (.d (.bool (decide (ax < 0)))) J<|O (.d (.bool (!(decide (ax < 0))))) J<|O (.d (.bool (!(decide (ax < 0))))) J<|q8 ?_
    obtain rfl:=qc n
    exact ⟨_,_,_,_,_,_,_,_,_,_,_,_,_,J⟩
   refine qa J<|qa J<|qa J<|qa J<|qa J<|qa J<|qa J<|qa J<|qa J<|qa J<|qa J<|qa J<|O (qd false) J<|q8 ?_
   obtain rfl:=qc n
   exact ⟨_,_,_,_,_,_,_,_,_,_,_,_,_,J⟩
  rintro _ ⟨bz,ca,cb,cc,cd,ce,cf,cg,ch,ci,cj,ck,cl,rfl⟩
  refine q8 ?_
  refine ql J v (fun _ v=>?_) (fun _ v=>?_)
  ·refine qj<|qu<|qt<|U J<|O (.d (G (w64 (aw - 1)))) J<|q9 J<|qr<|Qa<|Q9 ?_
   exact ⟨_,(Option.some.inj v).symm,wkA [] [] []⟩
  refine Q2 ?_
  refine ⟨_,(Option.some.inj v).symm,fun hm=>?_⟩
  subst hm
  exact ⟨_,J,wkA [] [] []⟩
 intro u hb
 subst hb
 refine qe<|qb<|U J<|U J<|O (.d (.bool (decide (l > u)))) J<|q8 ?_
 refine ql J a (fun _ a=>?_) (fun _ a=>?_)
 ·refine qe<|Q5 [Qe 0,q6,Qe 0,q6,qo 0,q6,q6,q6,qo 0,q6,q6,q6,q6,q6,q6,q6] (by kernel_rfl)<|U J<|U J<|U J<|U J<|U J<|U J ?_
  obtain ⟨af,co,a⟩:=q7 a
  refine qq co J J<|Q1 (.d (.agg [G af.at_,G af.list_,G af.by_])) co J<|U J<|U J ?_
  obtain ⟨ag,cp,a⟩:=q7 a
  refine qq cp J J<|Q1 (.d (.agg [G ag.at_,G ag.list_,G ag.by_])) cp J ?_
  obtain ⟨gh,cq,a⟩:=q7 a
  refine qq cq J J<|Qn (ds:=[G af.at_,G af.list_,G af.by_]) af cq J J J J J J J J (leb J) J ?_
  obtain ⟨gi,cr,a⟩:=q7 a
  refine qq cr (by simp) J<|Qn (ds:=[G ag.at_,G ag.list_,G ag.by_]) ag cr J J J J J J J J (leb J) J<|qm<|U J<|q9 J<|q9 J<|qn ?_
  obtain rfl:=qc a
  exact ⟨.inr J,_,J,wkA [] [] []⟩
 refine qj<|qe<|Q5 [Qe 0,q6,Qe 0,q6,qo 0,q6,q6,q6,qo 0,q6,q6,q6,q6,q6,q6,q6] (by kernel_rfl)<|U J<|U J<|U J<|U J<|U J<|U J ?_
 obtain ⟨w,cs,a⟩:=q7 a
 refine qq cs J J<|Q1 (.d (.agg [G w.at_,G w.list_,G w.by_])) cs J<|U J<|U J ?_
 obtain ⟨x,ct,a⟩:=q7 a
 refine qq ct J J<|Q1 (.d (.agg [G x.at_,G x.list_,G x.by_])) ct J ?_
 obtain ⟨gj,cu,a⟩:=q7 a
 refine qq cu J J<|Qn (ds:=[G w.at_,G w.list_,G w.by_]) w cu J J J J J J J J (leb J) J ?_
 obtain ⟨gk,cv,a⟩:=q7 a
 refine qq cv (by simp) J<|Qn (ds:=[G x.at_,G x.list_,G x.by_]) x cv J J J J J J J J (leb J) J<|qm<|U J<|O (.d (G (w64 (l + 1)))) J<|q9 J<|qm<|U J<|O (.d (G (w64 (u - 1)))) J<|q9 J<|q8<|qe ?_
 obtain ⟨cw,fw,a⟩:=q7 a
 refine Qb (fun ap=>ap = cw) (fun (ap : Int × List qi)=>⟨[(0,.hs 0 3 0 ap.2.length),(1,q0 b),(13,q0 ap.1)],[(0,.dat 3 (ap.2.map Q3))],1⟩) (by simp) ?_ ?_
 ·refine Q7 (q8x b q1) (fun (c : Int × Int × List qi)=>⟨[(0,.hs 0 3 0 c.2.2.length),(1,q0 b),(4,.d (.fn q1F q1C)),(12,q0 c.1),(13,q0 c.2.1)],[(0,.dat 3 (c.2.2.map Q3))],1⟩) (w64 (l + 1),w64 (u - 1),(((j.set b.toNat f).set k.toNat g).set l.toNat w).set u.toNat x) cw fw (wkE [] [] [] J ⟨⟨_,J,Qp (by simp) J (by decide) (ltd J)⟩,⟨_,J,.d (.refl _)⟩,⟨_,J,.d (.refl _)⟩,⟨_,J,.d (.refl _)⟩,⟨_,J,.d (.refl _)⟩,trivial⟩ ⟨⟨ltd J,.inr ⟨by decide,_,J,.dat _ _⟩⟩,trivial⟩) ?_
  intro c gl h
  unfold q8x at h
  refine qu<|qe ?_
  obtain ⟨cx,fx,h⟩:=q7 h
  refine Qb (fun q=>q = cx) (fun (q : Int)=>⟨[(0,.hs 0 3 0 c.2.2.length),(1,q0 b),(4,.d (.fn q1F q1C)),(12,q0 q),(13,q0 c.2.1)],[(0,.dat 3 (c.2.2.map Q3))],1⟩) (by simp) ?_ ?_
  ·refine Q7 (q8y c b q1) (fun (ay : Int)=>⟨[(0,.hs 0 3 0 c.2.2.length),(1,q0 b),(4,.d (.fn q1F q1C)),(12,q0 ay),(13,q0 c.2.1)],[(0,.dat 3 (c.2.2.map Q3))],1⟩) c.1 cx fx (wkA [] [] []) ?_
   intro ay gm y
   unfold q8y at y
   refine qe<|qe<|Q5 [q6,q6,q6,qo 0,q6,q6,q6,qo 0,q6,q6,q6,q6,q6,q6,q6,q6] (by kernel_rfl)<|U J<|U J<|O (.d (.bool (decide (ay≤c.2.1)))) J ?_
   obtain ⟨fy,o,y⟩:=q7 y
   refine qx 13 (fun A st=>∃ (cy cz da dc dd de df dg dh dj dk dl : V),st = A [(120,qd fy),(119,dl),(118,dk),(117,dj),(116,dh),(115,dg),(114,df),(113,de),(112,dd),(111,dc),(110,da),(109,cz),(108,cy)]) ?_ ?_
   ·refine qw J J o (fun o=>?_) (fun o=>?_)
    ·refine U J<|U J<|U J ?_
     obtain ⟨ah,dm,o⟩:=q7 o
     refine qq dm J J<|Q1 (.d (.agg [G ah.at_,G ah.list_,G ah.by_])) dm J<|U J<|U J ?_
     obtain ⟨ai,dn,o⟩:=q7 o
     refine qq dn J J<|Q1 (.d (.agg [G ai.at_,G ai.list_,G ai.by_])) dn J ?_
     obtain ⟨bc,fz,o⟩:=q7 o
     refine Kz [.d (.agg [G ah.at_,G ah.list_,G ah.by_]),.d (.agg [G ai.at_,G ai.list_,G ai.by_])] (q1Ok ah ai bc fz) J J J (.inl J)<|O (.d (.bool (decide (bc < 0)))) J<|O (.d (.bool (decide (bc < 0)))) J<|q8 ?_
     obtain rfl:=qc o
     exact ⟨_,_,_,_,_,_,_,_,_,_,_,_,J⟩
    refine qa J<|qa J<|qa J<|qa J<|qa J<|qa J<|qa J<|qa J<|qa J<|qa J<|qa J<|O (qd false) J<|q8 ?_
    obtain rfl:=qc o
    exact ⟨_,_,_,_,_,_,_,_,_,_,_,_,J⟩
   rintro _ ⟨cy,cz,da,dc,dd,de,df,dg,dh,dj,dk,dl,rfl⟩
   refine q8 ?_
   refine ql J y (fun _ y=>?_) (fun _ y=>?_)
   ·refine qj<|qu<|qt<|U J<|O (.d (G (w64 (ay + 1)))) J<|q9 J<|qr<|Qa<|Q9 ?_
    exact ⟨_,(Option.some.inj y).symm,wkA [] [] []⟩
   refine Q2 ?_
   refine ⟨_,(Option.some.inj y).symm,fun hm=>?_⟩
   subst hm
   exact ⟨_,J,wkA [] [] []⟩
  intro q hb
  subst hb
  refine qe ?_
  obtain ⟨dp,ga,h⟩:=q7 h
  refine Qb (fun aq=>aq = dp) (fun (aq : Int)=>⟨[(0,.hs 0 3 0 c.2.2.length),(1,q0 b),(4,.d (.fn q1F q1C)),(12,q0 q),(13,q0 aq)],[(0,.dat 3 (c.2.2.map Q3))],1⟩) (by simp) ?_ ?_
  ·refine Q7 (q8z q c b q1) (fun (az : Int)=>⟨[(0,.hs 0 3 0 c.2.2.length),(1,q0 b),(4,.d (.fn q1F q1C)),(12,q0 q),(13,q0 az)],[(0,.dat 3 (c.2.2.map Q3))],1⟩) c.2.1 dp ga (wkA [] [] []) ?_
   intro az gn z
   unfold q8z at z
   refine qe<|qe<|Q5 [q6,q6,q6,q6,qo 0,q6,q6,q6,qo 0,q6,q6,q6,q6,q6,q6,q6,q6] (by kernel_rfl)<|U J<|U J<|O (.d (.bool (decide (q≤az)))) J ?_
   obtain ⟨gb,p,z⟩:=q7 z
   refine qx 14 (fun A st=>∃ (dq dr dt du dv dw dx dy dz fa fb fc fd : V),st = A [(139,qd gb),(138,fd),(137,fc),(136,fb),(135,fa),(134,dz),(133,dy),(132,dx),(131,dw),(130,dv),(129,du),(128,dt),(127,dr),(126,dq)]) ?_ ?_
   ·refine qw J J p (fun p=>?_) (fun p=>?_)
    ·refine U J<|U J<|U J ?_
     obtain ⟨aj,fe,p⟩:=q7 p
     refine qq fe J J<|Q1 (.d (.agg [G aj.at_,G aj.list_,G aj.by_])) fe J<|U J<|U J ?_
     obtain ⟨ak,ff,p⟩:=q7 p
     refine qq ff J J<|Q1 (.d (.agg [G ak.at_,G ak.list_,G ak.by_])) ff J ?_
     obtain ⟨ba,gc,p⟩:=q7 p
     refine Kz [.d (.agg [G aj.at_,G aj.list_,G aj.by_]),.d (.agg [G ak.at_,G ak.list_,G ak.by_])] (q1Ok aj ak ba gc) J J J (.inl J)<|O (.d (.bool (decide (ba < 0)))) J<|O (.d (.bool (!(decide (ba < 0))))) J<|O (.d (.bool (!(decide (ba < 0))))) J<|q8 ?_
     obtain rfl:=qc p
     exact ⟨_,_,_,_,_,_,_,_,_,_,_,_,_,J⟩
    refine qa J<|qa J<|qa J<|qa J<|qa J<|qa J<|qa J<|qa J<|qa J<|qa J<|qa J<|qa J<|O (qd false) J<|q8 ?_
    obtain rfl:=qc p
    exact ⟨_,_,_,_,_,_,_,_,_,_,_,_,_,J⟩
   rintro _ ⟨dq,dr,dt,du,dv,dw,dx,dy,dz,fa,fb,fc,fd,rfl⟩
   refine q8 ?_
   refine ql J z (fun _ z=>?_) (fun _ z=>?_)
   ·refine qj<|qu<|qt<|U J<|O (.d (G (w64 (az - 1)))) J<|q9 J<|qr<|Qa<|Q9 ?_
    exact ⟨_,(Option.some.inj z).symm,wkA [] [] []⟩
   refine Q2 ?_
   refine ⟨_,(Option.some.inj z).symm,fun hm=>?_⟩
   subst hm
   exact ⟨_,J,wkA [] [] []⟩
  intro aq hb
  subst hb
  refine qe<|qb<|U J<|U J<|O (.d (.bool (decide (q > aq)))) J<|q8 ?_
  refine ql J h (fun _ h=>?_) (fun _ h=>?_)
  ·refine Q2 ?_
   refine ⟨_,(Option.some.inj h).symm,fun hm=>?_⟩
   subst hm
   exact ⟨_,J,wkA [] [] []⟩
  refine qj<|qe<|Q5 [Qe 0,q6,Qe 0,q6,qo 0,q6,q6,q6,qo 0,q6,q6,q6,q6,q6,q6,q6] (by kernel_rfl)<|U J<|U J<|U J<|U J<|U J<|U J ?_
  obtain ⟨al,fg,h⟩:=q7 h
  refine qq fg J J<|Q1 (.d (.agg [G al.at_,G al.list_,G al.by_])) fg J<|U J<|U J ?_
  obtain ⟨am,fh,h⟩:=q7 h
  refine qq fh J J<|Q1 (.d (.agg [G am.at_,G am.list_,G am.by_])) fh J ?_
  obtain ⟨go,fi,h⟩:=q7 h
  refine qq fi J J<|Qn (ds:=[G al.at_,G al.list_,G al.by_]) al fi J J J J J J J J (leb J) J ?_
  obtain ⟨gp,fj,h⟩:=q7 h
  refine qq fj (by simp) J<|Qn (ds:=[G am.at_,G am.list_,G am.by_]) am fj J J J J J J J J (leb J) J<|qm<|U J<|O (.d (G (w64 (q + 1)))) J<|q9 J<|q8<|qt<|U J<|O (.d (G (w64 (aq - 1)))) J<|q9 J<|qr<|Qa<|Q9 ?_
  exact ⟨_,(Option.some.inj h).symm,wkE [] [] [] J ⟨⟨_,J,Qp (by simp) J (by decide) (ltd J)⟩,⟨_,J,.d (.refl _)⟩,⟨_,J,.d (.refl _)⟩,⟨_,J,.d (.refl _)⟩,⟨_,J,.d (.refl _)⟩,trivial⟩ ⟨⟨ltd J,.inr ⟨by decide,_,J,.dat _ _⟩⟩,trivial⟩⟩
 intro ap hb
 subst hb
 refine qe<|Q5 [Qe 0,q6,Qe 0,q6,qo 0,q6,q6,q6,qo 0,q6,q6,q6,q6,q6,q6,q6] (by kernel_rfl)<|U J<|U J<|U J<|U J<|U J<|U J ?_
 obtain ⟨an,fk,a⟩:=q7 a
 refine qq fk J J<|Q1 (.d (.agg [G an.at_,G an.list_,G an.by_])) fk J<|U J<|U J ?_
 obtain ⟨ao,fl,a⟩:=q7 a
 refine qq fl J J<|Q1 (.d (.agg [G ao.at_,G ao.list_,G ao.by_])) fl J ?_
 obtain ⟨gq,fm,a⟩:=q7 a
 refine qq fm J J<|Qn (ds:=[G an.at_,G an.list_,G an.by_]) an fm J J J J J J J J (leb J) J ?_
 obtain ⟨gr,fo,a⟩:=q7 a
 refine qq fo (by simp) J<|Qn (ds:=[G ao.at_,G ao.list_,G ao.by_]) ao fo J J J J J J J J (leb J) J<|qm<|U J<|q9 J<|q9 J<|qn ?_
 obtain rfl:=qc a
 exact ⟨.inr J,_,J,wkA [] [] []⟩
theorem qvd (s : qi→qi→Option Int) (q1F : FuncId) (q1C : List DV) (_q1Ok : ∀ (o : qi) (p : qi) (r : Int),s o p = some r→Pure Tryz.prog tab q1F ([.agg [G o.at_,G o.list_,G o.by_],.agg [G p.at_,G p.list_,G p.by_]] ++ q1C) (G r)) (q : List qi) (a : Int) (b : Int) (r : List qi) (g : q8h s q a b = some r) : Qq Tryz.prog tab 172 [.hs 0 3 0 q.length,q0 a,q0 b,.d (.fn q1F q1C)] [(0,.dat 3 (q.map Q3))] 1 (.d (.tup [])) [(0,.dat 3 (r.map Q3))] 1:=by
 unfold q8h at g
 refine K1 Tryz.func172 J (by kernel_rfl) (by kernel_rfl) J<|qb<|U J<|U J<|O (.d (G (w64 (b - a)))) J<|q9 J<|qm<|U J<|O (.d (.bool (decide ((w64 (b - a)) ≥ 8)))) J<|q8 ?_
 refine ql J g (fun _ g=>?_) (fun _ g=>?_)
 ·refine qb<|U J<|O (.d (.int .u64 (IntKind.wrap .u64 (w64 (b - a))))) J<|Qo J J<|Q6 1 (.dat 1 [[.int .u64 (IntKind.wrap .u64 (w64 (b - a)))]]) J<|qm<|U J ?_
  obtain ⟨h,x,g⟩:=q7 g
  refine qs (ql2 (w64 (b - a)) h x) J<|q9 J<|qm<|U J<|U J<|O (.d (G (w64 (Int.tdiv (w64 (b - a)) 4)))) J<|O (.d (G (w64 ((w64 (Int.tdiv (w64 (b - a)) 4)) * 2)))) J<|O (.d (G (w64 (a + (w64 ((w64 (Int.tdiv (w64 (b - a)) 4)) * 2)))))) J<|O (.d (G (w64 ((w64 (a + (w64 ((w64 (Int.tdiv (w64 (b - a)) 4)) * 2)))) - 1)))) J<|q9 J<|q8 ?_
  obtain ⟨y,z,g⟩:=q7 g
  refine qu<|Q7 (q8i a b h) (fun (f : Int × List qi × Int)=>⟨[(0,.hs 0 3 0 f.2.1.length),(1,q0 a),(8,.d (G (w64 (b - a)))),(9,.ref 1 1 0 0),(10,.d (.int .u64 h)),(11,q0 f.1)],[(0,.dat 3 (f.2.1.map Q3)),(1,.dat 1 [[.int .u64 f.2.2]])],2⟩) (w64 ((w64 (a + (w64 ((w64 (Int.tdiv (w64 (b - a)) 4)) * 2)))) - 1),q,IntKind.wrap .u64 (w64 (b - a))) y z (wkA [(1,1)] [] []) ?_
  intro f ac c
  unfold q8i at c
  refine qe<|qb<|U J<|U J<|U J<|O (.d (G (w64 (Int.tdiv (w64 (b - a)) 4)))) J<|O (.d (G (w64 ((w64 (Int.tdiv (w64 (b - a)) 4)) * 2)))) J<|O (.d (G (w64 (a + (w64 ((w64 (Int.tdiv (w64 (b - a)) 4)) * 2)))))) J<|O (.d (G (w64 ((w64 (a + (w64 ((w64 (Int.tdiv (w64 (b - a)) 4)) * 2)))) + 1)))) J<|O (.d (.bool (decide (f.1≤(w64 ((w64 (a + (w64 ((w64 (Int.tdiv (w64 (b - a)) 4)) * 2)))) + 1)))))) J<|q8 ?_
  refine ql J c (fun _ c=>?_) (fun _ c=>?_)
  ·refine qj<|qe<|qu<|qb ?_
   obtain ⟨j,aa,c⟩:=q7 c
   refine Qr [(0,1)] [(0,1),(1,0)] [.ref 1 1 0 0] (.d (.int .u64 j)) 1 [(1,.dat 1 [[.int .u64 j]]),(0,.dat 3 (f.2.1.map Q3))] 2 (ql5 f.2.2 j aa)<|U J<|O (.d (.int .u64 (IntKind.wrap .u64 (h - 1)))) J<|O (.d (.int .u64 (andI .u64 j (IntKind.wrap .u64 (h - 1))))) J<|O (.d (G (w64 (andI .u64 j (IntKind.wrap .u64 (h - 1)))))) J<|q9 J<|q8<|qe<|qb<|U J<|U J<|O (.d (.bool (decide ((w64 (andI .u64 j (IntKind.wrap .u64 (h - 1)))) ≥ (w64 (b - a)))))) J<|q8 ?_
   obtain ⟨ab,n,c⟩:=q7 c
   refine Y7 (fun m=>m = ab) (fun (m : Int)=>⟨[(0,.hs 0 3 0 f.2.1.length),(1,q0 a),(8,.d (G (w64 (b - a)))),(9,.ref 1 1 0 0),(10,.d (.int .u64 h)),(11,q0 f.1),(12,q0 m)],[(0,.dat 3 (f.2.1.map Q3)),(1,.dat 1 [[.int .u64 j]])],2⟩) (by simp) ?_ ?_
   ·refine ql J n (fun _ n=>?_) (fun _ n=>?_)
    ·refine qt<|U J<|U J<|O (.d (G (w64 ((w64 (andI .u64 j (IntKind.wrap .u64 (h - 1)))) - (w64 (b - a)))))) J<|q9 J<|qr ?_
     obtain rfl:=qc n
     exact ⟨_,J,wkA [(1,1)] [] []⟩
    refine qj<|Q9 ?_
    obtain rfl:=qc n
    exact ⟨_,J,wkA [(1,1)] [] []⟩
   intro m hb
   subst hb
   refine Q5 [Qe 0,q6,Qe 0,q6,qo 0,q6,q6,q6,qo 0,q6,q6,q6,q6,q6,q6,q6,q6,q6,q6,q6] (by kernel_rfl)<|U J<|U J<|U J<|U J<|U J<|O (.d (G (w64 (a + m)))) J<|U J<|U J<|U J<|O (.d (G (w64 (a + m)))) J ?_
   obtain ⟨k,t,c⟩:=q7 c
   refine qq t J J<|Q1 (.d (.agg [G k.at_,G k.list_,G k.by_])) t J<|U J<|U J ?_
   obtain ⟨l,u,c⟩:=q7 c
   refine qq u J J<|Q1 (.d (.agg [G l.at_,G l.list_,G l.by_])) u J ?_
   obtain ⟨ad,v,c⟩:=q7 c
   refine qq v J J<|Qn (ds:=[G k.at_,G k.list_,G k.by_]) k v J J J J J J J J (leb J) J ?_
   obtain ⟨ae,w,c⟩:=q7 c
   refine qq w (by simp) J<|Qn (ds:=[G l.at_,G l.list_,G l.by_]) l w J J J J J J J J (leb J) J<|qr<|Qa<|qt<|U J<|O (.d (G (w64 (f.1 + 1)))) J<|q9 J<|qr ?_
   exact ⟨_,(Option.some.inj c).symm,wkE [(1,1)] [] [] J ⟨⟨_,J,Qp (by simp) J (by decide) (ltd J)⟩,⟨_,J,.d (.refl _)⟩,⟨_,J,.d (.refl _)⟩,⟨_,J,.ref J (by decide) (ltd J)⟩,⟨_,J,.d (.refl _)⟩,⟨_,J,.d (.refl _)⟩,trivial⟩ ⟨⟨ltd J,.inr ⟨by decide,_,J,.dat _ _⟩⟩,⟨ltd J,.inr ⟨by decide,_,J,.dat _ _⟩⟩,trivial⟩⟩
  refine Q2 ?_
  refine ⟨_,(Option.some.inj c).symm,fun hm=>?_⟩
  subst hm
  obtain rfl:=qc g
  exact ⟨.inl J,_,J,wkA [] [] []⟩
 refine qj<|Q9 ?_
 obtain rfl:=qc g
 exact ⟨.inl J,_,J,wkA [] [] []⟩
theorem qvr (rec : List qi→Int→Int→Int→Option (List qi)) (j : qi→qi→Option Int) (q1F : FuncId) (q1C : List DV) (q1Ok : ∀ (z : qi) (x1 : qi) (r : Int),j z x1 = some r→Pure Tryz.prog tab q1F ([.agg [G z.at_,G z.list_,G z.by_],.agg [G x1.at_,G x1.list_,G x1.by_]] ++ q1C) (G r)) (hrec : ∀ (o : List qi) (s : Int) (t : Int) (u : Int) (r : List qi),rec o s t u = some r→Qq Tryz.prog tab 168 [.hs 0 3 0 o.length,q0 s,q0 t,q0 u,.d (.fn q1F q1C)] [(0,.dat 3 (o.map Q3))] 1 (.d (.tup [])) [(0,.dat 3 (r.map Q3))] 1) (o : List qi) (s : Int) (t : Int) (u : Int) (r : List qi) (v : q6i rec j o s t u = some r) : Qq Tryz.prog tab 168 [.hs 0 3 0 o.length,q0 s,q0 t,q0 u,.d (.fn q1F q1C)] [(0,.dat 3 (o.map Q3))] 1 (.d (.tup [])) [(0,.dat 3 (r.map Q3))] 1:=by
 unfold q6i at v
 refine K1 Tryz.func168 J (by kernel_rfl) (by kernel_rfl) J<|qb<|q9 J<|qm<|q9 J<|q8 ?_
 obtain ⟨bi,bj,v⟩:=q7 v
 refine qu<|Q7 (q6h j rec) (fun (a : Int × Int × Int × Bool × Bool × List qi)=>⟨[(0,.hs 0 3 0 a.2.2.2.2.2.length),(1,q0 a.1),(2,q0 a.2.1),(3,q0 a.2.2.1),(4,.d (.fn q1F q1C)),(10,qd a.2.2.2.1),(11,qd a.2.2.2.2.1)],[(0,.dat 3 (a.2.2.2.2.2.map Q3))],1⟩) (s,t,u,true,true,o) bi bj (wkA [] [] []) ?_
 intro a cs b
 unfold q6h at b
 refine qu<|qb<|U J<|U J<|O (.d (G (w64 (a.2.1 - a.1)))) J<|q9 J<|q8<|qe<|qb<|U J<|O (.d (.bool (decide ((w64 (a.2.1 - a.1))≤12)))) J<|q8 ?_
 refine ql J b (fun _ b=>?_) (fun _ b=>?_)
 ·refine qb<|U J<|U J<|U J<|U J ?_
  obtain ⟨ah,bk,b⟩:=q7 b
  obtain ⟨ct,bl,b⟩:=q7 b
  have cu:=Qy bl
  refine Qr [(0,0)] [(0,0)] [.hs 0 3 0 a.2.2.2.2.2.length,q0 a.1,q0 a.2.1,.d (.fn q1F q1C)] (.d (.tup [])) 1 [(0,.dat 3 (ah.map Q3))] 1 (qvj j q1F q1C q1Ok a.2.2.2.2.2 a.1 a.2.1 ah bk)<|qn ?_
  refine ⟨_,(Option.some.inj b).symm,fun hm=>?_⟩
  subst hm
  obtain rfl:=qc v
  exact ⟨.inr J,_,J,wkA [] [] []⟩
 refine qj<|qe<|qb<|U J<|O (qd (a.2.2.1 == 0)) J<|q8 ?_
 refine ql J b (fun _ b=>?_) (fun _ b=>?_)
 ·refine qb<|U J<|U J<|U J<|U J ?_
  obtain ⟨ai,bm,b⟩:=q7 b
  obtain ⟨cv,bn,b⟩:=q7 b
  have cw:=Qy bn
  refine Qr [(0,0)] [(0,0)] [.hs 0 3 0 a.2.2.2.2.2.length,q0 a.1,q0 a.2.1,.d (.fn q1F q1C)] (.d (.tup [])) 1 [(0,.dat 3 (ai.map Q3))] 1 (qvh j q1F q1C q1Ok a.2.2.2.2.2 a.1 a.2.1 ai bm)<|qn ?_
  refine ⟨_,(Option.some.inj b).symm,fun hm=>?_⟩
  subst hm
  obtain rfl:=qc v
  exact ⟨.inr J,_,J,wkA [] [] []⟩
 refine qj<|qe<|qb<|U J<|O (qd (!a.2.2.2.1)) J<|q8 ?_
 obtain ⟨bo,m,b⟩:=q7 b
 refine Y7 (fun f=>f = bo) (fun (f : Int × List qi)=>⟨[(0,.hs 0 3 0 f.2.length),(1,q0 a.1),(2,q0 a.2.1),(3,q0 f.1),(4,.d (.fn q1F q1C)),(10,qd a.2.2.2.1),(11,qd a.2.2.2.2.1),(12,.d (G (w64 (a.2.1 - a.1))))],[(0,.dat 3 (f.2.map Q3))],1⟩) (by simp) ?_ ?_
 ·refine ql J m (fun _ m=>?_) (fun _ m=>?_)
  ·refine qb<|U J<|U J<|U J<|U J ?_
   obtain ⟨aj,bp,m⟩:=q7 m
   obtain ⟨cx,bq,m⟩:=q7 m
   have br:=Qy bq
   refine Qr [(0,0)] [(0,0)] [.hs 0 3 0 a.2.2.2.2.2.length,q0 a.1,q0 a.2.1,.d (.fn q1F q1C)] (.d (.tup [])) 1 [(0,.dat 3 (aj.map Q3))] 1 (qvd j q1F q1C q1Ok a.2.2.2.2.2 a.1 a.2.1 aj bp)<|q8<|qt<|U J<|O (.d (G (w64 (a.2.2.1 - 1)))) J<|q9 J<|qr ?_
   obtain rfl:=qc m
   exact ⟨_,J,wkE [] [] [] J ⟨⟨_,J,Qp (by simp [br]) J (by decide) (ltd J)⟩,⟨_,J,.d (.refl _)⟩,⟨_,J,.d (.refl _)⟩,⟨_,J,.d (.refl _)⟩,⟨_,J,.d (.refl _)⟩,⟨_,J,.d (.refl _)⟩,⟨_,J,.d (.refl _)⟩,⟨_,J,.d (.refl _)⟩,trivial⟩ ⟨⟨ltd J,.inr ⟨by decide,_,J,.dat _ _⟩⟩,trivial⟩⟩
  refine qj<|Q9 ?_
  obtain rfl:=qc m
  exact ⟨_,J,wkA [] [] []⟩
 intro f hb
 subst hb
 refine qb<|U J<|U J<|U J<|U J ?_
 obtain ⟨w,bs,b⟩:=q7 b
 refine q7s [.hs 0 3 0 f.2.length,q0 a.1,q0 a.2.1,.d (.fn q1F q1C)] (qvf f.2 a.1 a.2.1 j q1F q1C q1Ok w bs) J J (Jg (Z9 J J) (Jg J (Jg J (Jg J J)))) (.inr J)<|U J<|O (q0 w.1) J<|O (q0 w.2) J<|q9 J<|q9 J<|q8<|qe<|qb<|U J<|O (qd (w.2 == 2)) J<|q8 ?_
 obtain ⟨bt,n,b⟩:=q7 b
 refine Y7 (fun g=>g = bt) (fun (g : Int × Int × List qi)=>⟨[(0,.hs 0 3 0 g.2.2.length),(1,q0 a.1),(2,q0 a.2.1),(3,q0 f.1),(4,.d (.fn q1F q1C)),(10,qd a.2.2.2.1),(11,qd a.2.2.2.2.1),(12,.d (G (w64 (a.2.1 - a.1)))),(13,q0 g.1),(14,q0 g.2.1)],[(0,.dat 3 (g.2.2.map Q3))],1⟩) (by simp) ?_ ?_
 ·refine ql J n (fun _ n=>?_) (fun _ n=>?_)
  ·refine qb<|U J<|U J<|U J<|U J ?_
   obtain ⟨ak,bu,n⟩:=q7 n
   obtain ⟨cy,bv,n⟩:=q7 n
   have bw:=Qy bv
   refine Qr [(0,0)] [(0,0)] [.hs 0 3 0 f.2.length,q0 a.1,q0 a.2.1,.d (.fn q1F q1C)] (.d (.tup [])) 1 [(0,.dat 3 (ak.map Q3))] 1 (qvv j q1F q1C q1Ok f.2 a.1 a.2.1 ak bu)<|qm<|U J<|O (.d (G (w64 (a.2.1 - 1)))) J<|U J<|U J<|O (.d (G (w64 (w.1 - a.1)))) J<|O (.d (G (w64 ((w64 (a.2.1 - 1)) - (w64 (w.1 - a.1)))))) J<|q9 J<|q8<|qt<|q9 J<|qr ?_
   obtain rfl:=qc n
   exact ⟨_,J,wkE [] [] [] J ⟨⟨_,J,Qp (by simp [bw]) J (by decide) (ltd J)⟩,⟨_,J,.d (.refl _)⟩,⟨_,J,.d (.refl _)⟩,⟨_,J,.d (.refl _)⟩,⟨_,J,.d (.refl _)⟩,⟨_,J,.d (.refl _)⟩,⟨_,J,.d (.refl _)⟩,⟨_,J,.d (.refl _)⟩,⟨_,J,.d (.refl _)⟩,⟨_,J,.d (.refl _)⟩,trivial⟩ ⟨⟨ltd J,.inr ⟨by decide,_,J,.dat _ _⟩⟩,trivial⟩⟩
  refine qj<|Q9 ?_
  obtain rfl:=qc n
  exact ⟨_,J,wkA [] [] []⟩
 intro g hb
 subst hb
 refine qe<|qb<|U J ?_
 obtain ⟨bz,x,b⟩:=q7 b
 refine qx 3 (fun A st=>∃ (al am : V),st = A [(71,qd bz),(70,am),(69,al)]) ?_ ?_
 ·refine qw J J x (fun x=>?_) (fun x=>?_)
  ·refine U J<|O (qd a.2.2.2.2.1) J<|q8 ?_
   obtain rfl:=qc x
   exact ⟨_,_,J⟩
  refine qa J<|O (qd false) J<|q8 ?_
  obtain rfl:=qc x
  exact ⟨_,_,J⟩
 rintro _ ⟨al,am,rfl⟩
 obtain ⟨ca,y,b⟩:=q7 b
 refine qx 4 (fun A st=>∃ (an ao ap : V),st = A [(75,qd ca),(74,ap),(73,ao),(72,an)]) ?_ ?_
 ·refine qw J J y (fun y=>?_) (fun y=>?_)
  ·refine U J<|O (qd (g.2.1 == 1)) J<|O (qd (g.2.1 == 1)) J<|q8 ?_
   obtain rfl:=qc y
   exact ⟨_,_,_,J⟩
  refine qa J<|qa J<|O (qd false) J<|q8 ?_
  obtain rfl:=qc y
  exact ⟨_,_,_,J⟩
 rintro _ ⟨an,ao,ap,rfl⟩
 refine q8 ?_
 obtain ⟨cb,h,b⟩:=q7 b
 refine Y7 (fun k=>.inl k = cb) (fun (k : List qi)=>⟨[(0,.hs 0 3 0 k.length),(1,q0 a.1),(2,q0 a.2.1),(3,q0 f.1),(4,.d (.fn q1F q1C)),(10,qd a.2.2.2.1),(11,qd a.2.2.2.2.1),(12,.d (G (w64 (a.2.1 - a.1)))),(13,q0 g.1)],[(0,.dat 3 (k.map Q3))],1⟩) (by simp) ?_ ?_
 ·refine ql J h (fun _ h=>?_) (fun _ h=>?_)
  ·refine qb<|U J<|U J<|U J<|U J ?_
   obtain ⟨ad,cc,h⟩:=q7 h
   obtain ⟨cz,cd,h⟩:=q7 h
   have ce:=Qy cd
   refine Qr [(0,0)] [(0,0)] [.hs 0 3 0 g.2.2.length,q0 a.1,q0 a.2.1,.d (.fn q1F q1C)] (qd ad.1) 1 [(0,.dat 3 (ad.2.map Q3))] 1 (qvl j q1F q1C q1Ok g.2.2 a.1 a.2.1 ad cc)<|q8 ?_
   refine ql J h (fun _ h=>?_) (fun _ h=>?_)
   ·refine Uz ?_
    obtain rfl:=qc h
    refine ⟨_,(Option.some.inj b).symm,fun hm=>?_⟩
    subst hm
    obtain rfl:=qc v
    exact ⟨.inr J,_,J,wkA [] [] []⟩
   refine qj<|Q9 ?_
   obtain rfl:=qc h
   exact ⟨_,J,wkE [] [] [] J ⟨⟨_,J,Qp (by simp [ce]) J (by decide) (ltd J)⟩,⟨_,J,.d (.refl _)⟩,⟨_,J,.d (.refl _)⟩,⟨_,J,.d (.refl _)⟩,⟨_,J,.d (.refl _)⟩,⟨_,J,.d (.refl _)⟩,⟨_,J,.d (.refl _)⟩,⟨_,J,.d (.refl _)⟩,⟨_,J,.d (.refl _)⟩,trivial⟩ ⟨⟨ltd J,.inr ⟨by decide,_,J,.dat _ _⟩⟩,trivial⟩⟩
  refine qj<|Q9 ?_
  obtain rfl:=qc h
  exact ⟨_,J,wkA [] [] []⟩
 intro k hb
 subst hb
 refine qe<|qe<|Q5 [q6,q6,q6,q6,qo 0,q6,q6,q6,qo 0,q6,q6,q6,q6,q6,q6,q6,q6] (by kernel_rfl)<|U J<|O (.d (.bool (decide (a.1 > 0)))) J ?_
 obtain ⟨cf,l,b⟩:=q7 b
 refine qx 15 (fun A st=>∃ (aq ar au av aw ax ay az ba bb bc bd be bf : V),st = A [(97,qd cf),(96,bf),(95,be),(94,bd),(93,bc),(92,bb),(91,ba),(90,az),(89,ay),(88,ax),(87,aw),(86,av),(85,au),(84,ar),(83,aq)]) ?_ ?_
 ·refine qw J J l (fun l=>?_) (fun l=>?_)
  ·refine U J<|U J<|U J<|O (.d (G (w64 (a.1 - 1)))) J ?_
   obtain ⟨p,bg,l⟩:=q7 l
   refine qq bg J J<|Q1 (.d (.agg [G p.at_,G p.list_,G p.by_])) bg J<|U J<|U J ?_
   obtain ⟨q,bh,l⟩:=q7 l
   refine qq bh J J<|Q1 (.d (.agg [G q.at_,G q.list_,G q.by_])) bh J ?_
   obtain ⟨ab,cg,l⟩:=q7 l
   refine Kz [.d (.agg [G p.at_,G p.list_,G p.by_]),.d (.agg [G q.at_,G q.list_,G q.by_])] (q1Ok p q ab cg) J J J (.inl J)<|O (.d (.bool (decide (ab < 0)))) J<|O (.d (.bool (!(decide (ab < 0))))) J<|O (.d (.bool (!(decide (ab < 0))))) J<|q8 ?_
   obtain rfl:=qc l
   exact ⟨_,_,_,_,_,_,_,_,_,_,_,_,_,_,J⟩
  refine qa J<|qa J<|qa J<|qa J<|qa J<|qa J<|qa J<|qa J<|qa J<|qa J<|qa J<|qa J<|qa J<|O (qd false) J<|q8 ?_
  obtain rfl:=qc l
  exact ⟨_,_,_,_,_,_,_,_,_,_,_,_,_,_,J⟩
 rintro _ ⟨aq,ar,au,av,aw,ax,ay,az,ba,bb,bc,bd,be,bf,rfl⟩
 refine q8 ?_
 refine ql J b (fun _ b=>?_) (fun _ b=>?_)
 ·refine qb<|U J<|U J<|U J<|U J<|U J ?_
  obtain ⟨ae,ch,b⟩:=q7 b
  obtain ⟨da,ci,b⟩:=q7 b
  have cj:=Qy ci
  refine Qr [(0,0)] [(0,0)] [.hs 0 3 0 k.length,q0 a.1,q0 a.2.1,q0 g.1,.d (.fn q1F q1C)] (q0 ae.1) 1 [(0,.dat 3 (ae.2.map Q3))] 1 (qvo j q1F q1C q1Ok k a.1 a.2.1 g.1 ae ch)<|q9 J<|qm<|U J<|q9 J<|q8<|Q2<|J0<|Q9 ?_
  exact ⟨_,(Option.some.inj b).symm,wkE [] [] [] J ⟨⟨_,J,Qp (by simp [cj]) J (by decide) (ltd J)⟩,⟨_,J,.d (.refl _)⟩,⟨_,J,.d (.refl _)⟩,⟨_,J,.d (.refl _)⟩,⟨_,J,.d (.refl _)⟩,⟨_,J,.d (.refl _)⟩,⟨_,J,.d (.refl _)⟩,trivial⟩ ⟨⟨ltd J,.inr ⟨by decide,_,J,.dat _ _⟩⟩,trivial⟩⟩
 refine qj<|qb<|U J<|U J<|U J<|U J<|U J ?_
 obtain ⟨c,ck,b⟩:=q7 b
 obtain ⟨dc,cl,b⟩:=q7 b
 have ac:=Qy cl
 refine Qr [(0,0)] [(0,0)] [.hs 0 3 0 k.length,q0 a.1,q0 a.2.1,q0 g.1,.d (.fn q1F q1C)] (.d (.tup [G c.1,.bool c.2.1])) 1 [(0,.dat 3 (c.2.2.map Q3))] 1 (qvn j q1F q1C q1Ok k a.1 a.2.1 g.1 c ck)<|U J<|O (q0 c.1) J<|O (qd c.2.1) J<|q9 J<|q9 J<|qm<|U J<|q9 J<|qm<|U J<|U J<|O (.d (G (w64 (c.1 - a.1)))) J<|U J<|U J<|O (.d (G (w64 (a.2.1 - c.1)))) J<|q9 J<|q9 J<|qm<|U J<|O (.d (G (w64 (Int.tdiv (w64 (a.2.1 - a.1)) 8)))) J<|q9 J<|qm<|U J<|U J<|O (.d (.bool (decide ((w64 (c.1 - a.1)) < (w64 (a.2.1 - c.1)))))) J<|q8 ?_
 refine ql J b (fun _ b=>?_) (fun _ b=>?_)
 ·refine qb<|U J<|U J<|O (.d (.bool (decide ((w64 (c.1 - a.1)) ≥ (w64 (Int.tdiv (w64 (a.2.1 - a.1)) 8)))))) J<|q9 J<|qm<|U J<|U J<|U J<|U J<|U J ?_
  obtain ⟨af,cm,b⟩:=q7 b
  obtain ⟨dd,cn,b⟩:=q7 b
  have co:=Qy cn
  refine J7 [(0,0)] [(0,0)] [.hs 0 3 0 k.length,q0 a.1,q0 c.1,q0 f.1,.d (.fn q1F q1C)] (.d (.tup [])) [(0,.dat 3 (af.map Q3))] [(0,.dat 3 (af.map Q3))] 1 (hrec c.2.2 a.1 c.1 f.1 af cm) J J J (Ko [(0,0)] [] [] J ⟨⟨_,J,Qp (by simp [ac]) J (by decide) (ltd J)⟩,⟨_,J,.d (.refl _)⟩,⟨_,J,.d (.refl _)⟩,⟨_,J,.d (.refl _)⟩,⟨_,J,.d (.refl _)⟩,trivial⟩ ⟨⟨ltd J,.inr ⟨by decide,_,J,.dat _ _⟩⟩,trivial⟩) (Ko [(0,0)] [] [] J ⟨⟨_,J,.d (.refl _)⟩,trivial⟩ ⟨⟨ltd J,.inr ⟨by decide,_,J,.dat _ _⟩⟩,trivial⟩) J ⟨.inl J,trivial⟩<|q8<|qt<|U J<|O (.d (G (w64 (c.1 + 1)))) J<|q9 J<|qr<|Qa<|Q9 ?_
  exact ⟨_,(Option.some.inj b).symm,wkE [] [] [] J ⟨⟨_,J,Qp (by simp [ac,co]) J (by decide) (ltd J)⟩,⟨_,J,.d (.refl _)⟩,⟨_,J,.d (.refl _)⟩,⟨_,J,.d (.refl _)⟩,⟨_,J,.d (.refl _)⟩,⟨_,J,.d (.refl _)⟩,⟨_,J,.d (.refl _)⟩,trivial⟩ ⟨⟨ltd J,.inr ⟨by decide,_,J,.dat _ _⟩⟩,trivial⟩⟩
 refine qb<|U J<|U J<|O (.d (.bool (decide ((w64 (a.2.1 - c.1)) ≥ (w64 (Int.tdiv (w64 (a.2.1 - a.1)) 8)))))) J<|q9 J<|qm<|U J<|U J<|O (.d (G (w64 (c.1 + 1)))) J<|U J<|U J<|U J ?_
 obtain ⟨ag,cp,b⟩:=q7 b
 obtain ⟨de,cq,b⟩:=q7 b
 have cr:=Qy cq
 refine J7 [(0,0)] [(0,0)] [.hs 0 3 0 k.length,.d (G (w64 (c.1 + 1))),q0 a.2.1,q0 f.1,.d (.fn q1F q1C)] (.d (.tup [])) [(0,.dat 3 (ag.map Q3))] [(0,.dat 3 (ag.map Q3))] 1 (hrec c.2.2 (w64 (c.1 + 1)) a.2.1 f.1 ag cp) J J J (Ko [(0,0)] [] [] J ⟨⟨_,J,Qp (by simp [ac]) J (by decide) (ltd J)⟩,⟨_,J,.d (.refl _)⟩,⟨_,J,.d (.refl _)⟩,⟨_,J,.d (.refl _)⟩,⟨_,J,.d (.refl _)⟩,trivial⟩ ⟨⟨ltd J,.inr ⟨by decide,_,J,.dat _ _⟩⟩,trivial⟩) (Ko [(0,0)] [] [] J ⟨⟨_,J,.d (.refl _)⟩,trivial⟩ ⟨⟨ltd J,.inr ⟨by decide,_,J,.dat _ _⟩⟩,trivial⟩) J ⟨.inl J,trivial⟩<|q8<|qt<|U J<|q9 J<|qr<|Qa<|Q9 ?_
 exact ⟨_,(Option.some.inj b).symm,wkE [] [] [] J ⟨⟨_,J,Qp (by simp [ac,cr]) J (by decide) (ltd J)⟩,⟨_,J,.d (.refl _)⟩,⟨_,J,.d (.refl _)⟩,⟨_,J,.d (.refl _)⟩,⟨_,J,.d (.refl _)⟩,⟨_,J,.d (.refl _)⟩,⟨_,J,.d (.refl _)⟩,trivial⟩ ⟨⟨ltd J,.inr ⟨by decide,_,J,.dat _ _⟩⟩,trivial⟩⟩
theorem qvs (n : Nat) (g : qi→qi→Option Int) (q1F : FuncId) (q1C : List DV) (q1Ok : ∀ (h : qi) (j : qi) (r : Int),g h j = some r→Pure Tryz.prog tab q1F ([.agg [G h.at_,G h.list_,G h.by_],.agg [G j.at_,G j.list_,G j.by_]] ++ q1C) (G r)) : ∀ (a : List qi) (b : Int) (c : Int) (f : Int) (r : List qi),q6g n g a b c f = some r→Qq Tryz.prog tab 168 [.hs 0 3 0 a.length,q0 b,q0 c,q0 f,.d (.fn q1F q1C)] [(0,.dat 3 (a.map Q3))] 1 (.d (.tup [])) [(0,.dat 3 (r.map Q3))] 1:=by
 induction n with
 | zero=>intro a b c f r k;cases k
 | succ n ih=>intro a b c f r k;exact qvr (q6g n g) g q1F q1C q1Ok ih a b c f r k
theorem qvb (g : qi→qi→Option Int) (q1F : FuncId) (q1C : List DV) (q1Ok : ∀ (c : qi) (f : qi) (r : Int),g c f = some r→Pure Tryz.prog tab q1F ([.agg [G c.at_,G c.list_,G c.by_],.agg [G f.at_,G f.list_,G f.by_]] ++ q1C) (G r)) (a : List qi) (r : List qi) (b : q5r g a = some r) : Qq Tryz.prog tab 164 [.hs 0 3 0 a.length,.d (.fn q1F q1C)] [(0,.dat 3 (a.map Q3))] 1 (.d (.tup [])) [(0,.dat 3 (r.map Q3))] 1:=by
 unfold q5r at b
 refine K1 Tryz.func164 J (by kernel_rfl) (by kernel_rfl) J<|qb<|U J<|O (q0 (a.length : Int)) J<|q9 J<|q8<|qt<|U J<|U J<|U J<|O (.d (.int .u64 (IntKind.wrap .u64 (a.length : Int)))) J ?_
 obtain ⟨h,l,b⟩:=q7 b
 refine qs (qdx (IntKind.wrap .u64 (a.length : Int)) h l) J<|U J ?_
 obtain ⟨k,j,b⟩:=q7 b
 obtain ⟨o,m,b⟩:=q7 b
 have p:=Qy m
 obtain ⟨n,j⟩:=qdt j
 refine Qr [(0,0)] [(0,0)] [.hs 0 3 0 a.length,q0 0,q0 (a.length : Int),q0 h,.d (.fn q1F q1C)] (.d (.tup [])) 1 [(0,.dat 3 (k.map Q3))] 1 (qvs n g q1F q1C q1Ok a 0 (a.length : Int) h k j)<|qr ?_
 obtain rfl:=qc b
 exact ⟨.inl J,_,J,wkA [] [] []⟩
theorem qvc (a : List qi) (r : List qi) (b : qbp  a = some r) : Qq Tryz.prog tab 166 [.hs 0 3 0 a.length] [(0,.dat 3 (a.map Q3))] 1 (.fn 169 [.ref 1 1 0 0]) [(0,.dat 3 (r.map Q3)),(1,.cel 1 [[.hs 0 3 0 r.length]])] 2:=by
 unfold qbp at b
 refine K1 Tryz.func166 J (by kernel_rfl) (by kernel_rfl) J<|qb<|Qg (.ref 1 1 0 0) (.cel 1 [[.hs 0 3 0 a.length]]) J<|q9 J<|qm<|O (.fn 169 [.ref 1 1 0 0]) J<|q9 J<|qn ?_
 obtain rfl:=qc b
 exact ⟨.inr J,_,J,wkA [(1,1)] [] []⟩
theorem qyp (b : List (List qh)) (r : List (List qh) × List qi) (f : q9h  b = some r) : Qq Tryz.prog tab 156 [.hs 0 1 0 b.length] [(0,.dat 1 (b.map Jv))] 1 (.fn 169 [.ref 1 1 0 0]) [(0,.dat 1 (r.1.map Jv)),(1,.cel 1 [[.hs 2 3 0 r.2.length]]),(2,.dat 3 (r.2.map Q3))] 3:=by
 unfold q9h at f
 refine K1 Tryz.func156 J (by kernel_rfl) (by kernel_rfl) J<|qb<|q9 J<|qm<|q9 J<|q8<|qe<|qb<|U J<|O (q0 (b.length : Int)) J<|U J<|q8 ?_
 obtain ⟨t,v,f⟩:=q7 f
 refine Qb (fun h=>h = t) (fun (h : List qi)=>⟨[(3,.hs 1 3 0 h.length)],[(0,.dat 1 (b.map Jv)),(1,.dat 3 (h.map Q3))],2⟩) (by simp) ?_ ?_
 ·refine Q7 (Ub b) (fun (a : Int × List qi)=>⟨[(3,.hs 1 3 0 a.2.length),(8,.hs 0 1 0 b.length),(9,q0 (b.length : Int)),(10,q0 a.1)],[(0,.dat 1 (b.map Jv)),(1,.dat 3 (a.2.map Q3))],2⟩) (0,[]) t v (wkA [] [] [1]) ?_
  intro a ag j
  unfold Ub at j
  refine qb<|O (.d (.bool (decide (a.1 < (b.length : Int))))) J<|q8<|qe ?_
  refine ql J j (fun _ j=>?_) (fun _ j=>?_)
  ·refine qj<|qe ?_
   obtain ⟨w,l,j⟩:=q7 j
   refine Qb (fun m=>m = w) (fun (m : List qi)=>⟨[(3,.hs 1 3 0 m.length),(8,.hs 0 1 0 b.length),(9,q0 (b.length : Int)),(10,q0 a.1)],[(0,.dat 1 (b.map Jv)),(1,.dat 3 (m.map Q3))],2⟩) (by simp) ?_ ?_
   ·refine qb<|U J ?_
    obtain ⟨n,u,l⟩:=q7 l
    refine qq u J J<|Q1 (.d (.sl 2 (n.map qv))) u J<|q9 J<|q9 J<|qm<|U J<|Qc J<|U J<|q8 ?_
    obtain ⟨x,y,l⟩:=q7 l
    refine qu<|Q7 (q42 n a) (fun (k : Int × List qi)=>⟨[(3,.hs 1 3 0 k.2.length),(4,q0 a.1),(8,.hs 0 1 0 b.length),(9,q0 (b.length : Int)),(10,q0 a.1),(15,.d (.sl 2 (n.map qv))),(16,q0 (n.length : Int)),(17,q0 k.1)],[(0,.dat 1 (b.map Jv)),(1,.dat 3 (k.2.map Q3))],2⟩) (0,a.2) x y (wkA [(1,1)] [] []) ?_
    intro k ah g
    unfold q42 at g
    refine qb<|O (.d (.bool (decide (k.1 < (n.length : Int))))) J<|q8<|qe ?_
    refine ql J g (fun _ g=>?_) (fun _ g=>?_)
    ·refine qj<|qe<|qu<|qb ?_
     obtain ⟨c,z,g⟩:=q7 g
     refine Q4 (enc:=qv) z J<|O (.d (.agg [G c.Lo,G c.Hi])) J<|Qo J J<|Q6 2 (.dat 2 [[G c.Lo,G c.Hi]]) J<|q8<|qt<|U J<|O (.ref 2 2 0 0) J<|O (q0 c.Lo) J<|U J<|O (.d (.agg [G c.Lo,G a.1,G 1])) J<|O (.ref 2 2 0 1) J<|O (q0 c.Hi) J<|U J<|O (.d (.agg [G c.Hi,G a.1,G (-1)])) J<|Qg (.hs 3 3 0 [({at_:=c.Lo,list_:=a.1,by_:=1} : qi),({at_:=c.Hi,list_:=a.1,by_:=(-1)} : qi)].length) (.dat 3 ([({at_:=c.Lo,list_:=a.1,by_:=1} : qi),({at_:=c.Hi,list_:=a.1,by_:=(-1)} : qi)].map Q3)) J ?_
     obtain ⟨ai,aa,g⟩:=q7 g
     refine Ka (xs:=k.2) (ys:=[({at_:=c.Lo,list_:=a.1,by_:=1} : qi),({at_:=c.Hi,list_:=a.1,by_:=(-1)} : qi)]) (enc:=Q3) (.hs 3 3 0 [({at_:=c.Lo,list_:=a.1,by_:=1} : qi),({at_:=c.Hi,list_:=a.1,by_:=(-1)} : qi)].length) aa J J J J J J J (K9 J J) J J J J<|q9 J<|qr<|Qa<|qt<|O (.d (G (w64 (k.1 + 1)))) J<|U J<|qr ?_
     exact ⟨_,(Option.some.inj g).symm,wkA [(1,4)] [] []⟩
    refine Q2 ?_
    refine ⟨_,(Option.some.inj g).symm,fun hm=>?_⟩
    subst hm
    obtain rfl:=qc l
    exact ⟨_,J,wkA [(1,1)] [] []⟩
   intro m hb
   subst hb
   refine qt<|O (.d (G (w64 (a.1 + 1)))) J<|U J<|qr ?_
   exact ⟨_,(Option.some.inj j).symm,wkA [(1,1)] [] []⟩
  refine Q2 ?_
  refine ⟨_,(Option.some.inj j).symm,fun hm=>?_⟩
  subst hm
  exact ⟨_,J,wkA [(1,1)] [] []⟩
 intro h hb
 subst hb
 refine qb<|U J ?_
 obtain ⟨p,ab,f⟩:=q7 f
 obtain ⟨aj,ac,f⟩:=q7 f
 have ad:=Qy ac
 refine Qr [(0,1)] [(0,1),(1,0)] [.hs 1 3 0 h.length,.d (.fn 165 [])] (.d (.tup [])) 1 [(1,.dat 3 (p.map Q3)),(0,.dat 1 (b.map Jv))] 2 (qvb (fun q s=>q9g q s) 165 [] (fun q s r hr=>qyo q s r hr) h p ab)<|qm<|U J ?_
 obtain ⟨o,ae,f⟩:=q7 f
 obtain ⟨ak,af,f⟩:=q7 f
 have al:=Qy af
 refine J7 [(0,1)] [(0,2),(1,0),(2,1)] [.hs 1 3 0 h.length] (.fn 169 [.ref 2 1 0 0]) [(1,.dat 3 (o.map Q3)),(2,.cel 1 [[.hs 1 3 0 o.length]])] [(1,.dat 3 (o.map Q3)),(2,.cel 1 [[.hs 1 3 0 o.length]]),(0,.dat 1 (b.map Jv))] 3 (qvc p o ae) J J J (Ko [(0,1)] [] [] J ⟨⟨_,J,Qp (by simp [ad]) J (by decide) (ltd J)⟩,trivial⟩ ⟨⟨ltd J,.inr ⟨by decide,_,J,.dat _ _⟩⟩,trivial⟩) (Ko [(0,2),(1,0),(2,1)] [] [] J ⟨⟨_,J,(q1d (.cons (.ref J (by decide) (ltd J)) .nil))⟩,trivial⟩ ⟨⟨ltd J,.inr ⟨by decide,_,J,.dat _ _⟩⟩,⟨ltd J,.inr ⟨by decide,_,J,Zs (.cons (.hs J (by decide) (ltd J)) J .nil)⟩⟩,trivial⟩) J ⟨.inl J,.inl J,.inr ⟨J,J⟩,trivial⟩<|q9 J<|qn ?_
 obtain rfl:=qc f
 exact ⟨.inr J,_,J,wkA [(1,2),(2,1)] [] []⟩
theorem qyq (f : Int) (j : Bool) (b : Int) (c : List qh) (r : Bool × Int × List qh) (a : q9i  f j b c = some r) : Qq Tryz.prog tab 155 [q0 f,.ref 0 1 0 0,.ref 1 1 0 0,.ref 2 1 0 0] [(0,.dat 1 [[.bool j]]),(1,.dat 1 [[G b]]),(2,.cel 1 [[.hs 3 2 0 c.length]]),(3,.dat 2 (c.map qv))] 4 (.d (.tup [])) [(0,.dat 1 [[.bool r.1]]),(1,.dat 1 [[G r.2.1]]),(2,.cel 1 [[.hs 4 2 0 r.2.2.length]]),(4,.dat 2 (r.2.2.map qv))] 5:=by
 unfold q9i at a
 refine K1 Tryz.func155 J (by kernel_rfl) (by kernel_rfl) J<|qe<|qb<|O (qd j) J<|O (qd (!j)) J ?_
 obtain ⟨ab,h,a⟩:=q7 a
 refine qx 5 (fun A st=>∃ (l m n o : V),st = A [(12,qd ab),(11,o),(10,n),(9,m),(8,l)]) ?_ ?_
 ·refine qw J J h (fun h=>?_) (fun h=>?_)
  ·refine qa J<|qa J<|qa J<|O (qd true) J<|q8 ?_
   obtain rfl:=qc h
   exact ⟨_,_,_,_,J⟩
  refine O (q0 b) J<|U J<|O (qd (b == f)) J<|O (qd (b == f)) J<|q8 ?_
  obtain rfl:=qc h
  exact ⟨_,_,_,_,J⟩
 rintro _ ⟨l,m,n,o,rfl⟩
 refine q8 ?_
 refine ql J a (fun _ a=>?_) (fun _ a=>?_)
 ·refine Uz ?_
  obtain rfl:=qc a
  exact ⟨.inr J,_,J,wkA [(4,3)] [] []⟩
 refine qj<|qb<|O (.hs 3 2 0 c.length) J<|O (q0 (c.length : Int)) J<|q9 J<|q8<|qe<|Q5 [q6,q6,qo 1,qo 3,q6,q6,q6,q6,qo 2,q6,q6,q6] (by kernel_rfl)<|U J<|O (.d (.bool (decide ((c.length : Int) > 0)))) J ?_
 obtain ⟨ac,g,a⟩:=q7 a
 refine qx 10 (fun A st=>∃ (p q s t u v w x y : V),st = A [(26,qd ac),(25,y),(24,x),(23,w),(22,v),(21,u),(20,t),(19,s),(18,q),(17,p)]) ?_ ?_
 ·refine qw J J g (fun g=>?_) (fun g=>?_)
  ·refine O (.hs 3 2 0 c.length) J<|U J<|O (.d (G (w64 ((c.length : Int) - 1)))) J ?_
   obtain ⟨k,z,g⟩:=q7 g
   refine qq z J J<|O (.ref 3 2 (w64 ((c.length : Int) - 1)).toNat 1) J<|Q1 (q0 k.Hi) z J<|O (q0 b) J<|O (qd (k.Hi == b)) J<|O (qd (k.Hi == b)) J<|q8 ?_
   obtain rfl:=qc g
   exact ⟨_,_,_,_,_,_,_,_,_,J⟩
  refine qa J<|qa J<|qa J<|qa J<|qa J<|qa J<|qa J<|qa J<|O (qd false) J<|q8 ?_
  obtain rfl:=qc g
  exact ⟨_,_,_,_,_,_,_,_,_,J⟩
 rintro _ ⟨p,q,s,t,u,v,w,x,y,rfl⟩
 refine q8 ?_
 refine ql J a (fun _ a=>?_) (fun _ a=>?_)
 ·refine qt<|O (.hs 3 2 0 c.length) J<|U J<|O (.d (G (w64 ((c.length : Int) - 1)))) J<|U J ?_
  obtain ⟨ad,aa,a⟩:=q7 a
  refine qq aa J J<|O (.ref 3 2 (w64 ((c.length : Int) - 1)).toNat 1) J<|Qn (ds:=[G f]) ({Lo:=ad.Lo,Hi:=f} : qh) aa J J J J J J J J (leb J) J<|qr ?_
  obtain rfl:=qc a
  exact ⟨.inl J,_,J,wkE [(4,3)] [] [] J ⟨⟨_,J,.d (.refl _)⟩,trivial⟩ ⟨⟨ltd J,.inr ⟨by decide,_,J,.dat _ _⟩⟩,⟨ltd J,.inr ⟨by decide,_,J,.dat _ _⟩⟩,⟨ltd J,.inr ⟨by decide,_,J,Zs (.cons (Qp (by simp) J (by decide) (ltd J)) J .nil)⟩⟩,⟨ltd J,.inr ⟨by decide,_,J,.dat _ _⟩⟩,trivial⟩⟩
 refine qt<|O (.hs 3 2 0 c.length) J<|O (q0 b) J<|U J<|O (.d (.agg [G b,G f])) J<|Qg (.hs 4 2 0 [({Lo:=b,Hi:=f} : qh)].length) (.dat 2 ([({Lo:=b,Hi:=f} : qh)].map qv)) J ?_
 obtain ⟨ae,af,a⟩:=q7 a
 refine Ka (xs:=c) (ys:=[({Lo:=b,Hi:=f} : qh)]) (enc:=qv) (.hs 4 2 0 [({Lo:=b,Hi:=f} : qh)].length) af J J J J J J J (K9 J J) J J J J<|Q6 2 (.cel 1 [[.hs 5 2 0 ae.length]]) J<|qr ?_
 obtain rfl:=qc a
 exact ⟨.inl J,_,J,wkA [(4,5)] [] []⟩
theorem qlq (l : List qh) (m : List qh) (q : Bool→Bool→Option Bool) (p2F : FuncId) (p2C : List DV) (p2Ok : ∀ (u : Bool) (w : Bool) (r : Bool),q u w = some r→Pure Tryz.prog tab p2F ([.bool u,.bool w] ++ p2C) (.bool r)) (r : List qh) (h : q2i l m q = some r) : Pure Tryz.prog tab 138 [.sl 2 (l.map qv),.sl 2 (m.map qv),.fn p2F p2C] (.sl 2 (r.map qv)):=by
 unfold q2i at h
 refine Q8 Tryz.func138 J (by kernel_rfl) (by kernel_rfl) J<|qb<|Qg (.ref 0 1 0 0) (.dat 1 [[.fn p2F p2C]]) J<|q9 J<|qm<|Qo J J<|qm<|Qo J J<|qm<|Qo J J<|Qo J J<|Q6 3 (.dat 1 [[G 0]]) J<|Q6 4 (.dat 1 [[.bool false]]) J<|qm<|O (.fn 155 [.ref 4 1 0 0,.ref 3 1 0 0,.ref 2 1 0 0]) J<|Qo J J<|Q6 5 (.cel 1 [[.fn 155 [.ref 4 1 0 0,.ref 3 1 0 0,.ref 2 1 0 0]]]) J<|q8<|qe<|qb<|U J<|U J<|Qg (.hs 6 1 0 [l,m].length) (.dat 1 ([l,m].map Jv)) J ?_
 obtain ⟨b,h2,h⟩:=q7 h
 obtain ⟨u3,h4,h⟩:=q7 h
 have h5:=Qy h4
 refine Qr [(0,6)] [(0,3),(1,3),(2,3),(3,3),(4,3),(5,3),(6,0),(7,1),(8,2)] [.hs 6 1 0 [l,m].length] (.fn 169 [.ref 7 1 0 0]) 3 [(6,.dat 1 (b.1.map Jv)),(7,.cel 1 [[.hs 8 3 0 b.2.length]]),(8,.dat 3 (b.2.map Q3)),(0,.dat 1 [[.fn p2F p2C]]),(1,.dat 2 [[0,0].flatMap (eI .i64)]),(2,.dat 1 [[.nilsl]]),(3,.dat 1 [[G 0]]),(4,.dat 1 [[.bool false]]),(5,.cel 1 [[.fn 155 [.ref 4 1 0 0,.ref 3 1 0 0,.ref 2 1 0 0]]])] 9 (qyp [l,m] b h2)<|q8<|qu ?_
 obtain ⟨af,s,h⟩:=q7 h
 refine q85 (fun j=>j = af) (fun (j : List qh)=>⟨[(8,.ref 0 1 0 0)],[(0,.cel 1 [[.hs 1 2 0 j.length]]),(1,.dat 2 (j.map qv))],2⟩) ?_ ?_
 ·refine Kn (st':=⟨[(5,.ref 0 1 0 0),(6,.d (.nilsl)),(7,.ref 1 2 0 0),(8,.ref 2 1 0 0),(9,.ref 3 1 0 0),(10,.ref 4 1 0 0),(11,.ref 5 1 0 0),(17,.fn 169 [.ref 6 1 0 0])],[(0,.dat 1 [[.fn p2F p2C]]),(1,.dat 2 [[0,0].flatMap (eI .i64)]),(2,.dat 1 [[.nilsl]]),(3,.dat 1 [[G 0]]),(4,.dat 1 [[.bool false]]),(5,.cel 1 [[.fn 155 [.ref 4 1 0 0,.ref 3 1 0 0,.ref 2 1 0 0]]]),(6,.cel 1 [[.hs 7 3 0 b.2.length]]),(7,.dat 3 (b.2.map Q3))],8⟩) (wkA [(0,0),(1,1),(2,2),(3,3),(4,4),(5,5),(6,7),(7,8)] [] []) ?_ (by simp)
  refine q86 [.ref 6 1 0 0] (.inl J) Tryz.func169 J (by kernel_rfl) (by kernel_rfl) J ?_
  intro A154 B155 hA154 hB155
  refine qb<|O (.hs 7 3 0 b.2.length) J<|O (q0 (b.2.length : Int)) J<|U J<|q8 ?_
  obtain ⟨ag,ah,s⟩:=q7 s
  refine qu<|Q7 (q43 b q) (fun (c : Int × List Int × Int × Bool × List qh)=>⟨[(0,.yld 8),(5,.hs 7 3 0 b.2.length),(6,q0 (b.2.length : Int)),(7,q0 c.1)],[(0,.dat 1 [[.fn p2F p2C]]),(1,.dat 2 [c.2.1.flatMap (eI .i64)]),(2,.cel 1 [[.hs 9 2 0 c.2.2.2.2.length]]),(3,.dat 1 [[G c.2.2.1]]),(4,.dat 1 [[.bool c.2.2.2.1]]),(5,.cel 1 [[.fn 155 [.ref 4 1 0 0,.ref 3 1 0 0,.ref 2 1 0 0]]]),(6,.cel 1 [[.hs 7 3 0 b.2.length]]),(7,.dat 3 (b.2.map Q3)),(8,.loop [(5,.ref 0 1 0 0),(6,.d (.nilsl)),(7,.ref 1 2 0 0),(8,.ref 2 1 0 0),(9,.ref 3 1 0 0),(10,.ref 4 1 0 0),(11,.ref 5 1 0 0),(17,.fn 169 [.ref 6 1 0 0])] [18] A154 B155 .ready none),(9,.dat 2 (c.2.2.2.2.map qv))],10⟩) (0,[0,0],0,false,[]) ag ah (wkA [] [] [9]) ?_
  intro c an g
  unfold q43 at g
  refine qb<|O (.d (.bool (decide (c.1 < (b.2.length : Int))))) J<|q8<|qe ?_
  refine ql J g (fun _ g=>?_) (fun _ g=>?_)
  ·refine qj<|qe<|qu<|qb ?_
   obtain ⟨a,x,g⟩:=q7 g
   refine qq x J J<|Q1 (.d (.agg [G a.at_,G a.list_,G a.by_])) x J<|Qo J J<|Q6 10 (.dat 3 [[G a.at_,G a.list_,G a.by_]]) J<|qm<|U J<|O (.d (.agg [G a.at_,G a.list_,G a.by_])) J ?_
   obtain ⟨ai,f,g⟩:=q7 g
   refine q7u (fun k=>k = ai) (fun (k : List Int × Bool × List qh)=>⟨[(0,.yld 8),(5,.hs 7 3 0 b.2.length),(6,q0 (b.2.length : Int)),(7,q0 c.1),(13,qd true)],[(0,.dat 1 [[.fn p2F p2C]]),(1,.dat 2 [k.1.flatMap (eI .i64)]),(2,.cel 1 [[.hs 9 2 0 k.2.2.length]]),(3,.dat 1 [[G a.at_]]),(4,.dat 1 [[.bool k.2.1]]),(5,.cel 1 [[.fn 155 [.ref 4 1 0 0,.ref 3 1 0 0,.ref 2 1 0 0]]]),(6,.cel 1 [[.hs 7 3 0 b.2.length]]),(7,.dat 3 (b.2.map Q3)),(8,.loop [(5,.ref 0 1 0 0),(6,.d (.nilsl)),(7,.ref 1 2 0 0),(8,.ref 2 1 0 0),(9,.ref 3 1 0 0),(10,.ref 4 1 0 0),(11,.ref 5 1 0 0),(17,.fn 169 [.ref 6 1 0 0])] [18] A154 B155 .ready none),(9,.dat 2 (k.2.2.map qv))],10⟩) hA154 hB155 J J J J J J ?_ ?_
   ·refine qt<|Qo J J<|Q6 11 (.dat 3 [[G a.at_,G a.list_,G a.by_]]) J<|qr ?_
    refine ⟨J,_,J,?_⟩
    refine qu<|qb<|O (.fn 155 [.ref 4 1 0 0,.ref 3 1 0 0,.ref 2 1 0 0]) J<|O (.ref 11 3 0 0) J<|O (q0 a.at_) J ?_
    obtain ⟨n,aj,f⟩:=q7 f
    refine Qr [(0,4),(1,3),(2,2),(3,9)] [(0,5),(1,5),(2,2),(3,1),(4,0),(5,5),(6,5),(7,5),(8,5),(9,3),(10,5),(11,5),(12,4)] [q0 a.at_,.ref 4 1 0 0,.ref 3 1 0 0,.ref 2 1 0 0] (.d (.tup [])) 4 [(2,.cel 1 [[.hs 12 2 0 n.2.2.length]]),(3,.dat 1 [[G n.2.1]]),(4,.dat 1 [[.bool n.1]]),(12,.dat 2 (n.2.2.map qv)),(0,.dat 1 [[.fn p2F p2C]]),(1,.dat 2 [c.2.1.flatMap (eI .i64)]),(5,.cel 1 [[.fn 155 [.ref 4 1 0 0,.ref 3 1 0 0,.ref 2 1 0 0]]]),(6,.cel 1 [[.hs 7 3 0 b.2.length]]),(7,.dat 3 (b.2.map Q3)),(8,.loop [(5,.ref 0 1 0 0),(6,.d (.nilsl)),(7,.ref 1 2 0 0),(8,.ref 2 1 0 0),(9,.ref 3 1 0 0),(10,.ref 4 1 0 0),(11,.ref 5 1 0 0),(17,.fn 169 [.ref 6 1 0 0])] [18] A154 B155 .busy none),(10,.dat 3 [[G a.at_,G a.list_,G a.by_]]),(11,.dat 3 [[G a.at_,G a.list_,G a.by_]])] 13 (qyq a.at_ c.2.2.2.1 c.2.2.1 c.2.2.2.2 n aj)<|q8<|qe<|Q5 [Qe 1,q6,q6,qo 11,q6,qo 1,q6,qo 11,q6] (by kernel_rfl)<|O (.ref 11 3 0 1) J<|O (q0 a.list_) J ?_
    obtain ⟨t,y,f⟩:=q7 f
    refine qaw y J J J J J<|qe7 (enc:=(eI .i64)) (q0 t) y (fun _=>rfl) J J J J J J<|O (.ref 11 3 0 2) J<|O (q0 a.by_) J<|O (.d (G (w64 (t + a.by_)))) J ?_
    obtain ⟨ao,z,f⟩:=q7 f
    refine qaw z J J J J J<|qr8 (enc:=(eI .i64)) (w64 (t + a.by_)) z (fun _=>rfl) J J J J J J J J<|q8<|Q5 [Qe 4,Qe 3,q6,q6,qo 1,q6,q6,qo 1,q6,qo 0,qo 11,q6] (by kernel_rfl)<|O (.ref 11 3 0 0) J<|O (q0 a.at_) J<|O (.d (.fn p2F p2C)) J ?_
    obtain ⟨o,aa,f⟩:=q7 f
    refine qaw aa J J J J J<|qe7 (enc:=(eI .i64)) (q0 o) aa (fun _=>rfl) J J J J J J<|O (.d (.bool (decide (o > 0)))) J ?_
    obtain ⟨p,ab,f⟩:=q7 f
    refine qaw ab J J J J J<|qe7 (enc:=(eI .i64)) (q0 p) ab (fun _=>rfl) J J J J J J<|O (.d (.bool (decide (p > 0)))) J ?_
    obtain ⟨ac,ak,f⟩:=q7 f
    refine Kz [.d (.bool (decide (o > 0))),.d (.bool (decide (p > 0)))] (p2Ok (decide (o > 0)) (decide (p > 0)) ac ak) J J J (.inl J)<|Q6 3 (.dat 1 [[G a.at_]]) J<|Q6 4 (.dat 1 [[.bool ac]]) J<|qr<|Qa<|Q9 ?_
    refine ⟨_,J,?_⟩
    obtain rfl:=qc f
    exact ⟨_,J,wkA [(9,12)] [] []⟩
   intro k hb
   subst hb
   refine O (qd false) J<|q8<|Ym J<|qj<|Q9<|Qa<|qt<|O (.d (G (w64 (c.1 + 1)))) J<|U J<|qr ?_
   exact ⟨_,(Option.some.inj g).symm,wkA [(9,9)] [] []⟩
  refine Q2 ?_
  refine ⟨_,(Option.some.inj g).symm,fun hm=>?_⟩
  subst hm
  refine ⟨.inl J,_,J,_,_,.nor,J,by decide,?_⟩
  refine q73<|Q9 ?_
  obtain rfl:=qc s
  exact ⟨_,J,wkA [(0,2),(1,9)] [] []⟩
 intro j st hb hw
 subst hb
 refine Kn hw ?_ (by simp)
 refine qb<|O (.hs 1 2 0 j.length) J<|q9 J<|qn ?_
 obtain rfl:=qc h
 exact finD (.inr J) (v:=.hs 1 2 0 j.length) J (Z9 J J) (.refl _)
theorem qyg (a : Bool) (b : Bool) (r : Bool) (c : q9f a b = some r) : Pure Tryz.prog tab 143 [.bool a,.bool b] (.bool r):=by
 unfold q9f at c
 refine Q8 Tryz.func143 J (by kernel_rfl) (by kernel_rfl) J<|qb<|q9 J<|qm<|U J<|q9 J<|qn ?_
 obtain rfl:=qc c
 exact qz (qd a) J
theorem qyh (c : List qh) (r : List qh × Int) (a : q6x c = some r) : Pure Tryz.prog tab 131 [.sl 2 (c.map qv)] (.tup [.sl 2 (r.1.map qv),G r.2]):=by
 unfold q6x at a
 refine Q8 Tryz.func131 J (by kernel_rfl) (by kernel_rfl) J<|qb<|q9 J<|q9 J<|q8<|qe<|qb<|U J<|Qc J<|O (.d (.bool (decide ((c.length : Int) > 400)))) J<|q8 ?_
 refine ql J a (fun _ a=>?_) (fun _ a=>?_)
 ·refine qb<|q9 J<|q9 J<|qn ?_
  obtain rfl:=qc a
  exact finD (.inr J) (v:=.d (.tup [.nilsl,G 4])) J J (Kr (.cons (.nil _) (.cons (.refl _) .nil)))
 refine qj<|qe<|qb<|U J ?_
 obtain ⟨h,j,a⟩:=q7 a
 refine qs (qv3 c (fun b=>qby b) 141 [] (fun b r hr=>qyf b r hr) h j) J<|q8 ?_
 refine ql J a (fun _ a=>?_) (fun _ a=>?_)
 ·refine qb<|q9 J<|q9 J<|qn ?_
  obtain rfl:=qc a
  exact finD (.inr J) (v:=.d (.tup [.nilsl,G 8])) J J (Kr (.cons (.nil _) (.cons (.refl _) .nil)))
 refine qj<|qb<|U J ?_
 obtain ⟨g,k,a⟩:=q7 a
 refine qs (qb0 (.cons (.refl _) (.cons (.nil _) (.cons (.refl _) .nil))) (qlq c [] (fun b f=>q9f b f) 143 [] (fun b f r hr=>qyg b f r hr) g k)) J<|q9 J<|q9 J<|qn ?_
 obtain rfl:=qc a
 exact qz (.d (.tup [.sl 2 (g.map qv),G 0])) J
theorem qv5 (c : List qh) (f : List qh) (r : Bool) (b : q8e c f = some r) : Pure Tryz.prog tab 136 [.sl 2 (c.map qv),.sl 2 (f.map qv)] (.bool r):=by
 unfold q8e at b
 refine Q8 Tryz.func136 J (by kernel_rfl) (by kernel_rfl) J<|qb<|q9 J<|q8<|qe<|qb<|U J<|Qc J<|U J<|Qc J<|O (.d (.bool ((c.length : Int) != (f.length : Int)))) J<|q8 ?_
 refine ql J b (fun _ b=>?_) (fun _ b=>?_)
 ·refine qb<|q9 J<|qn ?_
  obtain rfl:=qc b
  exact qz (qd false) J
 refine qj<|qe<|qb<|U J<|Qc J<|U J<|q8 ?_
 obtain ⟨l,m,b⟩:=q7 b
 refine Qb (fun k=>.inl k = l) (fun (k : Unit)=>⟨[],[],0⟩) (by simp) ?_ ?_
 ·refine Q7 (qbk c f) (fun (g : Int)=>⟨[(0,.d (.sl 2 (c.map qv))),(1,.d (.sl 2 (f.map qv))),(12,q0 (c.length : Int)),(13,q0 g)],[],0⟩) 0 l m (wkA [] [] []) ?_
  intro g p a
  unfold qbk at a
  refine qb<|O (.d (.bool (decide (g < (c.length : Int))))) J<|q8<|qe ?_
  refine ql J a (fun _ a=>?_) (fun _ a=>?_)
  ·refine qj<|qe<|qu<|qb<|U J<|q9 J<|q8<|qe<|Q5 [q6,q6,q6,q6,q6,q6,q6,q6,q6] (by kernel_rfl)<|U J<|U J ?_
   obtain ⟨h,n,a⟩:=q7 a
   refine Q4 (enc:=qv) n J<|O (.d (.agg [G h.Lo,G h.Hi])) J<|U J<|U J ?_
   obtain ⟨j,o,a⟩:=q7 a
   refine Q4 (enc:=qv) o J<|O (.d (.agg [G j.Lo,G j.Hi])) J<|O (.d (.bool (!((h.Lo == j.Lo) && ((h.Hi == j.Hi) && true))))) J<|q8 ?_
   refine ql J a (fun _ a=>?_) (fun _ a=>?_)
   ·refine qb<|q9 J<|qn ?_
    refine ⟨_,(Option.some.inj a).symm,fun hm=>?_⟩
    subst hm
    obtain rfl:=qc b
    exact qz (qd false) J
   refine qj<|Q9<|Qa<|qt<|O (.d (G (w64 (g + 1)))) J<|U J<|qr ?_
   exact ⟨_,(Option.some.inj a).symm,wkA [] [] []⟩
  refine Q2 ?_
  refine ⟨_,(Option.some.inj a).symm,fun hm=>?_⟩
  subst hm
  exact ⟨_,J,wkA [] [] []⟩
 intro k hb
 subst hb
 refine qb<|q9 J<|qn ?_
 obtain rfl:=qc b
 exact qz (qd true) J
theorem qka (b : List qg) (m : List qh) (p : Int) (l : Int) (h : Int) (a : Int) (g : List qh) (r : List qh × Int × Int × List qg) (f : q5i  b m p l h a g = some r) : Qq Tryz.prog tab 118 [.ref 0 4 0 0,q0 h,q0 a,.d (.sl 2 (g.map qv))] [(0,.cel 4 [[.hs 1 4 0 b.length,.d (.sl 2 (m.map qv)),q0 p,q0 l]]),(1,.dat 4 (b.map qk))] 2 (.d (.tup [])) [(0,.cel 4 [[.hs 2 4 0 r.2.2.2.length,.d (.sl 2 (r.1.map qv)),q0 r.2.1,q0 r.2.2.1]]),(2,.dat 4 (r.2.2.2.map qk))] 3:=by
 unfold q5i at f
 refine K1 Tryz.func118 J (by kernel_rfl) (by kernel_rfl) J<|qe<|qb<|U J<|Qc J<|O (.d (.bool (decide ((g.length : Int) > 0)))) J ?_
 obtain ⟨am,t,f⟩:=q7 f
 refine qx 8 (fun A st=>∃ (v w x y z aa ab : V),st = A [(21,qd am),(20,ab),(19,aa),(18,z),(17,y),(16,x),(15,w),(14,v)]) ?_ ?_
 ·refine qw J J t (fun t=>?_) (fun t=>?_)
  ·refine U J<|O (.ref 0 4 0 0) J<|O (.ref 0 4 0 3) J<|O (q0 l) J<|U J<|O (qd (l == h)) J<|O (qd (l == h)) J<|q8 ?_
   obtain rfl:=qc t
   exact ⟨_,_,_,_,_,_,_,J⟩
  refine qa J<|qa J<|qa J<|qa J<|qa J<|qa J<|O (qd false) J<|q8 ?_
  obtain rfl:=qc t
  exact ⟨_,_,_,_,_,_,_,J⟩
 rintro _ ⟨v,w,x,y,z,aa,ab,rfl⟩
 obtain ⟨an,q,f⟩:=q7 f
 refine qx 8 (fun A st=>∃ (ac ad ae af ag ah ai : V),st = A [(29,qd an),(28,ai),(27,ah),(26,ag),(25,af),(24,ae),(23,ad),(22,ac)]) ?_ ?_
 ·refine qw J J q (fun q=>?_) (fun q=>?_)
  ·refine U J<|O (.ref 0 4 0 0) J<|O (.ref 0 4 0 1) J<|O (.d (.sl 2 (m.map qv))) J<|U J ?_
   obtain ⟨aj,ao,q⟩:=q7 q
   refine qs (qv5 m g aj ao) J<|O (qd aj) J<|q8 ?_
   obtain rfl:=qc q
   exact ⟨_,_,_,_,_,_,_,J⟩
  refine qa J<|qa J<|qa J<|qa J<|qa J<|qa J<|O (qd false) J<|q8 ?_
  obtain rfl:=qc q
  exact ⟨_,_,_,_,_,_,_,J⟩
 rintro _ ⟨ac,ad,ae,af,ag,ah,ai,rfl⟩
 refine q8 ?_
 refine ql J f (fun _ f=>?_) (fun _ f=>?_)
 ·refine qe<|qb<|U J<|O (.ref 0 4 0 0) J<|O (.ref 0 4 0 2) J<|O (q0 p) J<|q9 J<|q8 ?_
  obtain ⟨ak,ap,f⟩:=q7 f
  refine Qb (fun s=>s = ak) (fun (s : List qg)=>⟨[(0,.ref 0 4 0 0),(2,q0 a)],[(0,.cel 4 [[.hs 1 4 0 s.length,.d (.sl 2 (m.map qv)),q0 p,q0 l]]),(1,.dat 4 (s.map qk))],2⟩) (by simp) ?_ ?_
  ·refine Q7 (q5j a) (fun (j : Int × List qg)=>⟨[(0,.ref 0 4 0 0),(2,q0 a),(8,q0 j.1)],[(0,.cel 4 [[.hs 1 4 0 j.2.length,.d (.sl 2 (m.map qv)),q0 p,q0 l]]),(1,.dat 4 (j.2.map qk))],2⟩) (p,b) ak ap (wkA [] [] []) ?_
   intro j ax n
   unfold q5j at n
   refine qe<|qb<|U J<|U J<|O (.ref 0 4 0 0) J<|O (.ref 0 4 0 0) J<|O (.hs 1 4 0 j.2.length) J<|O (q0 (j.2.length : Int)) J<|O (.d (.bool (decide (j.1 < (j.2.length : Int))))) J<|q8 ?_
   refine ql J n (fun _ n=>?_) (fun _ n=>?_)
   ·refine qj<|qe<|qu<|qt<|U J<|O (.ref 0 4 0 0) J<|O (.ref 0 4 0 0) J<|O (.hs 1 4 0 j.2.length) J<|U J<|U J ?_
    obtain ⟨u,al,n⟩:=q7 n
    refine qq al J J<|O (.ref 1 4 j.1.toNat 2) J<|Qn (ds:=[G a]) ({X0:=u.X0,Y0:=u.Y0,X1:=a,Y1:=u.Y1} : qg) al J J J J J J J J (leb J) J<|qr<|Qa<|qt<|U J<|O (.d (G (w64 (j.1 + 1)))) J<|q9 J<|qr ?_
    exact ⟨_,(Option.some.inj n).symm,wkE [] [] [] J ⟨⟨_,J,.ref J (by decide) (ltd J)⟩,⟨_,J,.d (.refl _)⟩,⟨_,J,.d (.refl _)⟩,trivial⟩ ⟨⟨ltd J,.inr ⟨by decide,_,J,Zs (.cons (Qp (by simp) J (by decide) (ltd J)) J (.cons (.d (.refl _)) J (.cons (.d (.refl _)) J (.cons (.d (.refl _)) J .nil))))⟩⟩,⟨ltd J,.inr ⟨by decide,_,J,.dat _ _⟩⟩,trivial⟩⟩
   refine Q2 ?_
   refine ⟨_,(Option.some.inj n).symm,fun hm=>?_⟩
   subst hm
   exact ⟨_,J,wkA [] [] []⟩
  intro s hb
  subst hb
  refine qb<|U J<|U J<|O (.ref 0 4 0 0) J<|O (.ref 0 4 0 3) J<|Q6 0 (.cel 4 [[.hs 1 4 0 s.length,.d (.sl 2 (m.map qv)),q0 p,q0 a]]) J<|qn ?_
  obtain rfl:=qc f
  exact ⟨.inr J,_,J,wkA [(2,1)] [] []⟩
 refine qj<|qb<|U J<|U J<|U J<|U J<|O (.ref 0 4 0 0) J<|O (.ref 0 4 0 0) J<|O (.hs 1 4 0 b.length) J<|O (q0 (b.length : Int)) J<|U J<|U J<|O (.ref 0 4 0 0) J<|O (.ref 0 4 0 2) J<|Q6 0 (.cel 4 [[.hs 1 4 0 b.length,.d (.sl 2 (m.map qv)),q0 (b.length : Int),q0 l]]) J<|O (.ref 0 4 0 0) J<|O (.ref 0 4 0 1) J<|Q6 0 (.cel 4 [[.hs 1 4 0 b.length,.d (.sl 2 (g.map qv)),q0 (b.length : Int),q0 l]]) J<|O (.ref 0 4 0 0) J<|O (.ref 0 4 0 3) J<|Q6 0 (.cel 4 [[.hs 1 4 0 b.length,.d (.sl 2 (g.map qv)),q0 (b.length : Int),q0 a]]) J<|qm<|U J<|Qc J<|U J<|q8 ?_
 obtain ⟨aq,ar,f⟩:=q7 f
 refine qu<|Q7 (q5k g h a b) (fun (o : Int × List qg)=>⟨[(0,.ref 0 4 0 0),(1,q0 h),(2,q0 a),(71,.d (.sl 2 (g.map qv))),(72,q0 (g.length : Int)),(73,q0 o.1)],[(0,.cel 4 [[.hs 2 4 0 o.2.length,.d (.sl 2 (g.map qv)),q0 (b.length : Int),q0 a]]),(2,.dat 4 (o.2.map qk))],3⟩) (0,b) aq ar (wkA [(2,1)] [] []) ?_
 intro o ay k
 unfold q5k at k
 refine qb<|O (.d (.bool (decide (o.1 < (g.length : Int))))) J<|q8<|qe ?_
 refine ql J k (fun _ k=>?_) (fun _ k=>?_)
 ·refine qj<|qe<|qu<|qb ?_
  obtain ⟨c,au,k⟩:=q7 k
  refine Q4 (enc:=qv) au J<|O (.d (.agg [G c.Lo,G c.Hi])) J<|Qo J J<|Q6 3 (.dat 2 [[G c.Lo,G c.Hi]]) J<|q8<|Q5 [Qe 0,q6,q6,(some [2,4],[2,5]),(some [],[4]),q6,qo 3,q6,q6,qo 3,q6,q6,qo 0,q6,q6,q6,q6] (by kernel_rfl)<|U J<|U J<|O (.ref 0 4 0 0) J<|O (.ref 0 4 0 0) J<|O (.hs 2 4 0 o.2.length) J<|U J<|O (.ref 3 2 0 0) J<|O (q0 c.Lo) J<|U J<|O (.ref 3 2 0 1) J<|O (q0 c.Hi) J<|O (.d (.agg [G h,G c.Lo,G a,G c.Hi])) J<|Qg (.hs 4 4 0 [({X0:=h,Y0:=c.Lo,X1:=a,Y1:=c.Hi} : qg)].length) (.dat 4 ([({X0:=h,Y0:=c.Lo,X1:=a,Y1:=c.Hi} : qg)].map qk)) J ?_
  obtain ⟨av,aw,k⟩:=q7 k
  refine Ka (xs:=o.2) (ys:=[({X0:=h,Y0:=c.Lo,X1:=a,Y1:=c.Hi} : qg)]) (enc:=qk) (.hs 4 4 0 [({X0:=h,Y0:=c.Lo,X1:=a,Y1:=c.Hi} : qg)].length) aw J J J J J J J (K9 J J) J J J J<|O (.ref 0 4 0 0) J<|O (.ref 0 4 0 0) J<|Q6 0 (.cel 4 [[.hs 5 4 0 av.length,.d (.sl 2 (g.map qv)),q0 (b.length : Int),q0 a]]) J<|qr<|Qa<|qt<|O (.d (G (w64 (o.1 + 1)))) J<|U J<|qr ?_
  exact ⟨_,(Option.some.inj k).symm,wkA [(2,5)] [] []⟩
 refine Q2 ?_
 refine ⟨_,(Option.some.inj k).symm,fun hm=>?_⟩
 subst hm
 obtain rfl:=qc f
 exact ⟨.inl J,_,J,wkA [(2,2)] [] []⟩
theorem qkb (a : List qg) (r : List qg × Int) (u : q5l a = some r) : Pure Tryz.prog tab 108 [.sl 4 (a.map qk)] (.tup [.sl 4 (r.1.map qk),G r.2]):=by
 unfold q5l at u
 refine Q8 Tryz.func108 J (by kernel_rfl) (by kernel_rfl) J<|qb<|q9 J<|q9 J<|qm<|Qo J J<|q8<|qe<|qb<|U J<|Qg (.hs 1 1 0 [a].length) (.dat 1 ([a].map Qz)) J ?_
 obtain ⟨aw,l,u⟩:=q7 u
 refine q4z [.hs 1 1 0 [a].length] (fun h=>h = aw) (fun (h : List Int)=>⟨[(2,.d (.nilsl)),(3,q0 0),(4,.ref 0 4 0 0),(10,.fn 139 [.ref 1 1 0 0,.ref 2 1 0 0])],[(0,.dat 4 [[.nilsl,.nilsl,G 0,G 0]]),(1,.cel 1 [[.d (.sl 1 (h.map (eI .i64)))]]),(2,.cel 1 [[.hs 3 1 0 [a].length]]),(3,.dat 1 ([a].map Qz))],4⟩) J J Tryz.func130 J (by kernel_rfl) (by kernel_rfl) J ?_ ?_
 ·refine qb<|Qg (.ref 2 1 0 0) (.cel 1 [[.hs 1 1 0 [a].length]]) J<|q9 J<|qm<|Qo J J<|q8<|qe<|qb<|O (.hs 1 1 0 [a].length) J<|O (q0 1) J<|U J<|q8<|qu<|Kw<|qb<|O (qd true) J<|q8<|qe<|Yn J<|qj<|qe ?_
  obtain ⟨ax,ac,l⟩:=q7 l
  refine Qb (fun m=>m = ax) (fun (m : List Int)=>⟨[(1,.ref 2 1 0 0),(3,.ref 3 1 0 0),(8,.hs 1 1 0 [a].length),(9,q0 1),(10,q0 0)],[(0,.dat 4 [[.nilsl,.nilsl,G 0,G 0]]),(1,.dat 1 ([a].map Qz)),(2,.cel 1 [[.hs 1 1 0 [a].length]]),(3,.cel 1 [[.hs 4 1 0 m.length]]),(4,.dat 1 (m.map (eI .i64)))],5⟩) (by simp) ?_ ?_
  ·refine qb ?_
   obtain ⟨ad,am,ac⟩:=q7 ac
   refine qq am J J<|Q1 (.d (.sl 4 (ad.map qk))) am J<|q9 J<|qm<|U J<|Qc J<|U J<|q8 ?_
   obtain ⟨ay,az,ac⟩:=q7 ac
   refine qu<|Q7 (Z7 ad) (fun (w : Int × List Int)=>⟨[(1,.ref 2 1 0 0),(3,.ref 3 1 0 0),(8,.hs 1 1 0 [a].length),(9,q0 1),(10,q0 0),(14,.d (.sl 4 (ad.map qk))),(15,q0 (ad.length : Int)),(16,q0 w.1)],[(0,.dat 4 [[.nilsl,.nilsl,G 0,G 0]]),(1,.dat 1 ([a].map Qz)),(2,.cel 1 [[.hs 1 1 0 [a].length]]),(3,.cel 1 [[.hs 4 1 0 w.2.length]]),(4,.dat 1 (w.2.map (eI .i64)))],5⟩) (0,[]) ay az (wkA [(2,2),(3,3)] [] [4]) ?_
   intro w cd p
   unfold Z7 at p
   refine qb<|O (.d (.bool (decide (w.1 < (ad.length : Int))))) J<|q8<|qe ?_
   refine ql J p (fun _ p=>?_) (fun _ p=>?_)
   ·refine qj<|qe<|qu<|qb ?_
    obtain ⟨g,ba,p⟩:=q7 p
    refine Q4 (enc:=qk) ba J<|O (.d (.agg [G g.X0,G g.Y0,G g.X1,G g.Y1])) J<|Qo J J<|Q6 5 (.dat 4 [[G g.X0,G g.Y0,G g.X1,G g.Y1]]) J<|q8<|qt<|O (.hs 4 1 0 w.2.length) J<|O (.ref 5 4 0 0) J<|O (q0 g.X0) J<|O (.ref 5 4 0 2) J<|O (q0 g.X1) J<|Qg (.hs 6 1 0 [g.X0,g.X1].length) (.dat 1 ([g.X0,g.X1].map (eI .i64))) J ?_
    obtain ⟨bb,bc,p⟩:=q7 p
    refine Ka (xs:=w.2) (ys:=[g.X0,g.X1]) (enc:=(eI .i64)) (.hs 6 1 0 [g.X0,g.X1].length) bc J J J J J J J (K9 J J) J J J J<|Q6 3 (.cel 1 [[.hs 7 1 0 bb.length]]) J<|qr<|Qa<|qt<|O (.d (G (w64 (w.1 + 1)))) J<|U J<|qr ?_
    exact ⟨_,(Option.some.inj p).symm,wkA [(2,2),(3,3),(4,7)] [] []⟩
   refine Q2 ?_
   refine ⟨_,(Option.some.inj p).symm,fun hm=>?_⟩
   subst hm
   obtain rfl:=qc ac
   exact ⟨_,J,wkA [(2,2),(3,3),(4,4)] [] []⟩
  intro m hb
  subst hb
  refine qt<|O (q0 1) J<|U J<|q8<|Kw<|qb<|O (qd false) J<|q8<|qe<|Ym J<|Q2<|J0<|qb<|O (.hs 4 1 0 m.length) J ?_
  obtain ⟨ak,bd,l⟩:=q7 l
  obtain ⟨ce,be,l⟩:=q7 l
  have bf:=Qy be
  refine Qr [(0,4)] [(0,1),(1,1),(2,1),(3,1),(4,0)] [.hs 4 1 0 m.length] (.d (.tup [])) 1 [(4,.dat 1 (ak.map (eI .i64))),(0,.dat 4 [[.nilsl,.nilsl,G 0,G 0]]),(1,.dat 1 ([a].map Qz)),(2,.cel 1 [[.hs 1 1 0 [a].length]]),(3,.cel 1 [[.hs 4 1 0 m.length]])] 5 (qbo m ak bd)<|qm<|O (.hs 4 1 0 m.length) J ?_
  obtain ⟨z,bg,l⟩:=q7 l
  obtain ⟨cf,bh,l⟩:=q7 l
  have cg:=Qy bh
  obtain ⟨ch,bi,l⟩:=q7 l
  have bj:=qca bi
  refine J7 [(0,4)] [(0,1),(1,1),(2,1),(3,1),(4,0)] [.hs 4 1 0 m.length] (.hs 4 1 z.1.1 z.1.2) [(4,.dat 1 (z.2.map (eI .i64)))] [(4,.dat 1 (z.2.map (eI .i64))),(0,.dat 4 [[.nilsl,.nilsl,G 0,G 0]]),(1,.dat 1 ([a].map Qz)),(2,.cel 1 [[.hs 1 1 0 [a].length]]),(3,.cel 1 [[.hs 4 1 0 m.length]])] 5 (qbh ak z bg) J J J (Ko [(0,4)] [] [] J ⟨⟨_,J,Qp (by simp [bf]) J (by decide) (ltd J)⟩,trivial⟩ ⟨⟨ltd J,.inr ⟨by decide,_,J,.dat _ _⟩⟩,trivial⟩) (Ko [(0,1),(1,1),(2,1),(3,1),(4,0)] [] [] J ⟨⟨_,J,.hs J (by decide) (ltd J)⟩,trivial⟩ ⟨⟨ltd J,.inr ⟨by decide,_,J,.dat _ _⟩⟩,trivial⟩) J ⟨.inl J,.inr ⟨J,J⟩,.inr ⟨J,J⟩,.inr ⟨J,J⟩,.inr ⟨J,J⟩,trivial⟩<|Q6 3 (.cel 1 [[.hs 4 1 z.1.1 z.1.2]]) J<|qm<|O (.fn 139 [.ref 3 1 0 0,.ref 2 1 0 0]) J<|q9 J<|qn ?_
  refine ⟨.inr J,_,J,?_⟩
  obtain rfl:=qc l
  exact ⟨_,J,wkE [(0,0),(1,3),(2,2),(3,1)] [4] [] J ⟨⟨_,J,.d (.refl _)⟩,⟨_,J,.d (.refl _)⟩,⟨_,J,.ref J (by decide) (ltd J)⟩,⟨_,J,(q1d (.cons (.ref J (by decide) (ltd J)) (.cons (.ref J (by decide) (ltd J)) .nil)))⟩,trivial⟩ ⟨⟨ltd J,.inr ⟨by decide,_,J,.dat _ _⟩⟩,⟨ltd J,.inr ⟨by decide,_,J,Zs (.cons (qcc bj J (by decide)) J .nil)⟩⟩,⟨ltd J,.inr ⟨by decide,_,J,Zs (.cons (.hs J (by decide) (ltd J)) J .nil)⟩⟩,⟨ltd J,.inr ⟨by decide,_,J,.dat _ _⟩⟩,trivial⟩⟩
 intro h hb
 subst hb
 refine q8<|qu ?_
 obtain ⟨bk,al,u⟩:=q7 u
 refine q85 (fun n=>n = bk) (fun (n : List qh × Int × Int × List qg)=>⟨[(4,.ref 0 4 0 0)],[(0,.cel 4 [[.hs 1 4 0 n.2.2.2.length,.d (.sl 2 (n.1.map qv)),q0 n.2.1,q0 n.2.2.1]]),(1,.dat 4 (n.2.2.2.map qk))],2⟩) ?_ ?_
 ·refine Kn (st':=⟨[(2,.d (.nilsl)),(3,q0 0),(4,.ref 0 4 0 0),(10,.fn 139 [.ref 1 1 0 0,.ref 2 1 0 0])],[(0,.dat 4 [[.nilsl,.nilsl,G 0,G 0]]),(1,.cel 1 [[.d (.sl 1 (h.map (eI .i64)))]]),(2,.cel 1 [[.hs 3 1 0 [a].length]]),(3,.dat 1 ([a].map Qz))],4⟩) (wkA [(0,0),(1,1),(2,2),(3,3)] [] []) ?_ (by simp)
  refine q86 [.ref 1 1 0 0,.ref 2 1 0 0] (.inl J) Tryz.func139 J (by kernel_rfl) (by kernel_rfl) J ?_
  intro A847 B848 hA847 hB848
  refine qb<|q9 J<|q8 ?_
  obtain ⟨bl,bm,al⟩:=q7 al
  refine qu<|Q7 (q25 h a) (fun (b : Int × List qh × Int × Int × List qg)=>⟨[(0,.yld 4),(1,.ref 1 1 0 0),(2,.ref 2 1 0 0),(4,q0 b.1)],[(0,.cel 4 [[.hs 5 4 0 b.2.2.2.2.length,.d (.sl 2 (b.2.1.map qv)),q0 b.2.2.1,q0 b.2.2.2.1]]),(1,.cel 1 [[.d (.sl 1 (h.map (eI .i64)))]]),(2,.cel 1 [[.hs 3 1 0 [a].length]]),(3,.dat 1 ([a].map Qz)),(4,.loop [(2,.d (.nilsl)),(3,q0 0),(4,.ref 0 4 0 0),(10,.fn 139 [.ref 1 1 0 0,.ref 2 1 0 0])] [11] A847 B848 .ready none),(5,.dat 4 (b.2.2.2.2.map qk))],6⟩) (1,[],0,0,[]) bl bm (wkA [] [] [5]) ?_
  intro b ci j
  unfold q25 at j
  refine qe<|qb<|U J<|O (.d (.sl 1 (h.map (eI .i64)))) J<|Qc J<|O (.d (.bool (decide (b.1 < (h.length : Int))))) J<|q8 ?_
  refine ql J j (fun _ j=>?_) (fun _ j=>?_)
  ·refine qj<|qe<|qu<|qe<|Q5 [Qe 7,(some [],[7]),q6,(some [],[6]),q6,qo 2,q6,q6,q6,qo 1,q6,q6,q6,q6,qo 1] (by kernel_rfl)<|O (.d (.sl 1 (h.map (eI .i64)))) J<|U J<|O (.d (G (w64 (b.1 - 1)))) J ?_
   obtain ⟨f,bn,j⟩:=q7 j
   refine Q4 (enc:=(eI .i64)) bn J<|O (q0 f) J<|O (.d (.sl 1 (h.map (eI .i64)))) J<|U J ?_
   obtain ⟨k,bo,j⟩:=q7 j
   refine Q4 (enc:=(eI .i64)) bo J<|O (q0 k) J<|O (.hs 3 1 0 [a].length) J<|O (q0 1) J<|Qg (.hs 6 1 0 1) (.dat 1 [[.nilsl]]) J<|O (.agg [q0 f,q0 k,.hs 6 1 0 1]) J<|Qo J J<|Q6 7 (.cel 3 [[q0 f,q0 k,.hs 6 1 0 1]]) J<|q8<|qe<|qb<|O (.hs 3 1 0 [a].length) J<|O (q0 1) J<|U J<|q8<|qu<|Kw<|qb<|O (qd true) J<|q8<|qe<|Yn J<|qj<|qe ?_
   obtain ⟨bp,ae,j⟩:=q7 j
   refine Qb (fun s=>s = bp) (fun (s : List qh)=>⟨[(0,.yld 4),(1,.ref 1 1 0 0),(2,.ref 2 1 0 0),(4,q0 b.1),(5,.ref 5 3 0 0),(29,.hs 3 1 0 [a].length),(30,q0 1),(31,q0 0)],[(0,.cel 4 [[.hs 6 4 0 b.2.2.2.2.length,.d (.sl 2 (b.2.1.map qv)),q0 b.2.2.1,q0 b.2.2.2.1]]),(1,.cel 1 [[.d (.sl 1 (h.map (eI .i64)))]]),(2,.cel 1 [[.hs 3 1 0 [a].length]]),(3,.dat 1 ([a].map Qz)),(4,.loop [(2,.d (.nilsl)),(3,q0 0),(4,.ref 0 4 0 0),(10,.fn 139 [.ref 1 1 0 0,.ref 2 1 0 0])] [11] A847 B848 .ready none),(5,.cel 3 [[q0 f,q0 k,.hs 7 1 0 1]]),(6,.dat 4 (b.2.2.2.2.map qk)),(7,.cel 1 [[.hs 8 2 0 s.length]]),(8,.dat 2 (s.map qv))],9⟩) (by simp) ?_ ?_
   ·refine qb<|U J ?_
    obtain ⟨aa,an,ae⟩:=q7 ae
    refine qq an J J<|Q1 (.d (.sl 4 (aa.map qk))) an J<|q9 J<|q9 J<|qm<|U J<|Qc J<|U J<|q8 ?_
    obtain ⟨bq,br,ae⟩:=q7 ae
    refine qu<|Q7 (Jr aa f) (fun (t : Int × List qh)=>⟨[(0,.yld 4),(1,.ref 1 1 0 0),(2,.ref 2 1 0 0),(4,q0 b.1),(5,.ref 5 3 0 0),(6,q0 0),(29,.hs 3 1 0 [a].length),(30,q0 1),(31,q0 0),(36,.d (.sl 4 (aa.map qk))),(37,q0 (aa.length : Int)),(38,q0 t.1)],[(0,.cel 4 [[.hs 6 4 0 b.2.2.2.2.length,.d (.sl 2 (b.2.1.map qv)),q0 b.2.2.1,q0 b.2.2.2.1]]),(1,.cel 1 [[.d (.sl 1 (h.map (eI .i64)))]]),(2,.cel 1 [[.hs 3 1 0 [a].length]]),(3,.dat 1 ([a].map Qz)),(4,.loop [(2,.d (.nilsl)),(3,q0 0),(4,.ref 0 4 0 0),(10,.fn 139 [.ref 1 1 0 0,.ref 2 1 0 0])] [11] A847 B848 .ready none),(5,.cel 3 [[q0 f,q0 k,.hs 7 1 0 1]]),(6,.dat 4 (b.2.2.2.2.map qk)),(7,.cel 1 [[.hs 8 2 0 t.2.length]]),(8,.dat 2 (t.2.map qv))],9⟩) (0,[]) bq br (wkA [(5,7),(6,5),(7,6)] [] [8]) ?_
    intro t cj x
    unfold Jr at x
    refine qb<|O (.d (.bool (decide (t.1 < (aa.length : Int))))) J<|q8<|qe ?_
    refine ql J x (fun _ x=>?_) (fun _ x=>?_)
    ·refine qj<|qe ?_
     obtain ⟨bs,o,x⟩:=q7 x
     refine Qb (fun af=>af = bs) (fun (af : List qh)=>⟨[(0,.yld 4),(1,.ref 1 1 0 0),(2,.ref 2 1 0 0),(4,q0 b.1),(5,.ref 5 3 0 0),(6,q0 0),(29,.hs 3 1 0 [a].length),(30,q0 1),(31,q0 0),(36,.d (.sl 4 (aa.map qk))),(37,q0 (aa.length : Int)),(38,q0 t.1)],[(0,.cel 4 [[.hs 6 4 0 b.2.2.2.2.length,.d (.sl 2 (b.2.1.map qv)),q0 b.2.2.1,q0 b.2.2.2.1]]),(1,.cel 1 [[.d (.sl 1 (h.map (eI .i64)))]]),(2,.cel 1 [[.hs 3 1 0 [a].length]]),(3,.dat 1 ([a].map Qz)),(4,.loop [(2,.d (.nilsl)),(3,q0 0),(4,.ref 0 4 0 0),(10,.fn 139 [.ref 1 1 0 0,.ref 2 1 0 0])] [11] A847 B848 .ready none),(5,.cel 3 [[q0 f,q0 k,.hs 7 1 0 1]]),(6,.dat 4 (b.2.2.2.2.map qk)),(7,.cel 1 [[.hs 8 2 0 af.length]]),(8,.dat 2 (af.map qv))],9⟩) (by simp) ?_ ?_
     ·refine qb ?_
      obtain ⟨c,bt,o⟩:=q7 o
      refine Q4 (enc:=qk) bt J<|O (.d (.agg [G c.X0,G c.Y0,G c.X1,G c.Y1])) J<|Qo J J<|Q6 9 (.dat 4 [[G c.X0,G c.Y0,G c.X1,G c.Y1]]) J<|qm<|O (.ref 9 4 0 0) J<|O (q0 c.X0) J<|O (.ref 5 3 0 0) J<|O (q0 f) J<|O (.d (.bool (decide (c.X0≤f)))) J ?_
      obtain ⟨bu,ag,o⟩:=q7 o
      refine qx 7 (fun A st=>∃ (ao ap aq ar au av : V),st = A [(53,qd bu),(52,av),(51,au),(50,ar),(49,aq),(48,ap),(47,ao)]) ?_ ?_
      ·refine qw J J ag (fun ag=>?_) (fun ag=>?_)
       ·refine O (.ref 5 3 0 0) J<|O (q0 f) J<|O (.ref 9 4 0 2) J<|O (q0 c.X1) J<|O (.d (.bool (decide (f < c.X1)))) J<|O (.d (.bool (decide (f < c.X1)))) J<|q8 ?_
        obtain rfl:=qc ag
        exact ⟨_,_,_,_,_,_,J⟩
       refine qa J<|qa J<|qa J<|qa J<|qa J<|O (qd false) J<|q8 ?_
       obtain rfl:=qc ag
       exact ⟨_,_,_,_,_,_,J⟩
      rintro _ ⟨ao,ap,aq,ar,au,av,rfl⟩
      refine q8 ?_
      refine ql J o (fun _ o=>?_) (fun _ o=>?_)
      ·refine Q5 [Qe 7,q6,(some [8,10],[8,11]),(some [],[10]),q6,qo 9,q6,qo 9,q6,qo 7,q6,q6,qo 5,q6,q6,qo 5,q6] (by kernel_rfl)<|O (.ref 5 3 0 2) J<|O (.hs 7 1 0 1) J<|U J<|O (.ref 5 3 0 2) J<|O (.hs 7 1 0 1) J<|U J<|O (.ref 7 1 0 0) J<|O (.hs 8 2 0 t.2.length) J<|O (.ref 9 4 0 1) J<|O (q0 c.Y0) J<|O (.ref 9 4 0 3) J<|O (q0 c.Y1) J<|O (.d (.agg [G c.Y0,G c.Y1])) J<|Qg (.hs 10 2 0 [({Lo:=c.Y0,Hi:=c.Y1} : qh)].length) (.dat 2 ([({Lo:=c.Y0,Hi:=c.Y1} : qh)].map qv)) J ?_
       obtain ⟨bv,bw,o⟩:=q7 o
       refine Ka (xs:=t.2) (ys:=[({Lo:=c.Y0,Hi:=c.Y1} : qh)]) (enc:=qv) (.hs 10 2 0 [({Lo:=c.Y0,Hi:=c.Y1} : qh)].length) bw J J J J J J J (K9 J J) J J J J<|O (.ref 7 1 0 0) J<|Q6 7 (.cel 1 [[.hs 11 2 0 bv.length]]) J<|qr ?_
       obtain rfl:=qc o
       exact ⟨_,J,wkA [(5,5),(6,6),(7,7),(8,11)] [] []⟩
      refine qj<|Q9 ?_
      obtain rfl:=qc o
      exact ⟨_,J,wkA [(5,5),(6,6),(7,7),(8,8)] [] []⟩
     intro af hb
     subst hb
     refine qt<|O (.d (G (w64 (t.1 + 1)))) J<|U J<|qr ?_
     exact ⟨_,(Option.some.inj x).symm,wkA [(5,5),(6,6),(7,7),(8,8)] [] []⟩
    refine Q2 ?_
    refine ⟨_,(Option.some.inj x).symm,fun hm=>?_⟩
    subst hm
    obtain rfl:=qc ae
    exact ⟨_,J,wkA [(5,5),(6,6),(7,7),(8,8)] [] []⟩
   intro s hb
   subst hb
   refine qt<|O (q0 1) J<|U J<|q8<|Kw<|qb<|O (qd false) J<|q8<|qe<|Ym J<|Q2<|J0<|qe ?_
   refine Kn (st':=⟨[(0,.yld 4),(1,.ref 1 1 0 0),(2,.ref 2 1 0 0),(4,q0 b.1),(5,.ref 5 3 0 0)],[(0,.cel 4 [[.hs 6 4 0 b.2.2.2.2.length,.d (.sl 2 (b.2.1.map qv)),q0 b.2.2.1,q0 b.2.2.2.1]]),(1,.cel 1 [[.d (.sl 1 (h.map (eI .i64)))]]),(2,.cel 1 [[.hs 3 1 0 [a].length]]),(3,.dat 1 ([a].map Qz)),(4,.loop [(2,.d (.nilsl)),(3,q0 0),(4,.ref 0 4 0 0),(10,.fn 139 [.ref 1 1 0 0,.ref 2 1 0 0])] [11] A847 B848 .ready none),(5,.cel 3 [[q0 f,q0 k,.hs 7 1 0 1]]),(6,.dat 4 (b.2.2.2.2.map qk)),(7,.cel 1 [[.d (.sl 2 (s.map qv))]])],8⟩) (wkA [(5,5),(6,6),(7,7)] [8] []) ?_ (by simp)
   refine qt<|U J<|O (.agg [q0 f,q0 k,.hs 7 1 0 1]) J ?_
   obtain ⟨bz,ah,j⟩:=q7 j
   refine q7u (fun y=>y = bz) (fun (y : List qh × Int × Int × List qg)=>⟨[(0,.yld 4),(1,.ref 1 1 0 0),(2,.ref 2 1 0 0),(4,q0 b.1),(74,qd true)],[(0,.cel 4 [[.hs 5 4 0 y.2.2.2.length,.d (.sl 2 (y.1.map qv)),q0 y.2.1,q0 y.2.2.1]]),(1,.cel 1 [[.d (.sl 1 (h.map (eI .i64)))]]),(2,.cel 1 [[.hs 3 1 0 [a].length]]),(3,.dat 1 ([a].map Qz)),(4,.loop [(2,.d (.nilsl)),(3,q0 0),(4,.ref 0 4 0 0),(10,.fn 139 [.ref 1 1 0 0,.ref 2 1 0 0])] [11] A847 B848 .ready none),(5,.dat 4 (y.2.2.2.map qk))],6⟩) hA847 hB848 J J J J J J ?_ ?_
   ·refine qt<|Qo J J<|Q6 8 (.cel 3 [[q0 f,q0 k,.hs 7 1 0 1]]) J<|qr ?_
    refine ⟨J,_,J,?_⟩
    refine qu<|qb<|O (.ref 8 3 0 2) J<|O (.hs 7 1 0 1) J<|O (.ref 7 1 0 0) J<|O (.d (.sl 2 (s.map qv))) J ?_
    obtain ⟨ai,ca,ah⟩:=q7 ah
    refine qs (qyh s ai ca) J<|U J<|O (.d (.sl 2 (ai.1.map qv))) J<|O (q0 ai.2) J<|q9 J<|q9 J<|q8<|qt<|O (.ref 8 3 0 0) J<|O (q0 f) J<|O (.ref 8 3 0 1) J<|O (q0 k) J<|U J ?_
    obtain ⟨ab,cb,ah⟩:=q7 ah
    refine Qr [(0,0),(1,6)] [(0,0),(1,3),(2,3),(3,3),(4,3),(5,3),(6,1),(7,3),(8,3),(9,2)] [.ref 0 4 0 0,q0 f,q0 k,.d (.sl 2 (ai.1.map qv))] (.d (.tup [])) 2 [(0,.cel 4 [[.hs 9 4 0 ab.2.2.2.length,.d (.sl 2 (ab.1.map qv)),q0 ab.2.1,q0 ab.2.2.1]]),(9,.dat 4 (ab.2.2.2.map qk)),(1,.cel 1 [[.d (.sl 1 (h.map (eI .i64)))]]),(2,.cel 1 [[.hs 3 1 0 [a].length]]),(3,.dat 1 ([a].map Qz)),(4,.loop [(2,.d (.nilsl)),(3,q0 0),(4,.ref 0 4 0 0),(10,.fn 139 [.ref 1 1 0 0,.ref 2 1 0 0])] [11] A847 B848 .busy none),(5,.cel 3 [[q0 f,q0 k,.hs 7 1 0 1]]),(7,.cel 1 [[.d (.sl 2 (s.map qv))]]),(8,.cel 3 [[q0 f,q0 k,.hs 7 1 0 1]])] 10 (qka b.2.2.2.2 b.2.1 b.2.2.1 b.2.2.2.1 f k ai.1 ab cb)<|qr<|Qa<|Q9 ?_
    refine ⟨_,J,?_⟩
    obtain rfl:=qc ah
    exact ⟨_,J,wkA [(5,9)] [] []⟩
   intro y hb
   subst hb
   refine O (qd false) J<|q8<|Ym J<|qj<|Q9<|Qa<|qt<|U J<|O (.d (G (w64 (b.1 + 1)))) J<|q9 J<|qr ?_
   exact ⟨_,(Option.some.inj j).symm,wkA [(5,5)] [] []⟩
  refine Q2 ?_
  refine ⟨_,(Option.some.inj j).symm,fun hm=>?_⟩
  subst hm
  refine ⟨.inl J,_,J,_,_,.nor,J,by decide,?_⟩
  refine q73<|Q9 ?_
  obtain rfl:=qc al
  exact ⟨_,J,wkA [(0,0),(1,5)] [] []⟩
 intro n st hb hw
 subst hb
 refine Kn hw ?_ (by simp)
 refine qb ?_
 obtain ⟨cc,aj,u⟩:=q7 u
 refine q4z [.ref 0 4 0 0] (fun q=>q = cc) (fun (q : Int × List qg)=>⟨[(26,.tup [.hs 0 4 0 q.2.length,q0 q.1])],[(0,.dat 4 (q.2.map qk))],1⟩) J J Tryz.func119 J (by kernel_rfl) (by kernel_rfl) J ?_ ?_
 ·refine qb<|q9 J<|q9 J<|q8<|qe<|qb<|U J<|O (.ref 0 4 0 0) J<|O (.ref 0 4 0 0) J<|O (.hs 1 4 0 n.2.2.2.length) J<|O (q0 (n.2.2.2.length : Int)) J<|O (.d (.bool (decide ((n.2.2.2.length : Int) > 400)))) J<|q8 ?_
  refine ql J aj (fun _ aj=>?_) (fun _ aj=>?_)
  ·refine qb<|q9 J<|q9 J<|qn ?_
   refine ⟨.inr J,_,J,?_⟩
   obtain rfl:=qc aj
   exact ⟨_,J,wkA [] [] [0]⟩
  refine qj<|qb<|U J<|O (.ref 0 4 0 0) J<|O (.ref 0 4 0 0) J<|O (.hs 1 4 0 n.2.2.2.length) J<|q9 J<|q9 J<|qn ?_
  refine ⟨.inr J,_,J,?_⟩
  obtain rfl:=qc aj
  exact ⟨_,J,wkA [(0,1)] [] []⟩
 intro q hb
 subst hb
 refine O (.hs 0 4 0 q.2.length) J<|O (q0 q.1) J<|q9 J<|q9 J<|qn ?_
 obtain rfl:=qc u
 exact finD (.inr J) (v:=.tup [.hs 0 4 0 q.2.length,q0 q.1]) J (q9o (Jq (Z9 J J) (Jq J J))) (.refl _)
theorem qel (b : List qg) (r : List qg × Int) (a : Uy b = some r) : Pure Tryz.prog tab 83 [.sl 4 (b.map qk)] (.tup [.sl 4 (r.1.map qk),G r.2]):=by
 unfold Uy at a
 refine Q8 Tryz.func83 J (by kernel_rfl) (by kernel_rfl) J<|qb<|q9 J<|q9 J<|q8<|qe<|qb<|U J<|Qc J<|O (.d (.bool (decide ((b.length : Int) > 400)))) J<|q8 ?_
 refine ql J a (fun _ a=>?_) (fun _ a=>?_)
 ·refine qb<|q9 J<|q9 J<|qn ?_
  obtain rfl:=qc a
  exact finD (.inr J) (v:=.d (.tup [.nilsl,G 4])) J J (Kr (.cons (.nil _) (.cons (.refl _) .nil)))
 refine qj<|qe<|qb<|U J ?_
 obtain ⟨g,h,a⟩:=q7 a
 refine qs (qv1 b (fun f=>q23 f) 114 [] (fun f r hr=>qt0 f r hr) g h) J<|q8 ?_
 refine ql J a (fun _ a=>?_) (fun _ a=>?_)
 ·refine qb<|q9 J<|q9 J<|qn ?_
  obtain rfl:=qc a
  exact finD (.inr J) (v:=.d (.tup [.nilsl,G 8])) J J (Kr (.cons (.nil _) (.cons (.refl _) .nil)))
 refine qj<|qb<|U J ?_
 obtain ⟨c,j,a⟩:=q7 a
 refine qs (qkb b c j) J<|O (.d (.sl 4 (c.1.map qk))) J<|O (q0 c.2) J<|q9 J<|q9 J<|qn ?_
 obtain rfl:=qc a
 exact qz (.d (.tup [.sl 4 (c.1.map qk),G c.2])) J
theorem qkz (g : List qg) (h : List qg) (r : Bool) (b : q5q g h = some r) : Pure Tryz.prog tab 109 [.sl 4 (g.map qk),.sl 4 (h.map qk)] (.bool r):=by
 unfold q5q at b
 refine Q8 Tryz.func109 J (by kernel_rfl) (by kernel_rfl) J<|qb<|q9 J<|q8<|qe<|qb<|U J<|Qc J<|U J<|Qc J<|O (.d (.bool ((g.length : Int) != (h.length : Int)))) J<|q8 ?_
 refine ql J b (fun _ b=>?_) (fun _ b=>?_)
 ·refine qb<|q9 J<|qn ?_
  obtain rfl:=qc b
  exact qz (qd false) J
 refine qj<|qe<|qb<|U J<|Qc J<|U J<|q8 ?_
 obtain ⟨l,m,b⟩:=q7 b
 refine Qb (fun k=>.inl k = l) (fun (k : Unit)=>⟨[],[],0⟩) (by simp) ?_ ?_
 ·refine Q7 (qbi g h) (fun (j : Int)=>⟨[(0,.d (.sl 4 (g.map qk))),(1,.d (.sl 4 (h.map qk))),(12,q0 (g.length : Int)),(13,q0 j)],[],0⟩) 0 l m (wkA [] [] []) ?_
  intro j p a
  unfold qbi at a
  refine qb<|O (.d (.bool (decide (j < (g.length : Int))))) J<|q8<|qe ?_
  refine ql J a (fun _ a=>?_) (fun _ a=>?_)
  ·refine qj<|qe<|qu<|qb<|U J<|q9 J<|q8<|qe<|Q5 [q6,q6,q6,q6,q6,q6,q6,q6,q6] (by kernel_rfl)<|U J<|U J ?_
   obtain ⟨c,n,a⟩:=q7 a
   refine Q4 (enc:=qk) n J<|O (.d (.agg [G c.X0,G c.Y0,G c.X1,G c.Y1])) J<|U J<|U J ?_
   obtain ⟨f,o,a⟩:=q7 a
   refine Q4 (enc:=qk) o J<|O (.d (.agg [G f.X0,G f.Y0,G f.X1,G f.Y1])) J<|O (.d (.bool (!((c.X0 == f.X0) && ((c.Y0 == f.Y0) && ((c.X1 == f.X1) && ((c.Y1 == f.Y1) && true))))))) J<|q8 ?_
   refine ql J a (fun _ a=>?_) (fun _ a=>?_)
   ·refine qb<|q9 J<|qn ?_
    refine ⟨_,(Option.some.inj a).symm,fun hm=>?_⟩
    subst hm
    obtain rfl:=qc b
    exact qz (qd false) J
   refine qj<|Q9<|Qa<|qt<|O (.d (G (w64 (j + 1)))) J<|U J<|qr ?_
   exact ⟨_,(Option.some.inj a).symm,wkA [] [] []⟩
  refine Q2 ?_
  refine ⟨_,(Option.some.inj a).symm,fun hm=>?_⟩
  subst hm
  exact ⟨_,J,wkA [] [] []⟩
 intro k hb
 subst hb
 refine qb<|q9 J<|qn ?_
 obtain rfl:=qc b
 exact qz (qd true) J
theorem qld (c : List qf) (m : List qg) (p : Int) (l : Int) (g : Int) (b : Int) (h : List qg) (r : List qg × Int × Int × List qf) (f : q6q  c m p l g b h = some r) : Qq Tryz.prog tab 84 [.ref 0 4 0 0,q0 g,q0 b,.d (.sl 4 (h.map qk))] [(0,.cel 4 [[.hs 1 6 0 c.length,.d (.sl 4 (m.map qk)),q0 p,q0 l]]),(1,.dat 6 (c.map qp))] 2 (.d (.tup [])) [(0,.cel 4 [[.hs 2 6 0 r.2.2.2.length,.d (.sl 4 (r.1.map qk)),q0 r.2.1,q0 r.2.2.1]]),(2,.dat 6 (r.2.2.2.map qp))] 3:=by
 unfold q6q at f
 refine K1 Tryz.func84 J (by kernel_rfl) (by kernel_rfl) J<|qe<|qb<|U J<|Qc J<|O (.d (.bool (decide ((h.length : Int) > 0)))) J ?_
 obtain ⟨am,t,f⟩:=q7 f
 refine qx 8 (fun A st=>∃ (v w x y z aa ab : V),st = A [(21,qd am),(20,ab),(19,aa),(18,z),(17,y),(16,x),(15,w),(14,v)]) ?_ ?_
 ·refine qw J J t (fun t=>?_) (fun t=>?_)
  ·refine U J<|O (.ref 0 4 0 0) J<|O (.ref 0 4 0 3) J<|O (q0 l) J<|U J<|O (qd (l == g)) J<|O (qd (l == g)) J<|q8 ?_
   obtain rfl:=qc t
   exact ⟨_,_,_,_,_,_,_,J⟩
  refine qa J<|qa J<|qa J<|qa J<|qa J<|qa J<|O (qd false) J<|q8 ?_
  obtain rfl:=qc t
  exact ⟨_,_,_,_,_,_,_,J⟩
 rintro _ ⟨v,w,x,y,z,aa,ab,rfl⟩
 obtain ⟨an,q,f⟩:=q7 f
 refine qx 8 (fun A st=>∃ (ac ad ae af ag ah ai : V),st = A [(29,qd an),(28,ai),(27,ah),(26,ag),(25,af),(24,ae),(23,ad),(22,ac)]) ?_ ?_
 ·refine qw J J q (fun q=>?_) (fun q=>?_)
  ·refine U J<|O (.ref 0 4 0 0) J<|O (.ref 0 4 0 1) J<|O (.d (.sl 4 (m.map qk))) J<|U J ?_
   obtain ⟨aj,ao,q⟩:=q7 q
   refine qs (qkz m h aj ao) J<|O (qd aj) J<|q8 ?_
   obtain rfl:=qc q
   exact ⟨_,_,_,_,_,_,_,J⟩
  refine qa J<|qa J<|qa J<|qa J<|qa J<|qa J<|O (qd false) J<|q8 ?_
  obtain rfl:=qc q
  exact ⟨_,_,_,_,_,_,_,J⟩
 rintro _ ⟨ac,ad,ae,af,ag,ah,ai,rfl⟩
 refine q8 ?_
 refine ql J f (fun _ f=>?_) (fun _ f=>?_)
 ·refine qe<|qb<|U J<|O (.ref 0 4 0 0) J<|O (.ref 0 4 0 2) J<|O (q0 p) J<|q9 J<|q8 ?_
  obtain ⟨ak,ap,f⟩:=q7 f
  refine Qb (fun s=>s = ak) (fun (s : List qf)=>⟨[(0,.ref 0 4 0 0),(2,q0 b)],[(0,.cel 4 [[.hs 1 6 0 s.length,.d (.sl 4 (m.map qk)),q0 p,q0 l]]),(1,.dat 6 (s.map qp))],2⟩) (by simp) ?_ ?_
  ·refine Q7 (q6r b) (fun (j : Int × List qf)=>⟨[(0,.ref 0 4 0 0),(2,q0 b),(8,q0 j.1)],[(0,.cel 4 [[.hs 1 6 0 j.2.length,.d (.sl 4 (m.map qk)),q0 p,q0 l]]),(1,.dat 6 (j.2.map qp))],2⟩) (p,c) ak ap (wkA [] [] []) ?_
   intro j ax n
   unfold q6r at n
   refine qe<|qb<|U J<|U J<|O (.ref 0 4 0 0) J<|O (.ref 0 4 0 0) J<|O (.hs 1 6 0 j.2.length) J<|O (q0 (j.2.length : Int)) J<|O (.d (.bool (decide (j.1 < (j.2.length : Int))))) J<|q8 ?_
   refine ql J n (fun _ n=>?_) (fun _ n=>?_)
   ·refine qj<|qe<|qu<|qt<|U J<|O (.ref 0 4 0 0) J<|O (.ref 0 4 0 0) J<|O (.hs 1 6 0 j.2.length) J<|U J<|U J ?_
    obtain ⟨u,al,n⟩:=q7 n
    refine qq al J J<|O (.ref 1 6 j.1.toNat 3) J<|O (.ref 1 6 j.1.toNat 5) J<|Qn (ds:=[G b]) ({Lo:=u.Lo,Hi:=({X:=u.Hi.X,Y:=u.Hi.Y,Z:=b} : qy)} : qf) al J J J J J J J J (leb J) J<|qr<|Qa<|qt<|U J<|O (.d (G (w64 (j.1 + 1)))) J<|q9 J<|qr ?_
    exact ⟨_,(Option.some.inj n).symm,wkE [] [] [] J ⟨⟨_,J,.ref J (by decide) (ltd J)⟩,⟨_,J,.d (.refl _)⟩,⟨_,J,.d (.refl _)⟩,trivial⟩ ⟨⟨ltd J,.inr ⟨by decide,_,J,Zs (.cons (Qp (by simp) J (by decide) (ltd J)) J (.cons (.d (.refl _)) J (.cons (.d (.refl _)) J (.cons (.d (.refl _)) J .nil))))⟩⟩,⟨ltd J,.inr ⟨by decide,_,J,.dat _ _⟩⟩,trivial⟩⟩
   refine Q2 ?_
   refine ⟨_,(Option.some.inj n).symm,fun hm=>?_⟩
   subst hm
   exact ⟨_,J,wkA [] [] []⟩
  intro s hb
  subst hb
  refine qb<|U J<|U J<|O (.ref 0 4 0 0) J<|O (.ref 0 4 0 3) J<|Q6 0 (.cel 4 [[.hs 1 6 0 s.length,.d (.sl 4 (m.map qk)),q0 p,q0 b]]) J<|qn ?_
  obtain rfl:=qc f
  exact ⟨.inr J,_,J,wkA [(2,1)] [] []⟩
 refine qj<|qb<|U J<|U J<|U J<|U J<|O (.ref 0 4 0 0) J<|O (.ref 0 4 0 0) J<|O (.hs 1 6 0 c.length) J<|O (q0 (c.length : Int)) J<|U J<|U J<|O (.ref 0 4 0 0) J<|O (.ref 0 4 0 2) J<|Q6 0 (.cel 4 [[.hs 1 6 0 c.length,.d (.sl 4 (m.map qk)),q0 (c.length : Int),q0 l]]) J<|O (.ref 0 4 0 0) J<|O (.ref 0 4 0 1) J<|Q6 0 (.cel 4 [[.hs 1 6 0 c.length,.d (.sl 4 (h.map qk)),q0 (c.length : Int),q0 l]]) J<|O (.ref 0 4 0 0) J<|O (.ref 0 4 0 3) J<|Q6 0 (.cel 4 [[.hs 1 6 0 c.length,.d (.sl 4 (h.map qk)),q0 (c.length : Int),q0 b]]) J<|qm<|U J<|Qc J<|U J<|q8 ?_
 obtain ⟨aq,ar,f⟩:=q7 f
 refine qu<|Q7 (q6s h g b c) (fun (o : Int × List qf)=>⟨[(0,.ref 0 4 0 0),(1,q0 g),(2,q0 b),(72,.d (.sl 4 (h.map qk))),(73,q0 (h.length : Int)),(74,q0 o.1)],[(0,.cel 4 [[.hs 2 6 0 o.2.length,.d (.sl 4 (h.map qk)),q0 (c.length : Int),q0 b]]),(2,.dat 6 (o.2.map qp))],3⟩) (0,c) aq ar (wkA [(2,1)] [] []) ?_
 intro o ay k
 unfold q6s at k
 refine qb<|O (.d (.bool (decide (o.1 < (h.length : Int))))) J<|q8<|qe ?_
 refine ql J k (fun _ k=>?_) (fun _ k=>?_)
 ·refine qj<|qe<|qu<|qb ?_
  obtain ⟨a,au,k⟩:=q7 k
  refine Q4 (enc:=qk) au J<|O (.d (.agg [G a.X0,G a.Y0,G a.X1,G a.Y1])) J<|Qo J J<|Q6 3 (.dat 4 [[G a.X0,G a.Y0,G a.X1,G a.Y1]]) J<|q8<|Q5 [Qe 0,q6,q6,(some [2,4],[2,5]),(some [],[4]),q6,q6,q6,qo 3,q6,qo 3,q6,q6,q6,qo 3,q6,qo 3,q6,qo 0,q6,q6,q6,q6] (by kernel_rfl)<|U J<|U J<|O (.ref 0 4 0 0) J<|O (.ref 0 4 0 0) J<|O (.hs 2 6 0 o.2.length) J<|O (.ref 3 4 0 0) J<|O (q0 a.X0) J<|O (.ref 3 4 0 1) J<|O (q0 a.Y0) J<|U J<|O (.d (.agg [G a.X0,G a.Y0,G g])) J<|O (.ref 3 4 0 2) J<|O (q0 a.X1) J<|O (.ref 3 4 0 3) J<|O (q0 a.Y1) J<|U J<|O (.d (.agg [G a.X1,G a.Y1,G b])) J<|O (.d (.agg [G a.X0,G a.Y0,G g,G a.X1,G a.Y1,G b])) J<|Qg (.hs 4 6 0 [({Lo:=({X:=a.X0,Y:=a.Y0,Z:=g} : qy),Hi:=({X:=a.X1,Y:=a.Y1,Z:=b} : qy)} : qf)].length) (.dat 6 ([({Lo:=({X:=a.X0,Y:=a.Y0,Z:=g} : qy),Hi:=({X:=a.X1,Y:=a.Y1,Z:=b} : qy)} : qf)].map qp)) J ?_
  obtain ⟨av,aw,k⟩:=q7 k
  refine Ka (xs:=o.2) (ys:=[({Lo:=({X:=a.X0,Y:=a.Y0,Z:=g} : qy),Hi:=({X:=a.X1,Y:=a.Y1,Z:=b} : qy)} : qf)]) (enc:=qp) (.hs 4 6 0 [({Lo:=({X:=a.X0,Y:=a.Y0,Z:=g} : qy),Hi:=({X:=a.X1,Y:=a.Y1,Z:=b} : qy)} : qf)].length) aw J J J J J J J (K9 J J) J J J J<|O (.ref 0 4 0 0) J<|O (.ref 0 4 0 0) J<|Q6 0 (.cel 4 [[.hs 5 6 0 av.length,.d (.sl 4 (h.map qk)),q0 (c.length : Int),q0 b]]) J<|qr<|Qa<|qt<|O (.d (G (w64 (o.1 + 1)))) J<|U J<|qr ?_
  exact ⟨_,(Option.some.inj k).symm,wkA [(2,5)] [] []⟩
 refine Q2 ?_
 refine ⟨_,(Option.some.inj k).symm,fun hm=>?_⟩
 subst hm
 obtain rfl:=qc f
 exact ⟨.inl J,_,J,wkA [(2,2)] [] []⟩
theorem qli (c : List qf) (r : List qf × Int) (o : q6w c = some r) : Pure Tryz.prog tab 53 [.agg [.nilf],.sl 1 ([c].map Ql)] (.tup [.sl 6 (r.1.map qp),G r.2]):=by
 unfold q6w at o
 refine Q8 Tryz.func53 J (by kernel_rfl) (by kernel_rfl) J<|qb<|Qg (.ref 0 1 0 0) (.dat 1 [[.nilf]]) J<|Qo J J<|Qo J J<|qm<|Qo J J<|q8<|qe<|qb<|U J ?_
 obtain ⟨ar,m,o⟩:=q7 o
 refine q4z [.d (.sl 1 ([c].map Ql))] (fun h=>h = ar) (fun (h : List Int)=>⟨[(2,.ref 0 1 0 0),(4,.ref 1 1 0 0),(5,.ref 2 1 0 0),(6,.ref 3 4 0 0),(14,.fn 112 [.ref 4 1 0 0,.ref 5 1 0 0])],[(0,.dat 1 [[.nilf]]),(1,.dat 1 [[.nilsl]]),(2,.dat 1 [[G 0]]),(3,.dat 4 [[.nilsl,.nilsl,G 0,G 0]]),(4,.cel 1 [[.d (.sl 1 (h.map (eI .i64)))]]),(5,.dat 1 [[.sl 1 ([c].map Ql)]])],6⟩) J J Tryz.func82 J (by kernel_rfl) (by kernel_rfl) J ?_ ?_
 ·refine qb<|Qg (.ref 4 1 0 0) (.dat 1 [[.sl 1 ([c].map Ql)]]) J<|q9 J<|qm<|Qo J J<|q8<|qe<|qb<|O (.d (.sl 1 ([c].map Ql))) J<|q50 1 J J J J J<|U J<|q8<|qu<|Kw<|qb<|O (qd true) J<|q8<|qe<|Yn J<|qj<|qe ?_
  obtain ⟨au,ad,m⟩:=q7 m
  refine Qb (fun n=>n = au) (fun (n : List Int)=>⟨[(1,.ref 4 1 0 0),(3,.ref 5 1 0 0),(8,.d (.sl 1 ([c].map Ql))),(9,q0 1),(10,q0 0)],[(0,.dat 1 [[.nilf]]),(1,.dat 1 [[.nilsl]]),(2,.dat 1 [[G 0]]),(3,.dat 4 [[.nilsl,.nilsl,G 0,G 0]]),(4,.dat 1 [[.sl 1 ([c].map Ql)]]),(5,.cel 1 [[.hs 6 1 0 n.length]]),(6,.dat 1 (n.map (eI .i64)))],7⟩) (by simp) ?_ ?_
  ·refine qb ?_
   obtain ⟨ae,av,ad⟩:=q7 ad
   refine Q4 (enc:=Ql) av J<|O (.d (.sl 6 (ae.map qp))) J<|q9 J<|qm<|U J<|Qc J<|U J<|q8 ?_
   obtain ⟨aw,ax,ad⟩:=q7 ad
   refine qu<|Q7 (q15 ae) (fun (w : Int × List Int)=>⟨[(1,.ref 4 1 0 0),(3,.ref 5 1 0 0),(8,.d (.sl 1 ([c].map Ql))),(9,q0 1),(10,q0 0),(14,.d (.sl 6 (ae.map qp))),(15,q0 (ae.length : Int)),(16,q0 w.1)],[(0,.dat 1 [[.nilf]]),(1,.dat 1 [[.nilsl]]),(2,.dat 1 [[G 0]]),(3,.dat 4 [[.nilsl,.nilsl,G 0,G 0]]),(4,.dat 1 [[.sl 1 ([c].map Ql)]]),(5,.cel 1 [[.hs 6 1 0 w.2.length]]),(6,.dat 1 (w.2.map (eI .i64)))],7⟩) (0,[]) aw ax (wkA [(4,4),(5,5)] [] [6]) ?_
   intro w cb q
   unfold q15 at q
   refine qb<|O (.d (.bool (decide (w.1 < (ae.length : Int))))) J<|q8<|qe ?_
   refine ql J q (fun _ q=>?_) (fun _ q=>?_)
   ·refine qj<|qe<|qu<|qb ?_
    obtain ⟨f,ay,q⟩:=q7 q
    refine Q4 (enc:=qp) ay J<|O (.d (.agg [G f.Lo.X,G f.Lo.Y,G f.Lo.Z,G f.Hi.X,G f.Hi.Y,G f.Hi.Z])) J<|Qo J J<|Q6 7 (.dat 6 [[G f.Lo.X,G f.Lo.Y,G f.Lo.Z,G f.Hi.X,G f.Hi.Y,G f.Hi.Z]]) J<|q8<|qt<|O (.hs 6 1 0 w.2.length) J<|O (.ref 7 6 0 0) J<|O (.ref 7 6 0 2) J<|O (q0 f.Lo.Z) J<|O (.ref 7 6 0 3) J<|O (.ref 7 6 0 5) J<|O (q0 f.Hi.Z) J<|Qg (.hs 8 1 0 [f.Lo.Z,f.Hi.Z].length) (.dat 1 ([f.Lo.Z,f.Hi.Z].map (eI .i64))) J ?_
    obtain ⟨az,ba,q⟩:=q7 q
    refine Ka (xs:=w.2) (ys:=[f.Lo.Z,f.Hi.Z]) (enc:=(eI .i64)) (.hs 8 1 0 [f.Lo.Z,f.Hi.Z].length) ba J J J J J J J (K9 J J) J J J J<|Q6 5 (.cel 1 [[.hs 9 1 0 az.length]]) J<|qr<|Qa<|qt<|O (.d (G (w64 (w.1 + 1)))) J<|U J<|qr ?_
    exact ⟨_,(Option.some.inj q).symm,wkA [(4,4),(5,5),(6,9)] [] []⟩
   refine Q2 ?_
   refine ⟨_,(Option.some.inj q).symm,fun hm=>?_⟩
   subst hm
   obtain rfl:=qc ad
   exact ⟨_,J,wkA [(4,4),(5,5),(6,6)] [] []⟩
  intro n hb
  subst hb
  refine qt<|O (q0 1) J<|U J<|q8<|Kw<|qb<|O (qd false) J<|q8<|qe<|Ym J<|Q2<|J0<|qb<|O (.hs 6 1 0 n.length) J ?_
  obtain ⟨aj,bb,m⟩:=q7 m
  obtain ⟨cc,bc,m⟩:=q7 m
  have bd:=Qy bc
  refine Qr [(0,6)] [(0,1),(1,1),(2,1),(3,1),(4,1),(5,1),(6,0)] [.hs 6 1 0 n.length] (.d (.tup [])) 1 [(6,.dat 1 (aj.map (eI .i64))),(0,.dat 1 [[.nilf]]),(1,.dat 1 [[.nilsl]]),(2,.dat 1 [[G 0]]),(3,.dat 4 [[.nilsl,.nilsl,G 0,G 0]]),(4,.dat 1 [[.sl 1 ([c].map Ql)]]),(5,.cel 1 [[.hs 6 1 0 n.length]])] 7 (qbo n aj bb)<|qm<|O (.hs 6 1 0 n.length) J ?_
  obtain ⟨aa,be,m⟩:=q7 m
  obtain ⟨cd,bf,m⟩:=q7 m
  have ce:=Qy bf
  obtain ⟨cf,bg,m⟩:=q7 m
  have bh:=qca bg
  refine J7 [(0,6)] [(0,1),(1,1),(2,1),(3,1),(4,1),(5,1),(6,0)] [.hs 6 1 0 n.length] (.hs 6 1 aa.1.1 aa.1.2) [(6,.dat 1 (aa.2.map (eI .i64)))] [(6,.dat 1 (aa.2.map (eI .i64))),(0,.dat 1 [[.nilf]]),(1,.dat 1 [[.nilsl]]),(2,.dat 1 [[G 0]]),(3,.dat 4 [[.nilsl,.nilsl,G 0,G 0]]),(4,.dat 1 [[.sl 1 ([c].map Ql)]]),(5,.cel 1 [[.hs 6 1 0 n.length]])] 7 (qbh aj aa be) J J J (Ko [(0,6)] [] [] J ⟨⟨_,J,Qp (by simp [bd]) J (by decide) (ltd J)⟩,trivial⟩ ⟨⟨ltd J,.inr ⟨by decide,_,J,.dat _ _⟩⟩,trivial⟩) (Ko [(0,1),(1,1),(2,1),(3,1),(4,1),(5,1),(6,0)] [] [] J ⟨⟨_,J,.hs J (by decide) (ltd J)⟩,trivial⟩ ⟨⟨ltd J,.inr ⟨by decide,_,J,.dat _ _⟩⟩,trivial⟩) J ⟨.inl J,.inr ⟨J,J⟩,.inr ⟨J,J⟩,.inr ⟨J,J⟩,.inr ⟨J,J⟩,.inr ⟨J,J⟩,.inr ⟨J,J⟩,trivial⟩<|Q6 5 (.cel 1 [[.hs 6 1 aa.1.1 aa.1.2]]) J<|qm<|O (.fn 112 [.ref 5 1 0 0,.ref 4 1 0 0]) J<|q9 J<|qn ?_
  refine ⟨.inr J,_,J,?_⟩
  obtain rfl:=qc m
  exact ⟨_,J,wkE [(0,0),(1,1),(2,2),(3,3),(4,5),(5,4)] [6] [] J ⟨⟨_,J,.ref J (by decide) (ltd J)⟩,⟨_,J,.ref J (by decide) (ltd J)⟩,⟨_,J,.ref J (by decide) (ltd J)⟩,⟨_,J,.ref J (by decide) (ltd J)⟩,⟨_,J,(q1d (.cons (.ref J (by decide) (ltd J)) (.cons (.ref J (by decide) (ltd J)) .nil)))⟩,trivial⟩ ⟨⟨ltd J,.inr ⟨by decide,_,J,.dat _ _⟩⟩,⟨ltd J,.inr ⟨by decide,_,J,.dat _ _⟩⟩,⟨ltd J,.inr ⟨by decide,_,J,.dat _ _⟩⟩,⟨ltd J,.inr ⟨by decide,_,J,.dat _ _⟩⟩,⟨ltd J,.inr ⟨by decide,_,J,Zs (.cons (qcc bh J (by decide)) J .nil)⟩⟩,⟨ltd J,.inr ⟨by decide,_,J,.dat _ _⟩⟩,trivial⟩⟩
 intro h hb
 subst hb
 refine q8<|qu ?_
 obtain ⟨bi,ai,o⟩:=q7 o
 refine q85 (fun k=>.inl k = bi) (fun (k : List qg × Int × Int × List qf)=>⟨[(4,.ref 0 1 0 0),(5,.ref 1 1 0 0),(6,.ref 2 4 0 0)],[(0,.dat 1 [[.nilsl]]),(1,.dat 1 [[G 0]]),(2,.cel 4 [[.hs 3 6 0 k.2.2.2.length,.d (.sl 4 (k.1.map qk)),q0 k.2.1,q0 k.2.2.1]]),(3,.dat 6 (k.2.2.2.map qp))],4⟩) ?_ ?_
 ·refine Kn (st':=⟨[(2,.ref 0 1 0 0),(4,.ref 1 1 0 0),(5,.ref 2 1 0 0),(6,.ref 3 4 0 0),(14,.fn 112 [.ref 4 1 0 0,.ref 5 1 0 0])],[(0,.dat 1 [[.nilf]]),(1,.dat 1 [[.nilsl]]),(2,.dat 1 [[G 0]]),(3,.dat 4 [[.nilsl,.nilsl,G 0,G 0]]),(4,.cel 1 [[.d (.sl 1 (h.map (eI .i64)))]]),(5,.dat 1 [[.sl 1 ([c].map Ql)]])],6⟩) (wkA [(0,0),(1,1),(2,2),(3,3),(4,4),(5,5)] [] []) ?_ (by simp)
  refine q86 [.ref 4 1 0 0,.ref 5 1 0 0] (.inl J) Tryz.func112 J (by kernel_rfl) (by kernel_rfl) J ?_
  intro A879 B880 hA879 hB880
  refine qb<|q9 J<|q8 ?_
  obtain ⟨bj,bk,ai⟩:=q7 ai
  refine qu<|Q7 (q40 h c) (fun (b : Int × List qg × Int × Int × List qf)=>⟨[(0,.yld 6),(1,.ref 4 1 0 0),(2,.ref 5 1 0 0),(4,q0 b.1)],[(0,.dat 1 [[.nilf]]),(1,.dat 1 [[.nilsl]]),(2,.dat 1 [[G 0]]),(3,.cel 4 [[.hs 7 6 0 b.2.2.2.2.length,.d (.sl 4 (b.2.1.map qk)),q0 b.2.2.1,q0 b.2.2.2.1]]),(4,.cel 1 [[.d (.sl 1 (h.map (eI .i64)))]]),(5,.dat 1 [[.sl 1 ([c].map Ql)]]),(6,.loop [(2,.ref 0 1 0 0),(4,.ref 1 1 0 0),(5,.ref 2 1 0 0),(6,.ref 3 4 0 0),(14,.fn 112 [.ref 4 1 0 0,.ref 5 1 0 0])] [15] A879 B880 .ready none),(7,.dat 6 (b.2.2.2.2.map qp))],8⟩) (1,[],0,0,[]) bj bk (wkA [] [] [7]) ?_
  intro b cg j
  unfold q40 at j
  refine qe<|qb<|U J<|O (.d (.sl 1 (h.map (eI .i64)))) J<|Qc J<|O (.d (.bool (decide (b.1 < (h.length : Int))))) J<|q8 ?_
  refine ql J j (fun _ j=>?_) (fun _ j=>?_)
  ·refine qj<|qe<|qu<|qe<|Q5 [Qe 9,(some [],[9]),q6,(some [],[8]),q6,qo 5,q6,q6,q6,qo 4,q6,q6,q6,q6,qo 4] (by kernel_rfl)<|O (.d (.sl 1 (h.map (eI .i64)))) J<|U J<|O (.d (G (w64 (b.1 - 1)))) J ?_
   obtain ⟨g,bl,j⟩:=q7 j
   refine Q4 (enc:=(eI .i64)) bl J<|O (q0 g) J<|O (.d (.sl 1 (h.map (eI .i64)))) J<|U J ?_
   obtain ⟨l,bm,j⟩:=q7 j
   refine Q4 (enc:=(eI .i64)) bm J<|O (q0 l) J<|O (.d (.sl 1 ([c].map Ql))) J<|q50 1 J J J J J<|Qg (.hs 8 1 0 1) (.dat 1 [[.nilsl]]) J<|O (.agg [q0 g,q0 l,.hs 8 1 0 1]) J<|Qo J J<|Q6 9 (.cel 3 [[q0 g,q0 l,.hs 8 1 0 1]]) J<|q8<|qe<|qb<|O (.d (.sl 1 ([c].map Ql))) J<|q50 1 J J J J J<|U J<|q8<|qu<|Kw<|qb<|O (qd true) J<|q8<|qe<|Yn J<|qj<|qe ?_
   obtain ⟨bn,af,j⟩:=q7 j
   refine Qb (fun s=>s = bn) (fun (s : List qg)=>⟨[(0,.yld 6),(1,.ref 4 1 0 0),(2,.ref 5 1 0 0),(4,q0 b.1),(5,.ref 7 3 0 0),(29,.d (.sl 1 ([c].map Ql))),(30,q0 1),(31,q0 0)],[(0,.dat 1 [[.nilf]]),(1,.dat 1 [[.nilsl]]),(2,.dat 1 [[G 0]]),(3,.cel 4 [[.hs 8 6 0 b.2.2.2.2.length,.d (.sl 4 (b.2.1.map qk)),q0 b.2.2.1,q0 b.2.2.2.1]]),(4,.cel 1 [[.d (.sl 1 (h.map (eI .i64)))]]),(5,.dat 1 [[.sl 1 ([c].map Ql)]]),(6,.loop [(2,.ref 0 1 0 0),(4,.ref 1 1 0 0),(5,.ref 2 1 0 0),(6,.ref 3 4 0 0),(14,.fn 112 [.ref 4 1 0 0,.ref 5 1 0 0])] [15] A879 B880 .ready none),(7,.cel 3 [[q0 g,q0 l,.hs 9 1 0 1]]),(8,.dat 6 (b.2.2.2.2.map qp)),(9,.cel 1 [[.hs 10 4 0 s.length]]),(10,.dat 4 (s.map qk))],11⟩) (by simp) ?_ ?_
   ·refine qb<|U J ?_
    obtain ⟨ab,bo,af⟩:=q7 af
    refine Q4 (enc:=Ql) bo J<|O (.d (.sl 6 (ab.map qp))) J<|q9 J<|q9 J<|qm<|U J<|Qc J<|U J<|q8 ?_
    obtain ⟨bp,bq,af⟩:=q7 af
    refine qu<|Q7 (q16 ab g) (fun (t : Int × List qg)=>⟨[(0,.yld 6),(1,.ref 4 1 0 0),(2,.ref 5 1 0 0),(4,q0 b.1),(5,.ref 7 3 0 0),(6,q0 0),(29,.d (.sl 1 ([c].map Ql))),(30,q0 1),(31,q0 0),(36,.d (.sl 6 (ab.map qp))),(37,q0 (ab.length : Int)),(38,q0 t.1)],[(0,.dat 1 [[.nilf]]),(1,.dat 1 [[.nilsl]]),(2,.dat 1 [[G 0]]),(3,.cel 4 [[.hs 8 6 0 b.2.2.2.2.length,.d (.sl 4 (b.2.1.map qk)),q0 b.2.2.1,q0 b.2.2.2.1]]),(4,.cel 1 [[.d (.sl 1 (h.map (eI .i64)))]]),(5,.dat 1 [[.sl 1 ([c].map Ql)]]),(6,.loop [(2,.ref 0 1 0 0),(4,.ref 1 1 0 0),(5,.ref 2 1 0 0),(6,.ref 3 4 0 0),(14,.fn 112 [.ref 4 1 0 0,.ref 5 1 0 0])] [15] A879 B880 .ready none),(7,.cel 3 [[q0 g,q0 l,.hs 9 1 0 1]]),(8,.dat 6 (b.2.2.2.2.map qp)),(9,.cel 1 [[.hs 10 4 0 t.2.length]]),(10,.dat 4 (t.2.map qk))],11⟩) (0,[]) bp bq (wkA [(7,9),(8,7),(9,8)] [] [10]) ?_
    intro t ch x
    unfold q16 at x
    refine qb<|O (.d (.bool (decide (t.1 < (ab.length : Int))))) J<|q8<|qe ?_
    refine ql J x (fun _ x=>?_) (fun _ x=>?_)
    ·refine qj<|qe ?_
     obtain ⟨br,p,x⟩:=q7 x
     refine Qb (fun ag=>ag = br) (fun (ag : List qg)=>⟨[(0,.yld 6),(1,.ref 4 1 0 0),(2,.ref 5 1 0 0),(4,q0 b.1),(5,.ref 7 3 0 0),(6,q0 0),(29,.d (.sl 1 ([c].map Ql))),(30,q0 1),(31,q0 0),(36,.d (.sl 6 (ab.map qp))),(37,q0 (ab.length : Int)),(38,q0 t.1)],[(0,.dat 1 [[.nilf]]),(1,.dat 1 [[.nilsl]]),(2,.dat 1 [[G 0]]),(3,.cel 4 [[.hs 8 6 0 b.2.2.2.2.length,.d (.sl 4 (b.2.1.map qk)),q0 b.2.2.1,q0 b.2.2.2.1]]),(4,.cel 1 [[.d (.sl 1 (h.map (eI .i64)))]]),(5,.dat 1 [[.sl 1 ([c].map Ql)]]),(6,.loop [(2,.ref 0 1 0 0),(4,.ref 1 1 0 0),(5,.ref 2 1 0 0),(6,.ref 3 4 0 0),(14,.fn 112 [.ref 4 1 0 0,.ref 5 1 0 0])] [15] A879 B880 .ready none),(7,.cel 3 [[q0 g,q0 l,.hs 9 1 0 1]]),(8,.dat 6 (b.2.2.2.2.map qp)),(9,.cel 1 [[.hs 10 4 0 ag.length]]),(10,.dat 4 (ag.map qk))],11⟩) (by simp) ?_ ?_
     ·refine qb ?_
      obtain ⟨a,bs,p⟩:=q7 p
      refine Q4 (enc:=qp) bs J<|O (.d (.agg [G a.Lo.X,G a.Lo.Y,G a.Lo.Z,G a.Hi.X,G a.Hi.Y,G a.Hi.Z])) J<|Qo J J<|Q6 11 (.dat 6 [[G a.Lo.X,G a.Lo.Y,G a.Lo.Z,G a.Hi.X,G a.Hi.Y,G a.Hi.Z]]) J<|qm<|O (.ref 11 6 0 0) J<|O (.ref 11 6 0 2) J<|O (q0 a.Lo.Z) J<|O (.ref 7 3 0 0) J<|O (q0 g) J<|O (.d (.bool (decide (a.Lo.Z≤g)))) J ?_
      obtain ⟨bt,ah,p⟩:=q7 p
      refine qx 8 (fun A st=>∃ (ak al am an ao ap aq : V),st = A [(55,qd bt),(54,aq),(53,ap),(52,ao),(51,an),(50,am),(49,al),(48,ak)]) ?_ ?_
      ·refine qw J J ah (fun ah=>?_) (fun ah=>?_)
       ·refine O (.ref 7 3 0 0) J<|O (q0 g) J<|O (.ref 11 6 0 3) J<|O (.ref 11 6 0 5) J<|O (q0 a.Hi.Z) J<|O (.d (.bool (decide (g < a.Hi.Z)))) J<|O (.d (.bool (decide (g < a.Hi.Z)))) J<|q8 ?_
        obtain rfl:=qc ah
        exact ⟨_,_,_,_,_,_,_,J⟩
       refine qa J<|qa J<|qa J<|qa J<|qa J<|qa J<|O (qd false) J<|q8 ?_
       obtain rfl:=qc ah
       exact ⟨_,_,_,_,_,_,_,J⟩
      rintro _ ⟨ak,al,am,an,ao,ap,aq,rfl⟩
      refine q8 ?_
      refine ql J p (fun _ p=>?_) (fun _ p=>?_)
      ·refine Q5 [Qe 9,q6,(some [10,12],[10,13]),(some [],[12]),q6,qo 11,q6,q6,qo 11,q6,q6,qo 11,q6,q6,qo 11,q6,q6,qo 9,q6,q6,qo 7,q6,q6,qo 7,q6] (by kernel_rfl)<|O (.ref 7 3 0 2) J<|O (.hs 9 1 0 1) J<|U J<|O (.ref 7 3 0 2) J<|O (.hs 9 1 0 1) J<|U J<|O (.ref 9 1 0 0) J<|O (.hs 10 4 0 t.2.length) J<|O (.ref 11 6 0 0) J<|O (.ref 11 6 0 0) J<|O (q0 a.Lo.X) J<|O (.ref 11 6 0 0) J<|O (.ref 11 6 0 1) J<|O (q0 a.Lo.Y) J<|O (.ref 11 6 0 3) J<|O (.ref 11 6 0 3) J<|O (q0 a.Hi.X) J<|O (.ref 11 6 0 3) J<|O (.ref 11 6 0 4) J<|O (q0 a.Hi.Y) J<|O (.d (.agg [G a.Lo.X,G a.Lo.Y,G a.Hi.X,G a.Hi.Y])) J<|Qg (.hs 12 4 0 [({X0:=a.Lo.X,Y0:=a.Lo.Y,X1:=a.Hi.X,Y1:=a.Hi.Y} : qg)].length) (.dat 4 ([({X0:=a.Lo.X,Y0:=a.Lo.Y,X1:=a.Hi.X,Y1:=a.Hi.Y} : qg)].map qk)) J ?_
       obtain ⟨bu,bv,p⟩:=q7 p
       refine Ka (xs:=t.2) (ys:=[({X0:=a.Lo.X,Y0:=a.Lo.Y,X1:=a.Hi.X,Y1:=a.Hi.Y} : qg)]) (enc:=qk) (.hs 12 4 0 [({X0:=a.Lo.X,Y0:=a.Lo.Y,X1:=a.Hi.X,Y1:=a.Hi.Y} : qg)].length) bv J J J J J J J (K9 J J) J J J J<|O (.ref 9 1 0 0) J<|Q6 9 (.cel 1 [[.hs 13 4 0 bu.length]]) J<|qr ?_
       obtain rfl:=qc p
       exact ⟨_,J,wkA [(7,7),(8,8),(9,9),(10,13)] [] []⟩
      refine qj<|Q9 ?_
      obtain rfl:=qc p
      exact ⟨_,J,wkA [(7,7),(8,8),(9,9),(10,10)] [] []⟩
     intro ag hb
     subst hb
     refine qt<|O (.d (G (w64 (t.1 + 1)))) J<|U J<|qr ?_
     exact ⟨_,(Option.some.inj x).symm,wkA [(7,7),(8,8),(9,9),(10,10)] [] []⟩
    refine Q2 ?_
    refine ⟨_,(Option.some.inj x).symm,fun hm=>?_⟩
    subst hm
    obtain rfl:=qc af
    exact ⟨_,J,wkA [(7,7),(8,8),(9,9),(10,10)] [] []⟩
   intro s hb
   subst hb
   refine qt<|O (q0 1) J<|U J<|q8<|Kw<|qb<|O (qd false) J<|q8<|qe<|Ym J<|Q2<|J0<|qe ?_
   refine Kn (st':=⟨[(0,.yld 6),(1,.ref 4 1 0 0),(2,.ref 5 1 0 0),(4,q0 b.1),(5,.ref 7 3 0 0)],[(0,.dat 1 [[.nilf]]),(1,.dat 1 [[.nilsl]]),(2,.dat 1 [[G 0]]),(3,.cel 4 [[.hs 8 6 0 b.2.2.2.2.length,.d (.sl 4 (b.2.1.map qk)),q0 b.2.2.1,q0 b.2.2.2.1]]),(4,.cel 1 [[.d (.sl 1 (h.map (eI .i64)))]]),(5,.dat 1 [[.sl 1 ([c].map Ql)]]),(6,.loop [(2,.ref 0 1 0 0),(4,.ref 1 1 0 0),(5,.ref 2 1 0 0),(6,.ref 3 4 0 0),(14,.fn 112 [.ref 4 1 0 0,.ref 5 1 0 0])] [15] A879 B880 .ready none),(7,.cel 3 [[q0 g,q0 l,.hs 9 1 0 1]]),(8,.dat 6 (b.2.2.2.2.map qp)),(9,.cel 1 [[.d (.sl 4 (s.map qk))]])],10⟩) (wkA [(7,7),(8,8),(9,9)] [10] []) ?_ (by simp)
   refine qt<|U J<|O (.agg [q0 g,q0 l,.hs 9 1 0 1]) J ?_
   obtain ⟨bw,u,j⟩:=q7 j
   refine q7u (fun y=>.inl y = bw) (fun (y : List qg × Int × Int × List qf)=>⟨[(0,.yld 6),(1,.ref 4 1 0 0),(2,.ref 5 1 0 0),(4,q0 b.1),(84,qd true)],[(0,.dat 1 [[.nilf]]),(1,.dat 1 [[.nilsl]]),(2,.dat 1 [[G 0]]),(3,.cel 4 [[.hs 7 6 0 y.2.2.2.length,.d (.sl 4 (y.1.map qk)),q0 y.2.1,q0 y.2.2.1]]),(4,.cel 1 [[.d (.sl 1 (h.map (eI .i64)))]]),(5,.dat 1 [[.sl 1 ([c].map Ql)]]),(6,.loop [(2,.ref 0 1 0 0),(4,.ref 1 1 0 0),(5,.ref 2 1 0 0),(6,.ref 3 4 0 0),(14,.fn 112 [.ref 4 1 0 0,.ref 5 1 0 0])] [15] A879 B880 .ready none),(7,.dat 6 (y.2.2.2.map qp))],8⟩) hA879 hB880 J J J J J J ?_ ?_
   ·refine qt<|Qo J J<|Q6 10 (.cel 3 [[q0 g,q0 l,.hs 9 1 0 1]]) J<|qr ?_
    refine ⟨J,_,J,?_⟩
    refine qu<|qb<|O (.ref 10 3 0 2) J<|O (.hs 9 1 0 1) J<|O (.ref 9 1 0 0) J<|O (.d (.sl 4 (s.map qk))) J ?_
    obtain ⟨z,bz,u⟩:=q7 u
    refine qs (qel s z bz) J<|U J<|O (.d (.sl 4 (z.1.map qk))) J<|O (q0 z.2) J<|q9 J<|q9 J<|q8<|qe<|qb<|O (.ref 10 3 0 2) J<|O (.hs 9 1 0 1) J<|O (.hs 9 1 1 0) J<|O (q0 0) J<|U J<|q8<|qu<|Kw<|qb<|O (qd false) J<|q8<|qe<|Ym J<|Q2<|J0<|qe<|qb<|U J<|O (qd (z.2 != 0)) J<|q8 ?_
    refine ql J u (fun _ u=>?_) (fun _ u=>?_)
    ·refine qb<|U J<|Q6 1 (.dat 1 [[.nilsl]]) J<|Q6 2 (.dat 1 [[G z.2]]) J<|qn ?_
     obtain rfl:=qc u
     refine ⟨_,J,?_⟩
     refine O (qd true) J<|q8<|Yn J<|Uz ?_
     refine ⟨_,(Option.some.inj j).symm,fun hm=>?_⟩
     subst hm
     refine ⟨.inr J,_,J,_,_,.ret,J,by decide,?_⟩
     refine qck ?_
     obtain rfl:=qc ai
     obtain rfl:=qc o
     exact finD (.inr J) (v:=.d (.tup [.nilsl,G z.2])) J J (Kr (.cons (.nil _) (.cons (.refl _) .nil)))
    refine qj<|qt<|O (.ref 10 3 0 0) J<|O (q0 g) J<|O (.ref 10 3 0 1) J<|O (q0 l) J<|U J ?_
    obtain ⟨ac,ca,u⟩:=q7 u
    refine Qr [(0,3),(1,8)] [(0,3),(1,3),(2,3),(3,0),(4,3),(5,3),(6,3),(7,3),(8,1),(9,3),(10,3),(11,2)] [.ref 3 4 0 0,q0 g,q0 l,.d (.sl 4 (z.1.map qk))] (.d (.tup [])) 2 [(3,.cel 4 [[.hs 11 6 0 ac.2.2.2.length,.d (.sl 4 (ac.1.map qk)),q0 ac.2.1,q0 ac.2.2.1]]),(11,.dat 6 (ac.2.2.2.map qp)),(0,.dat 1 [[.nilf]]),(1,.dat 1 [[.nilsl]]),(2,.dat 1 [[G 0]]),(4,.cel 1 [[.d (.sl 1 (h.map (eI .i64)))]]),(5,.dat 1 [[.sl 1 ([c].map Ql)]]),(6,.loop [(2,.ref 0 1 0 0),(4,.ref 1 1 0 0),(5,.ref 2 1 0 0),(6,.ref 3 4 0 0),(14,.fn 112 [.ref 4 1 0 0,.ref 5 1 0 0])] [15] A879 B880 .busy none),(7,.cel 3 [[q0 g,q0 l,.hs 9 1 0 1]]),(9,.cel 1 [[.d (.sl 4 (s.map qk))]]),(10,.cel 3 [[q0 g,q0 l,.hs 9 1 0 1]])] 12 (qld b.2.2.2.2 b.2.1 b.2.2.1 b.2.2.2.1 g l z.1 ac ca)<|qr<|Qa<|Q9 ?_
    refine ⟨_,J,?_⟩
    obtain rfl:=qc u
    exact ⟨_,J,wkA [(7,11)] [] []⟩
   intro y hb
   subst hb
   refine O (qd false) J<|q8<|Ym J<|qj<|Q9<|Qa<|qt<|U J<|O (.d (G (w64 (b.1 + 1)))) J<|q9 J<|qr ?_
   exact ⟨_,(Option.some.inj j).symm,wkA [(7,7)] [] []⟩
  refine Q2 ?_
  refine ⟨_,(Option.some.inj j).symm,fun hm=>?_⟩
  subst hm
  refine ⟨.inl J,_,J,_,_,.nor,J,by decide,?_⟩
  refine q73<|Q9 ?_
  obtain rfl:=qc ai
  exact ⟨_,J,wkA [(0,1),(1,2),(2,3),(3,7)] [] []⟩
 intro k st hb hw
 subst hb
 refine Kn hw ?_ (by simp)
 refine qe<|qb<|O (.ref 2 4 0 0) J<|O (.hs 3 6 0 k.2.2.2.length) J<|O (q0 (k.2.2.2.length : Int)) J<|O (.d (.bool (decide ((k.2.2.2.length : Int) > 400)))) J<|q8 ?_
 refine ql J o (fun _ o=>?_) (fun _ o=>?_)
 ·refine qb<|Q6 0 (.dat 1 [[.nilsl]]) J<|Q6 1 (.dat 1 [[G 4]]) J<|qn ?_
  obtain rfl:=qc o
  exact finD (.inr J) (v:=.d (.tup [.nilsl,G 4])) J J (Kr (.cons (.nil _) (.cons (.refl _) .nil)))
 refine qj<|qb<|O (.ref 2 4 0 0) J<|O (.hs 3 6 0 k.2.2.2.length) J<|Q6 0 (.cel 1 [[.hs 3 6 0 k.2.2.2.length]]) J<|Q6 1 (.dat 1 [[G 0]]) J<|qn ?_
 obtain rfl:=qc o
 exact finD (.inr J) (v:=.tup [.hs 3 6 0 k.2.2.2.length,q0 0]) J (q9o (Jq (Z9 J J) (Jq J J))) (.refl _)
theorem qla (b : List qf) (r : List qf × Int) (a : q6o b = some r) : Pure Tryz.prog tab 14 [.sl 6 (b.map qp)] (.tup [.sl 6 (r.1.map qp),G r.2]):=by
 unfold q6o at a
 refine Q8 Tryz.func14 J (by kernel_rfl) (by kernel_rfl) J<|qb<|q9 J<|q9 J<|q8<|qe<|qb<|U J<|Qc J<|O (.d (.bool (decide ((b.length : Int) > 400)))) J<|q8 ?_
 refine ql J a (fun _ a=>?_) (fun _ a=>?_)
 ·refine qb<|q9 J<|q9 J<|qn ?_
  obtain rfl:=qc a
  exact finD (.inr J) (v:=.d (.tup [.nilsl,G 4])) J J (Kr (.cons (.nil _) (.cons (.refl _) .nil)))
 refine qj<|qe<|qb<|U J ?_
 obtain ⟨g,h,a⟩:=q7 a
 refine qs (qv0 b (fun f=>q2e f) 51 [] (fun f r hr=>qy1 f r hr) g h) J<|q8 ?_
 refine ql J a (fun _ a=>?_) (fun _ a=>?_)
 ·refine qb<|q9 J<|q9 J<|qn ?_
  obtain rfl:=qc a
  exact finD (.inr J) (v:=.d (.tup [.nilsl,G 8])) J J (Kr (.cons (.nil _) (.cons (.refl _) .nil)))
 refine qj<|qb<|O (.d (.agg [.nilf])) J<|U J<|qav (es:=1) ([b].map Ql) J J J J J ?_
 obtain ⟨c,j,a⟩:=q7 a
 refine qs (qli b c j) J<|O (.d (.sl 6 (c.1.map qp))) J<|O (q0 c.2) J<|q9 J<|q9 J<|qn ?_
 obtain rfl:=qc a
 exact qz (.d (.tup [.sl 6 (c.1.map qp),G c.2])) J
theorem qk2 (a : qy) (c : Int) (r : Bool) (b : q58 a c = some r) : Pure Tryz.prog tab 73 [.agg [G a.X,G a.Y,G a.Z],G c] (.bool r):=by
 unfold q58 at b
 refine Q8 Tryz.func73 J (by kernel_rfl) (by kernel_rfl) J<|qb<|Qg (.ref 0 3 0 0) (.dat 3 [[G a.X,G a.Y,G a.Z]]) J<|q9 J<|qm<|O (.ref 0 3 0 0) J<|O (q0 a.X) J<|U J<|O (.d (.bool (decide (a.X ≥ c)))) J ?_
 obtain ⟨c1,f,b⟩:=q7 b
 refine qx 6 (fun A st=>∃ (l m n o p : V),st = A [(14,qd c1),(13,p),(12,o),(11,n),(10,m),(9,l)]) ?_ ?_
 ·refine qw J J f (fun f=>?_) (fun f=>?_)
  ·refine O (.ref 0 3 0 1) J<|O (q0 a.Y) J<|U J<|O (.d (.bool (decide (a.Y ≥ c)))) J<|O (.d (.bool (decide (a.Y ≥ c)))) J<|q8 ?_
   obtain rfl:=qc f
   exact ⟨_,_,_,_,_,J⟩
  refine qa J<|qa J<|qa J<|qa J<|O (qd false) J<|q8 ?_
  obtain rfl:=qc f
  exact ⟨_,_,_,_,_,J⟩
 rintro _ ⟨l,m,n,o,p,rfl⟩
 obtain ⟨c8,g,b⟩:=q7 b
 refine qx 6 (fun A st=>∃ (q s t u v : V),st = A [(20,qd c8),(19,v),(18,u),(17,t),(16,s),(15,q)]) ?_ ?_
 ·refine qw J J g (fun g=>?_) (fun g=>?_)
  ·refine O (.ref 0 3 0 2) J<|O (q0 a.Z) J<|U J<|O (.d (.bool (decide (a.Z ≥ c)))) J<|O (.d (.bool (decide (a.Z ≥ c)))) J<|q8 ?_
   obtain rfl:=qc g
   exact ⟨_,_,_,_,_,J⟩
  refine qa J<|qa J<|qa J<|qa J<|O (qd false) J<|q8 ?_
  obtain rfl:=qc g
  exact ⟨_,_,_,_,_,J⟩
 rintro _ ⟨q,s,t,u,v,rfl⟩
 obtain ⟨al,h,b⟩:=q7 b
 refine qx 5 (fun A st=>∃ (w x y z : V),st = A [(25,qd al),(24,z),(23,y),(22,x),(21,w)]) ?_ ?_
 ·refine qw J J h (fun h=>?_) (fun h=>?_)
  ·refine O (.ref 0 3 0 0) J<|O (q0 a.X) J<|O (.d (.bool (decide (a.X≤1000000)))) J<|O (.d (.bool (decide (a.X≤1000000)))) J<|q8 ?_
   obtain rfl:=qc h
   exact ⟨_,_,_,_,J⟩
  refine qa J<|qa J<|qa J<|O (qd false) J<|q8 ?_
  obtain rfl:=qc h
  exact ⟨_,_,_,_,J⟩
 rintro _ ⟨w,x,y,z,rfl⟩
 obtain ⟨am,j,b⟩:=q7 b
 refine qx 5 (fun A st=>∃ (aa ab ac ad : V),st = A [(30,qd am),(29,ad),(28,ac),(27,ab),(26,aa)]) ?_ ?_
 ·refine qw J J j (fun j=>?_) (fun j=>?_)
  ·refine O (.ref 0 3 0 1) J<|O (q0 a.Y) J<|O (.d (.bool (decide (a.Y≤1000000)))) J<|O (.d (.bool (decide (a.Y≤1000000)))) J<|q8 ?_
   obtain rfl:=qc j
   exact ⟨_,_,_,_,J⟩
  refine qa J<|qa J<|qa J<|O (qd false) J<|q8 ?_
  obtain rfl:=qc j
  exact ⟨_,_,_,_,J⟩
 rintro _ ⟨aa,ab,ac,ad,rfl⟩
 obtain ⟨ae,k,b⟩:=q7 b
 refine qx 5 (fun A st=>∃ (af ag ah ai : V),st = A [(35,qd ae),(34,ai),(33,ah),(32,ag),(31,af)]) ?_ ?_
 ·refine qw J J k (fun k=>?_) (fun k=>?_)
  ·refine O (.ref 0 3 0 2) J<|O (q0 a.Z) J<|O (.d (.bool (decide (a.Z≤1000000)))) J<|O (.d (.bool (decide (a.Z≤1000000)))) J<|q8 ?_
   obtain rfl:=qc k
   exact ⟨_,_,_,_,J⟩
  refine qa J<|qa J<|qa J<|O (qd false) J<|q8 ?_
  obtain rfl:=qc k
  exact ⟨_,_,_,_,J⟩
 rintro _ ⟨af,ag,ah,ai,rfl⟩
 refine q9 J<|qn ?_
 obtain rfl:=qc b
 exact qz (qd ae) J
theorem qsv (a : qf) (r : Bool) (b : q82 a = some r) : Pure Tryz.prog tab 54 [.agg [G a.Lo.X,G a.Lo.Y,G a.Lo.Z,G a.Hi.X,G a.Hi.Y,G a.Hi.Z]] (.bool r):=by
 unfold q82 at b
 refine Q8 Tryz.func54 J (by kernel_rfl) (by kernel_rfl) J<|qb<|Qg (.ref 0 6 0 0) (.dat 6 [[G a.Lo.X,G a.Lo.Y,G a.Lo.Z,G a.Hi.X,G a.Hi.Y,G a.Hi.Z]]) J<|q9 J<|qm<|O (.ref 0 6 0 0) J<|O (.d (.agg [G a.Lo.X,G a.Lo.Y,G a.Lo.Z])) J ?_
 obtain ⟨r1,h2,b⟩:=q7 b
 refine qs (qk2 a.Lo (-1000000) r1 h2) J ?_
 obtain ⟨c5,c,b⟩:=q7 b
 refine qx 5 (fun A st=>∃ (j k l m : V),st = A [(11,qd c5),(10,m),(9,l),(8,k),(7,j)]) ?_ ?_
 ·refine qw J J c (fun c=>?_) (fun c=>?_)
  ·refine O (.ref 0 6 0 3) J<|O (.d (.agg [G a.Hi.X,G a.Hi.Y,G a.Hi.Z])) J ?_
   obtain ⟨n,ar,c⟩:=q7 c
   refine qs (qk2 a.Hi (-1000000) n ar) J<|O (qd n) J<|q8 ?_
   obtain rfl:=qc c
   exact ⟨_,_,_,_,J⟩
  refine qa J<|qa J<|qa J<|O (qd false) J<|q8 ?_
  obtain rfl:=qc c
  exact ⟨_,_,_,_,J⟩
 rintro _ ⟨j,k,l,m,rfl⟩
 refine q9 J<|qm<|U J ?_
 obtain ⟨au,f,b⟩:=q7 b
 refine qx 9 (fun A st=>∃ (o p q s t u v w : V),st = A [(21,qd au),(20,w),(19,v),(18,u),(17,t),(16,s),(15,q),(14,p),(13,o)]) ?_ ?_
 ·refine qw J J f (fun f=>?_) (fun f=>?_)
  ·refine O (.ref 0 6 0 0) J<|O (.ref 0 6 0 0) J<|O (q0 a.Lo.X) J<|O (.ref 0 6 0 3) J<|O (.ref 0 6 0 3) J<|O (q0 a.Hi.X) J<|O (.d (.bool (decide (a.Lo.X < a.Hi.X)))) J<|O (.d (.bool (decide (a.Lo.X < a.Hi.X)))) J<|q8 ?_
   obtain rfl:=qc f
   exact ⟨_,_,_,_,_,_,_,_,J⟩
  refine qa J<|qa J<|qa J<|qa J<|qa J<|qa J<|qa J<|O (qd false) J<|q8 ?_
  obtain rfl:=qc f
  exact ⟨_,_,_,_,_,_,_,_,J⟩
 rintro _ ⟨o,p,q,s,t,u,v,w,rfl⟩
 obtain ⟨av,g,b⟩:=q7 b
 refine qx 9 (fun A st=>∃ (x y z aa ab ac ad ae : V),st = A [(30,qd av),(29,ae),(28,ad),(27,ac),(26,ab),(25,aa),(24,z),(23,y),(22,x)]) ?_ ?_
 ·refine qw J J g (fun g=>?_) (fun g=>?_)
  ·refine O (.ref 0 6 0 0) J<|O (.ref 0 6 0 1) J<|O (q0 a.Lo.Y) J<|O (.ref 0 6 0 3) J<|O (.ref 0 6 0 4) J<|O (q0 a.Hi.Y) J<|O (.d (.bool (decide (a.Lo.Y < a.Hi.Y)))) J<|O (.d (.bool (decide (a.Lo.Y < a.Hi.Y)))) J<|q8 ?_
   obtain rfl:=qc g
   exact ⟨_,_,_,_,_,_,_,_,J⟩
  refine qa J<|qa J<|qa J<|qa J<|qa J<|qa J<|qa J<|O (qd false) J<|q8 ?_
  obtain rfl:=qc g
  exact ⟨_,_,_,_,_,_,_,_,J⟩
 rintro _ ⟨x,y,z,aa,ab,ac,ad,ae,rfl⟩
 obtain ⟨af,h,b⟩:=q7 b
 refine qx 9 (fun A st=>∃ (ag ah ai aj ak al am an : V),st = A [(39,qd af),(38,an),(37,am),(36,al),(35,ak),(34,aj),(33,ai),(32,ah),(31,ag)]) ?_ ?_
 ·refine qw J J h (fun h=>?_) (fun h=>?_)
  ·refine O (.ref 0 6 0 0) J<|O (.ref 0 6 0 2) J<|O (q0 a.Lo.Z) J<|O (.ref 0 6 0 3) J<|O (.ref 0 6 0 5) J<|O (q0 a.Hi.Z) J<|O (.d (.bool (decide (a.Lo.Z < a.Hi.Z)))) J<|O (.d (.bool (decide (a.Lo.Z < a.Hi.Z)))) J<|q8 ?_
   obtain rfl:=qc h
   exact ⟨_,_,_,_,_,_,_,_,J⟩
  refine qa J<|qa J<|qa J<|qa J<|qa J<|qa J<|qa J<|O (qd false) J<|q8 ?_
  obtain rfl:=qc h
  exact ⟨_,_,_,_,_,_,_,_,J⟩
 rintro _ ⟨ag,ah,ai,aj,ak,al,am,an,rfl⟩
 refine q9 J<|qn ?_
 obtain rfl:=qc b
 exact qz (qd af) J
theorem qeg (c : List Int) (r : List Int) (p : J8 c = some r) : Pure Tryz.prog tab 115 [.sl 1 (c.map (eI .i64))] (.sl 1 (r.map (eI .i64))):=by
 unfold J8 at p
 refine Q8 Tryz.func115 J (by kernel_rfl) (by kernel_rfl) J<|qb<|q9 J<|qm<|q9 J<|q8<|qe<|qb<|q9 J<|q8 ?_
 obtain ⟨aa,bg,p⟩:=q7 p
 refine Qb (fun l=>l = aa) (fun (l : List Int)=>⟨[(3,.hs 0 1 0 l.length)],[(0,.dat 1 (l.map (eI .i64)))],1⟩) (by simp) ?_ ?_
 ·refine Q7 (q30 c) (fun (b : Int × List Int)=>⟨[(0,.d (.sl 1 (c.map (eI .i64)))),(3,.hs 0 1 0 b.2.length),(4,q0 b.1)],[(0,.dat 1 (b.2.map (eI .i64)))],1⟩) (0,[]) aa bg (wkA [] [] [0]) ?_
  intro b bp h
  unfold q30 at h
  refine qe<|qb<|U J<|U J<|Qc J<|O (.d (.bool (decide (b.1 < (c.length : Int))))) J<|q8 ?_
  refine ql J h (fun _ h=>?_) (fun _ h=>?_)
  ·refine qj<|qe ?_
   obtain ⟨bh,a,h⟩:=q7 h
   refine Qb (fun n=>n = bh) (fun (n : List Int)=>⟨[(0,.d (.sl 1 (c.map (eI .i64)))),(3,.hs 0 1 0 n.length),(4,q0 b.1)],[(0,.dat 1 (n.map (eI .i64)))],1⟩) (by simp) ?_ ?_
   ·refine qb<|U J<|O (q0 (b.2.length : Int)) J<|q9 J<|q8<|qe ?_
    obtain ⟨ab,bi,a⟩:=q7 a
    refine Qb (fun k=>k = ab) (fun (k : Int)=>⟨[(0,.d (.sl 1 (c.map (eI .i64)))),(3,.hs 0 1 0 b.2.length),(4,q0 b.1),(5,q0 k)],[(0,.dat 1 (b.2.map (eI .i64)))],1⟩) (by simp) ?_ ?_
    ·refine Q7 (q31 b c) (fun (o : Int)=>⟨[(0,.d (.sl 1 (c.map (eI .i64)))),(3,.hs 0 1 0 b.2.length),(4,q0 b.1),(5,q0 o)],[(0,.dat 1 (b.2.map (eI .i64)))],1⟩) (b.2.length : Int) ab bi (wkA [(0,0)] [] []) ?_
     intro o bq j
     unfold q31 at j
     refine qe<|qe<|Q5 [q6,q6,q6,q6,q6,q6,qo 0,q6,q6,q6,q6,q6,q6,q6] (by kernel_rfl)<|U J<|O (.d (.bool (decide (o > 0)))) J ?_
     obtain ⟨bj,f,j⟩:=q7 j
     refine qx 12 (fun A st=>∃ (ac ad ae af ag ah ai aj ak al am : V),st = A [(27,qd bj),(26,am),(25,al),(24,ak),(23,aj),(22,ai),(21,ah),(20,ag),(19,af),(18,ae),(17,ad),(16,ac)]) ?_ ?_
     ·refine qw J J f (fun f=>?_) (fun f=>?_)
      ·refine U J<|U J<|O (.d (G (w64 (o - 1)))) J ?_
       obtain ⟨s,an,f⟩:=q7 f
       refine qq an J J<|Q1 (q0 s) an J<|U J<|U J ?_
       obtain ⟨t,bk,f⟩:=q7 f
       refine Q4 (enc:=(eI .i64)) bk J<|O (q0 t) J<|O (.d (.bool (decide (s > t)))) J<|O (.d (.bool (decide (s > t)))) J<|q8 ?_
       obtain rfl:=qc f
       exact ⟨_,_,_,_,_,_,_,_,_,_,_,J⟩
      refine qa J<|qa J<|qa J<|qa J<|qa J<|qa J<|qa J<|qa J<|qa J<|qa J<|O (qd false) J<|q8 ?_
      obtain rfl:=qc f
      exact ⟨_,_,_,_,_,_,_,_,_,_,_,J⟩
     rintro _ ⟨ac,ad,ae,af,ag,ah,ai,aj,ak,al,am,rfl⟩
     refine q8 ?_
     refine ql J j (fun _ j=>?_) (fun _ j=>?_)
     ·refine qj<|qu<|qt<|U J<|O (.d (G (w64 (o - 1)))) J<|q9 J<|qr<|Qa<|Q9 ?_
      exact ⟨_,(Option.some.inj j).symm,wkA [(0,0)] [] []⟩
     refine Q2 ?_
     refine ⟨_,(Option.some.inj j).symm,fun hm=>?_⟩
     subst hm
     exact ⟨_,J,wkA [(0,0)] [] []⟩
    intro k hb
    subst hb
    refine qe<|qe<|Q5 [q6,q6,q6,q6,q6,q6,qo 0,q6,q6,q6,q6,q6,q6,q6] (by kernel_rfl)<|U J<|O (.d (.bool (decide (k > 0)))) J ?_
    obtain ⟨bl,g,a⟩:=q7 a
    refine qx 12 (fun A st=>∃ (ao ap aq ar au av aw ax ay az ba : V),st = A [(43,qd bl),(42,ba),(41,az),(40,ay),(39,ax),(38,aw),(37,av),(36,au),(35,ar),(34,aq),(33,ap),(32,ao)]) ?_ ?_
    ·refine qw J J g (fun g=>?_) (fun g=>?_)
     ·refine U J<|U J<|O (.d (G (w64 (k - 1)))) J ?_
      obtain ⟨u,bb,g⟩:=q7 g
      refine qq bb J J<|Q1 (q0 u) bb J<|U J<|U J ?_
      obtain ⟨x,bm,g⟩:=q7 g
      refine Q4 (enc:=(eI .i64)) bm J<|O (q0 x) J<|O (qd (u == x)) J<|O (qd (u == x)) J<|q8 ?_
      obtain rfl:=qc g
      exact ⟨_,_,_,_,_,_,_,_,_,_,_,J⟩
     refine qa J<|qa J<|qa J<|qa J<|qa J<|qa J<|qa J<|qa J<|qa J<|qa J<|O (qd false) J<|q8 ?_
     obtain rfl:=qc g
     exact ⟨_,_,_,_,_,_,_,_,_,_,_,J⟩
    rintro _ ⟨ao,ap,aq,ar,au,av,aw,ax,ay,az,ba,rfl⟩
    refine q8 ?_
    refine ql J a (fun _ a=>?_) (fun _ a=>?_)
    ·refine Q2 ?_
     obtain rfl:=qc a
     exact ⟨_,J,wkA [(0,0)] [] []⟩
    refine qj<|qb<|U J<|Qg (.hs 1 1 0 [0].length) (.dat 1 ([0].map (eI .i64))) J ?_
    obtain ⟨q,bn,a⟩:=q7 a
    refine Ka (xs:=b.2) (ys:=[0]) (enc:=(eI .i64)) (.hs 1 1 0 [0].length) bn J J J J J J J (K9 J J) J J J J<|q9 J<|q8<|qe<|Q5 [Qe 2,q6,q6,q6,q6,q6,q6,q6] (by kernel_rfl)<|U J<|U J<|O (.d (G (w64 (k + 1)))) J ?_
    obtain ⟨bc,y,a⟩:=q7 a
    refine q7t y J J J J J (q4b J) (fun _=>rfl)<|U J<|U J ?_
    obtain ⟨m,bd,a⟩:=q7 a
    refine q7t bd J J J J J (q4b J) (fun _=>rfl)<|qqw (w:=bc) (xs:=q) (ys:=(q.drop m.1).take m.2) (enc:=(eI .i64)) (.hs 2 1 m.1 m.2) (q9k y) J J J J J J (qoi (q9k bd) J) J J J J ?_
    have be:=@qgu _ q ((q.drop m.1).take m.2) bc (q9k y)
    refine q8<|qt<|U J<|U J<|U J<|U J ?_
    obtain ⟨z,bo,a⟩:=q7 a
    refine Q4 (enc:=(eI .i64)) bo J<|O (q0 z) J ?_
    obtain ⟨br,bf,a⟩:=q7 a
    refine qq bf (by simp [be]) J<|Qn (ds:=[G z]) z bf J J J J J J J J (leb J) J<|qr ?_
    obtain rfl:=qc a
    exact ⟨_,J,wkE [(0,2)] [] [] J ⟨⟨_,J,.d (.refl _)⟩,⟨_,J,Qp (by simp [be]) J (by decide) (ltd J)⟩,⟨_,J,.d (.refl _)⟩,trivial⟩ ⟨⟨ltd J,.inr ⟨by decide,_,J,.dat _ _⟩⟩,trivial⟩⟩
   intro n hb
   subst hb
   refine qt<|U J<|O (.d (G (w64 (b.1 + 1)))) J<|q9 J<|qr ?_
   exact ⟨_,(Option.some.inj h).symm,wkA [(0,0)] [] []⟩
  refine Q2 ?_
  refine ⟨_,(Option.some.inj h).symm,fun hm=>?_⟩
  subst hm
  exact ⟨_,J,wkA [(0,0)] [] []⟩
 intro l hb
 subst hb
 refine qb<|U J<|q9 J<|qn ?_
 obtain rfl:=qc p
 exact finD (.inr J) (v:=.hs 0 1 0 l.length) J (Z9 J J) (.refl _)
theorem qsp (p : List qf) (k : List qf) (r : List Int) (j : q81 p k = some r) : Pure Tryz.prog tab 85 [.sl 6 (p.map qp),.sl 6 (k.map qp)] (.sl 1 (r.map (eI .i64))):=by
 unfold q81 at j
 refine Q8 Tryz.func85 J (by kernel_rfl) (by kernel_rfl) J<|qb<|q9 J<|qm<|q9 J<|q8<|qe<|qb<|q9 J<|q8 ?_
 obtain ⟨q,u,j⟩:=q7 j
 refine Qb (fun o=>o = q) (fun (o : List Int)=>⟨[(1,.d (.sl 6 (k.map qp))),(5,.hs 0 1 0 o.length)],[(0,.dat 1 (o.map (eI .i64)))],1⟩) (by simp) ?_ ?_
 ·refine Q7 (q3a p) (fun (l : Int × List Int)=>⟨[(0,.d (.sl 6 (p.map qp))),(1,.d (.sl 6 (k.map qp))),(5,.hs 0 1 0 l.2.length),(6,q0 l.1)],[(0,.dat 1 (l.2.map (eI .i64)))],1⟩) (0,[]) q u (wkA [] [] [0]) ?_
  intro l ad g
  unfold q3a at g
  refine qe<|qb<|U J<|U J<|Qc J<|O (.d (.bool (decide (l.1 < (p.length : Int))))) J<|q8 ?_
  refine ql J g (fun _ g=>?_) (fun _ g=>?_)
  ·refine qj<|qe<|qu<|Q5 [q6,(some [0,1],[0,2]),(some [],[1]),q6,q6,q6,q6,q6,q6,q6,q6,q6,q6,q6,q6,q6] (by kernel_rfl)<|U J<|U J<|U J ?_
   obtain ⟨a,v,g⟩:=q7 g
   refine Q4 (enc:=qp) v J<|O (.dref [G a.Lo.X,G a.Lo.Y,G a.Lo.Z,G a.Hi.X,G a.Hi.Y,G a.Hi.Z] 0) J<|O (.dref [G a.Lo.X,G a.Lo.Y,G a.Lo.Z,G a.Hi.X,G a.Hi.Y,G a.Hi.Z] 2) J<|O (q0 a.Lo.Z) J<|U J<|U J ?_
   obtain ⟨b,w,g⟩:=q7 g
   refine Q4 (enc:=qp) w J<|O (.dref [G b.Lo.X,G b.Lo.Y,G b.Lo.Z,G b.Hi.X,G b.Hi.Y,G b.Hi.Z] 3) J<|O (.dref [G b.Lo.X,G b.Lo.Y,G b.Lo.Z,G b.Hi.X,G b.Hi.Y,G b.Hi.Z] 5) J<|O (q0 b.Hi.Z) J<|Qg (.hs 1 1 0 [a.Lo.Z,b.Hi.Z].length) (.dat 1 ([a.Lo.Z,b.Hi.Z].map (eI .i64))) J ?_
   obtain ⟨ae,x,g⟩:=q7 g
   refine Ka (xs:=l.2) (ys:=[a.Lo.Z,b.Hi.Z]) (enc:=(eI .i64)) (.hs 1 1 0 [a.Lo.Z,b.Hi.Z].length) x J J J J J J J (K9 J J) J J J J<|q9 J<|qr<|Qa<|qt<|U J<|O (.d (G (w64 (l.1 + 1)))) J<|q9 J<|qr ?_
   exact ⟨_,(Option.some.inj g).symm,wkA [(0,2)] [] []⟩
  refine Q2 ?_
  refine ⟨_,(Option.some.inj g).symm,fun hm=>?_⟩
  subst hm
  exact ⟨_,J,wkA [(0,0)] [] []⟩
 intro o hb
 subst hb
 refine qe<|qb<|q9 J<|q8 ?_
 obtain ⟨s,y,j⟩:=q7 j
 refine Qb (fun m=>m = s) (fun (m : List Int)=>⟨[(5,.hs 0 1 0 m.length)],[(0,.dat 1 (m.map (eI .i64)))],1⟩) (by simp) ?_ ?_
 ·refine Q7 (q3b k) (fun (n : Int × List Int)=>⟨[(1,.d (.sl 6 (k.map qp))),(5,.hs 0 1 0 n.2.length),(7,q0 n.1)],[(0,.dat 1 (n.2.map (eI .i64)))],1⟩) (0,o) s y (wkA [(0,0)] [] []) ?_
  intro n af h
  unfold q3b at h
  refine qe<|qb<|U J<|U J<|Qc J<|O (.d (.bool (decide (n.1 < (k.length : Int))))) J<|q8 ?_
  refine ql J h (fun _ h=>?_) (fun _ h=>?_)
  ·refine qj<|qe<|qu<|Q5 [q6,(some [0,1],[0,2]),(some [],[1]),q6,q6,q6,q6,q6,q6,q6,q6,q6,q6,q6,q6,q6] (by kernel_rfl)<|U J<|U J<|U J ?_
   obtain ⟨c,z,h⟩:=q7 h
   refine Q4 (enc:=qp) z J<|O (.dref [G c.Lo.X,G c.Lo.Y,G c.Lo.Z,G c.Hi.X,G c.Hi.Y,G c.Hi.Z] 0) J<|O (.dref [G c.Lo.X,G c.Lo.Y,G c.Lo.Z,G c.Hi.X,G c.Hi.Y,G c.Hi.Z] 2) J<|O (q0 c.Lo.Z) J<|U J<|U J ?_
   obtain ⟨f,aa,h⟩:=q7 h
   refine Q4 (enc:=qp) aa J<|O (.dref [G f.Lo.X,G f.Lo.Y,G f.Lo.Z,G f.Hi.X,G f.Hi.Y,G f.Hi.Z] 3) J<|O (.dref [G f.Lo.X,G f.Lo.Y,G f.Lo.Z,G f.Hi.X,G f.Hi.Y,G f.Hi.Z] 5) J<|O (q0 f.Hi.Z) J<|Qg (.hs 1 1 0 [c.Lo.Z,f.Hi.Z].length) (.dat 1 ([c.Lo.Z,f.Hi.Z].map (eI .i64))) J ?_
   obtain ⟨ag,ab,h⟩:=q7 h
   refine Ka (xs:=n.2) (ys:=[c.Lo.Z,f.Hi.Z]) (enc:=(eI .i64)) (.hs 1 1 0 [c.Lo.Z,f.Hi.Z].length) ab J J J J J J J (K9 J J) J J J J<|q9 J<|qr<|Qa<|qt<|U J<|O (.d (G (w64 (n.1 + 1)))) J<|q9 J<|qr ?_
   exact ⟨_,(Option.some.inj h).symm,wkA [(0,2)] [] []⟩
  refine Q2 ?_
  refine ⟨_,(Option.some.inj h).symm,fun hm=>?_⟩
  subst hm
  exact ⟨_,J,wkA [(0,0)] [] []⟩
 intro m hb
 subst hb
 refine qe ?_
 refine Kn (st':=⟨[(5,.d (.sl 1 (m.map (eI .i64))))],[],0⟩) (wkA [] [0] []) ?_ (by simp)
 refine qt<|U J ?_
 obtain ⟨t,ac,j⟩:=q7 j
 refine qs (qeg m t ac) J<|q9 J<|qn ?_
 obtain rfl:=qc j
 exact qz (.d (.sl 1 (t.map (eI .i64)))) J
theorem qb7 (o : List qf) (k : Int) (r : List qg) (s : J9 o k = some r) : Pure Tryz.prog tab 68 [.sl 6 (o.map qp),G k] (.sl 4 (r.map qk)):=by
 unfold J9 at s
 refine Q8 Tryz.func68 J (by kernel_rfl) (by kernel_rfl) J<|qb<|q9 J<|qm<|q9 J<|q8<|qe<|qb<|q9 J<|q8 ?_
 obtain ⟨t,ae,s⟩:=q7 s
 refine Qb (fun p=>p = t) (fun (p : List qg)=>⟨[(5,.hs 0 4 0 p.length)],[(0,.dat 4 (p.map qk))],1⟩) (by simp) ?_ ?_
 ·refine Q7 (q59 o k) (fun (l : Int × List qg)=>⟨[(0,.d (.sl 6 (o.map qp))),(1,q0 k),(5,.hs 0 4 0 l.2.length),(6,q0 l.1)],[(0,.dat 4 (l.2.map qk))],1⟩) (0,[]) t ae (wkA [] [] [0]) ?_
  intro l ao m
  unfold q59 at m
  refine qe<|qb<|U J<|U J<|Qc J<|O (.d (.bool (decide (l.1 < (o.length : Int))))) J<|q8 ?_
  refine ql J m (fun _ m=>?_) (fun _ m=>?_)
  ·refine qj<|qe ?_
   obtain ⟨af,a,m⟩:=q7 m
   refine Qb (fun q=>q = af) (fun (q : List qg)=>⟨[(0,.d (.sl 6 (o.map qp))),(1,q0 k),(5,.hs 0 4 0 q.length),(6,q0 l.1)],[(0,.dat 4 (q.map qk))],1⟩) (by simp) ?_ ?_
   ·refine qb<|U J<|U J ?_
    obtain ⟨j,ag,a⟩:=q7 a
    refine Q4 (enc:=qp) ag J<|O (.dref [G j.Lo.X,G j.Lo.Y,G j.Lo.Z,G j.Hi.X,G j.Hi.Y,G j.Hi.Z] 0) J<|O (.dref [G j.Lo.X,G j.Lo.Y,G j.Lo.Z,G j.Hi.X,G j.Hi.Y,G j.Hi.Z] 2) J<|O (q0 j.Lo.Z) J<|U J<|O (.d (.bool (decide (j.Lo.Z≤k)))) J ?_
    obtain ⟨ah,n,a⟩:=q7 a
    refine qx 10 (fun A st=>∃ (u w x y z aa ab ac ad : V),st = A [(30,qd ah),(29,ad),(28,ac),(27,ab),(26,aa),(25,z),(24,y),(23,x),(22,w),(21,u)]) ?_ ?_
    ·refine qw J J n (fun n=>?_) (fun n=>?_)
     ·refine U J<|U J<|U J ?_
      obtain ⟨h,ai,n⟩:=q7 n
      refine Q4 (enc:=qp) ai J<|O (.dref [G h.Lo.X,G h.Lo.Y,G h.Lo.Z,G h.Hi.X,G h.Hi.Y,G h.Hi.Z] 3) J<|O (.dref [G h.Lo.X,G h.Lo.Y,G h.Lo.Z,G h.Hi.X,G h.Hi.Y,G h.Hi.Z] 5) J<|O (q0 h.Hi.Z) J<|O (.d (.bool (decide (k < h.Hi.Z)))) J<|O (.d (.bool (decide (k < h.Hi.Z)))) J<|q8 ?_
      obtain rfl:=qc n
      exact ⟨_,_,_,_,_,_,_,_,_,J⟩
     refine qa J<|qa J<|qa J<|qa J<|qa J<|qa J<|qa J<|qa J<|O (qd false) J<|q8 ?_
     obtain rfl:=qc n
     exact ⟨_,_,_,_,_,_,_,_,_,J⟩
    rintro _ ⟨u,w,x,y,z,aa,ab,ac,ad,rfl⟩
    refine q8 ?_
    refine ql J a (fun _ a=>?_) (fun _ a=>?_)
    ·refine Q5 [q6,(some [0,1],[0,2]),(some [],[1]),q6,q6,q6,q6,q6,q6,q6,q6,q6,q6,q6,q6,q6,q6,q6,q6,q6,q6,q6,q6,q6,q6,q6,q6,q6,q6] (by kernel_rfl)<|U J<|U J<|U J ?_
     obtain ⟨b,aj,a⟩:=q7 a
     refine Q4 (enc:=qp) aj J<|O (.dref [G b.Lo.X,G b.Lo.Y,G b.Lo.Z,G b.Hi.X,G b.Hi.Y,G b.Hi.Z] 0) J<|O (.dref [G b.Lo.X,G b.Lo.Y,G b.Lo.Z,G b.Hi.X,G b.Hi.Y,G b.Hi.Z] 0) J<|O (q0 b.Lo.X) J<|U J<|U J ?_
     obtain ⟨c,ak,a⟩:=q7 a
     refine Q4 (enc:=qp) ak J<|O (.dref [G c.Lo.X,G c.Lo.Y,G c.Lo.Z,G c.Hi.X,G c.Hi.Y,G c.Hi.Z] 0) J<|O (.dref [G c.Lo.X,G c.Lo.Y,G c.Lo.Z,G c.Hi.X,G c.Hi.Y,G c.Hi.Z] 1) J<|O (q0 c.Lo.Y) J<|U J<|U J ?_
     obtain ⟨f,al,a⟩:=q7 a
     refine Q4 (enc:=qp) al J<|O (.dref [G f.Lo.X,G f.Lo.Y,G f.Lo.Z,G f.Hi.X,G f.Hi.Y,G f.Hi.Z] 3) J<|O (.dref [G f.Lo.X,G f.Lo.Y,G f.Lo.Z,G f.Hi.X,G f.Hi.Y,G f.Hi.Z] 3) J<|O (q0 f.Hi.X) J<|U J<|U J ?_
     obtain ⟨g,am,a⟩:=q7 a
     refine Q4 (enc:=qp) am J<|O (.dref [G g.Lo.X,G g.Lo.Y,G g.Lo.Z,G g.Hi.X,G g.Hi.Y,G g.Hi.Z] 3) J<|O (.dref [G g.Lo.X,G g.Lo.Y,G g.Lo.Z,G g.Hi.X,G g.Hi.Y,G g.Hi.Z] 4) J<|O (q0 g.Hi.Y) J<|O (.d (.agg [G b.Lo.X,G c.Lo.Y,G f.Hi.X,G g.Hi.Y])) J<|Qg (.hs 1 4 0 [({X0:=b.Lo.X,Y0:=c.Lo.Y,X1:=f.Hi.X,Y1:=g.Hi.Y} : qg)].length) (.dat 4 ([({X0:=b.Lo.X,Y0:=c.Lo.Y,X1:=f.Hi.X,Y1:=g.Hi.Y} : qg)].map qk)) J ?_
     obtain ⟨ap,an,a⟩:=q7 a
     refine Ka (xs:=l.2) (ys:=[({X0:=b.Lo.X,Y0:=c.Lo.Y,X1:=f.Hi.X,Y1:=g.Hi.Y} : qg)]) (enc:=qk) (.hs 1 4 0 [({X0:=b.Lo.X,Y0:=c.Lo.Y,X1:=f.Hi.X,Y1:=g.Hi.Y} : qg)].length) an J J J J J J J (K9 J J) J J J J<|q9 J<|qr ?_
     obtain rfl:=qc a
     exact ⟨_,J,wkA [(0,2)] [] []⟩
    refine qj<|Q9 ?_
    obtain rfl:=qc a
    exact ⟨_,J,wkA [(0,0)] [] []⟩
   intro q hb
   subst hb
   refine qt<|U J<|O (.d (G (w64 (l.1 + 1)))) J<|q9 J<|qr ?_
   exact ⟨_,(Option.some.inj m).symm,wkA [(0,0)] [] []⟩
  refine Q2 ?_
  refine ⟨_,(Option.some.inj m).symm,fun hm=>?_⟩
  subst hm
  exact ⟨_,J,wkA [(0,0)] [] []⟩
 intro p hb
 subst hb
 refine qb<|U J<|q9 J<|qn ?_
 obtain rfl:=qc s
 exact finD (.inr J) (v:=.hs 0 4 0 p.length) J (Z9 J J) (.refl _)
theorem qsj (p : List qg) (k : List qg) (r : List Int) (j : q7z p k = some r) : Pure Tryz.prog tab 91 [.sl 4 (p.map qk),.sl 4 (k.map qk)] (.sl 1 (r.map (eI .i64))):=by
 unfold q7z at j
 refine Q8 Tryz.func91 J (by kernel_rfl) (by kernel_rfl) J<|qb<|q9 J<|qm<|q9 J<|q8<|qe<|qb<|q9 J<|q8 ?_
 obtain ⟨q,u,j⟩:=q7 j
 refine Qb (fun o=>o = q) (fun (o : List Int)=>⟨[(1,.d (.sl 4 (k.map qk))),(5,.hs 0 1 0 o.length)],[(0,.dat 1 (o.map (eI .i64)))],1⟩) (by simp) ?_ ?_
 ·refine Q7 (q34 p) (fun (l : Int × List Int)=>⟨[(0,.d (.sl 4 (p.map qk))),(1,.d (.sl 4 (k.map qk))),(5,.hs 0 1 0 l.2.length),(6,q0 l.1)],[(0,.dat 1 (l.2.map (eI .i64)))],1⟩) (0,[]) q u (wkA [] [] [0]) ?_
  intro l ad a
  unfold q34 at a
  refine qe<|qb<|U J<|U J<|Qc J<|O (.d (.bool (decide (l.1 < (p.length : Int))))) J<|q8 ?_
  refine ql J a (fun _ a=>?_) (fun _ a=>?_)
  ·refine qj<|qe<|qu<|Q5 [q6,(some [0,1],[0,2]),(some [],[1]),q6,q6,q6,q6,q6,q6,q6,q6,q6,q6,q6] (by kernel_rfl)<|U J<|U J<|U J ?_
   obtain ⟨c,v,a⟩:=q7 a
   refine Q4 (enc:=qk) v J<|O (.dref [G c.X0,G c.Y0,G c.X1,G c.Y1] 0) J<|O (q0 c.X0) J<|U J<|U J ?_
   obtain ⟨f,w,a⟩:=q7 a
   refine Q4 (enc:=qk) w J<|O (.dref [G f.X0,G f.Y0,G f.X1,G f.Y1] 2) J<|O (q0 f.X1) J<|Qg (.hs 1 1 0 [c.X0,f.X1].length) (.dat 1 ([c.X0,f.X1].map (eI .i64))) J ?_
   obtain ⟨ae,x,a⟩:=q7 a
   refine Ka (xs:=l.2) (ys:=[c.X0,f.X1]) (enc:=(eI .i64)) (.hs 1 1 0 [c.X0,f.X1].length) x J J J J J J J (K9 J J) J J J J<|q9 J<|qr<|Qa<|qt<|U J<|O (.d (G (w64 (l.1 + 1)))) J<|q9 J<|qr ?_
   exact ⟨_,(Option.some.inj a).symm,wkA [(0,2)] [] []⟩
  refine Q2 ?_
  refine ⟨_,(Option.some.inj a).symm,fun hm=>?_⟩
  subst hm
  exact ⟨_,J,wkA [(0,0)] [] []⟩
 intro o hb
 subst hb
 refine qe<|qb<|q9 J<|q8 ?_
 obtain ⟨s,y,j⟩:=q7 j
 refine Qb (fun m=>m = s) (fun (m : List Int)=>⟨[(5,.hs 0 1 0 m.length)],[(0,.dat 1 (m.map (eI .i64)))],1⟩) (by simp) ?_ ?_
 ·refine Q7 (q35 k) (fun (n : Int × List Int)=>⟨[(1,.d (.sl 4 (k.map qk))),(5,.hs 0 1 0 n.2.length),(7,q0 n.1)],[(0,.dat 1 (n.2.map (eI .i64)))],1⟩) (0,o) s y (wkA [(0,0)] [] []) ?_
  intro n af b
  unfold q35 at b
  refine qe<|qb<|U J<|U J<|Qc J<|O (.d (.bool (decide (n.1 < (k.length : Int))))) J<|q8 ?_
  refine ql J b (fun _ b=>?_) (fun _ b=>?_)
  ·refine qj<|qe<|qu<|Q5 [q6,(some [0,1],[0,2]),(some [],[1]),q6,q6,q6,q6,q6,q6,q6,q6,q6,q6,q6] (by kernel_rfl)<|U J<|U J<|U J ?_
   obtain ⟨g,z,b⟩:=q7 b
   refine Q4 (enc:=qk) z J<|O (.dref [G g.X0,G g.Y0,G g.X1,G g.Y1] 0) J<|O (q0 g.X0) J<|U J<|U J ?_
   obtain ⟨h,aa,b⟩:=q7 b
   refine Q4 (enc:=qk) aa J<|O (.dref [G h.X0,G h.Y0,G h.X1,G h.Y1] 2) J<|O (q0 h.X1) J<|Qg (.hs 1 1 0 [g.X0,h.X1].length) (.dat 1 ([g.X0,h.X1].map (eI .i64))) J ?_
   obtain ⟨ag,ab,b⟩:=q7 b
   refine Ka (xs:=n.2) (ys:=[g.X0,h.X1]) (enc:=(eI .i64)) (.hs 1 1 0 [g.X0,h.X1].length) ab J J J J J J J (K9 J J) J J J J<|q9 J<|qr<|Qa<|qt<|U J<|O (.d (G (w64 (n.1 + 1)))) J<|q9 J<|qr ?_
   exact ⟨_,(Option.some.inj b).symm,wkA [(0,2)] [] []⟩
  refine Q2 ?_
  refine ⟨_,(Option.some.inj b).symm,fun hm=>?_⟩
  subst hm
  exact ⟨_,J,wkA [(0,0)] [] []⟩
 intro m hb
 subst hb
 refine qe ?_
 refine Kn (st':=⟨[(5,.d (.sl 1 (m.map (eI .i64))))],[],0⟩) (wkA [] [0] []) ?_ (by simp)
 refine qt<|U J ?_
 obtain ⟨t,ac,j⟩:=q7 j
 refine qs (qeg m t ac) J<|q9 J<|qn ?_
 obtain rfl:=qc j
 exact qz (.d (.sl 1 (t.map (eI .i64)))) J
theorem qsl (p : List qg) (k : List qg) (r : List Int) (j : q80 p k = some r) : Pure Tryz.prog tab 92 [.sl 4 (p.map qk),.sl 4 (k.map qk)] (.sl 1 (r.map (eI .i64))):=by
 unfold q80 at j
 refine Q8 Tryz.func92 J (by kernel_rfl) (by kernel_rfl) J<|qb<|q9 J<|qm<|q9 J<|q8<|qe<|qb<|q9 J<|q8 ?_
 obtain ⟨q,u,j⟩:=q7 j
 refine Qb (fun o=>o = q) (fun (o : List Int)=>⟨[(1,.d (.sl 4 (k.map qk))),(5,.hs 0 1 0 o.length)],[(0,.dat 1 (o.map (eI .i64)))],1⟩) (by simp) ?_ ?_
 ·refine Q7 (q36 p) (fun (l : Int × List Int)=>⟨[(0,.d (.sl 4 (p.map qk))),(1,.d (.sl 4 (k.map qk))),(5,.hs 0 1 0 l.2.length),(6,q0 l.1)],[(0,.dat 1 (l.2.map (eI .i64)))],1⟩) (0,[]) q u (wkA [] [] [0]) ?_
  intro l ad a
  unfold q36 at a
  refine qe<|qb<|U J<|U J<|Qc J<|O (.d (.bool (decide (l.1 < (p.length : Int))))) J<|q8 ?_
  refine ql J a (fun _ a=>?_) (fun _ a=>?_)
  ·refine qj<|qe<|qu<|Q5 [q6,(some [0,1],[0,2]),(some [],[1]),q6,q6,q6,q6,q6,q6,q6,q6,q6,q6,q6] (by kernel_rfl)<|U J<|U J<|U J ?_
   obtain ⟨c,v,a⟩:=q7 a
   refine Q4 (enc:=qk) v J<|O (.dref [G c.X0,G c.Y0,G c.X1,G c.Y1] 1) J<|O (q0 c.Y0) J<|U J<|U J ?_
   obtain ⟨f,w,a⟩:=q7 a
   refine Q4 (enc:=qk) w J<|O (.dref [G f.X0,G f.Y0,G f.X1,G f.Y1] 3) J<|O (q0 f.Y1) J<|Qg (.hs 1 1 0 [c.Y0,f.Y1].length) (.dat 1 ([c.Y0,f.Y1].map (eI .i64))) J ?_
   obtain ⟨ae,x,a⟩:=q7 a
   refine Ka (xs:=l.2) (ys:=[c.Y0,f.Y1]) (enc:=(eI .i64)) (.hs 1 1 0 [c.Y0,f.Y1].length) x J J J J J J J (K9 J J) J J J J<|q9 J<|qr<|Qa<|qt<|U J<|O (.d (G (w64 (l.1 + 1)))) J<|q9 J<|qr ?_
   exact ⟨_,(Option.some.inj a).symm,wkA [(0,2)] [] []⟩
  refine Q2 ?_
  refine ⟨_,(Option.some.inj a).symm,fun hm=>?_⟩
  subst hm
  exact ⟨_,J,wkA [(0,0)] [] []⟩
 intro o hb
 subst hb
 refine qe<|qb<|q9 J<|q8 ?_
 obtain ⟨s,y,j⟩:=q7 j
 refine Qb (fun m=>m = s) (fun (m : List Int)=>⟨[(5,.hs 0 1 0 m.length)],[(0,.dat 1 (m.map (eI .i64)))],1⟩) (by simp) ?_ ?_
 ·refine Q7 (q37 k) (fun (n : Int × List Int)=>⟨[(1,.d (.sl 4 (k.map qk))),(5,.hs 0 1 0 n.2.length),(7,q0 n.1)],[(0,.dat 1 (n.2.map (eI .i64)))],1⟩) (0,o) s y (wkA [(0,0)] [] []) ?_
  intro n af b
  unfold q37 at b
  refine qe<|qb<|U J<|U J<|Qc J<|O (.d (.bool (decide (n.1 < (k.length : Int))))) J<|q8 ?_
  refine ql J b (fun _ b=>?_) (fun _ b=>?_)
  ·refine qj<|qe<|qu<|Q5 [q6,(some [0,1],[0,2]),(some [],[1]),q6,q6,q6,q6,q6,q6,q6,q6,q6,q6,q6] (by kernel_rfl)<|U J<|U J<|U J ?_
   obtain ⟨g,z,b⟩:=q7 b
   refine Q4 (enc:=qk) z J<|O (.dref [G g.X0,G g.Y0,G g.X1,G g.Y1] 1) J<|O (q0 g.Y0) J<|U J<|U J ?_
   obtain ⟨h,aa,b⟩:=q7 b
   refine Q4 (enc:=qk) aa J<|O (.dref [G h.X0,G h.Y0,G h.X1,G h.Y1] 3) J<|O (q0 h.Y1) J<|Qg (.hs 1 1 0 [g.Y0,h.Y1].length) (.dat 1 ([g.Y0,h.Y1].map (eI .i64))) J ?_
   obtain ⟨ag,ab,b⟩:=q7 b
   refine Ka (xs:=n.2) (ys:=[g.Y0,h.Y1]) (enc:=(eI .i64)) (.hs 1 1 0 [g.Y0,h.Y1].length) ab J J J J J J J (K9 J J) J J J J<|q9 J<|qr<|Qa<|qt<|U J<|O (.d (G (w64 (n.1 + 1)))) J<|q9 J<|qr ?_
   exact ⟨_,(Option.some.inj b).symm,wkA [(0,2)] [] []⟩
  refine Q2 ?_
  refine ⟨_,(Option.some.inj b).symm,fun hm=>?_⟩
  subst hm
  exact ⟨_,J,wkA [(0,0)] [] []⟩
 intro m hb
 subst hb
 refine qe ?_
 refine Kn (st':=⟨[(5,.d (.sl 1 (m.map (eI .i64))))],[],0⟩) (wkA [] [0] []) ?_ (by simp)
 refine qt<|U J ?_
 obtain ⟨t,ac,j⟩:=q7 j
 refine qs (qeg m t ac) J<|q9 J<|qn ?_
 obtain rfl:=qc j
 exact qz (.d (.sl 1 (t.map (eI .i64)))) J
theorem qk1 (n : List qg) (c : Int) (b : Int) (r : Bool) (o : q54 n c b = some r) : Pure Tryz.prog tab 45 [.sl 4 (n.map qk),G c,G b] (.bool r):=by
 unfold q54 at o
 refine Q8 Tryz.func45 J (by kernel_rfl) (by kernel_rfl) J<|qb<|q9 J<|q8<|qe<|qb<|q9 J<|q8 ?_
 obtain ⟨s,ar,o⟩:=q7 o
 refine Qb (fun q=>.inl q = s) (fun (q : Unit)=>⟨[],[],0⟩) (by simp) ?_ ?_
 ·refine Q7 (q1z n c b) (fun (p : Int)=>⟨[(0,.d (.sl 4 (n.map qk))),(1,q0 c),(2,q0 b),(7,q0 p)],[],0⟩) 0 s ar (wkA [] [] []) ?_
  intro p bb a
  unfold q1z at a
  refine qe<|qb<|U J<|U J<|Qc J<|O (.d (.bool (decide (p < (n.length : Int))))) J<|q8 ?_
  refine ql J a (fun _ a=>?_) (fun _ a=>?_)
  ·refine qj<|qe<|qu<|qb<|U J<|U J ?_
   obtain ⟨m,au,a⟩:=q7 a
   refine Q4 (enc:=qk) au J<|O (.dref [G m.X0,G m.Y0,G m.X1,G m.Y1] 0) J<|O (q0 m.X0) J<|U J<|O (.d (.bool (decide (m.X0≤c)))) J ?_
   obtain ⟨av,f,a⟩:=q7 a
   refine qx 9 (fun A st=>∃ (t u v w x y z aa : V),st = A [(29,qd av),(28,aa),(27,z),(26,y),(25,x),(24,w),(23,v),(22,u),(21,t)]) ?_ ?_
   ·refine qw J J f (fun f=>?_) (fun f=>?_)
    ·refine U J<|U J<|U J ?_
     obtain ⟨g,aw,f⟩:=q7 f
     refine Q4 (enc:=qk) aw J<|O (.dref [G g.X0,G g.Y0,G g.X1,G g.Y1] 2) J<|O (q0 g.X1) J<|O (.d (.bool (decide (c < g.X1)))) J<|O (.d (.bool (decide (c < g.X1)))) J<|q8 ?_
     obtain rfl:=qc f
     exact ⟨_,_,_,_,_,_,_,_,J⟩
    refine qa J<|qa J<|qa J<|qa J<|qa J<|qa J<|qa J<|O (qd false) J<|q8 ?_
    obtain rfl:=qc f
    exact ⟨_,_,_,_,_,_,_,_,J⟩
   rintro _ ⟨t,u,v,w,x,y,z,aa,rfl⟩
   obtain ⟨ax,h,a⟩:=q7 a
   refine qx 9 (fun A st=>∃ (ab ac ad ae af ag ah ai : V),st = A [(38,qd ax),(37,ai),(36,ah),(35,ag),(34,af),(33,ae),(32,ad),(31,ac),(30,ab)]) ?_ ?_
   ·refine qw J J h (fun h=>?_) (fun h=>?_)
    ·refine U J<|U J ?_
     obtain ⟨j,ay,h⟩:=q7 h
     refine Q4 (enc:=qk) ay J<|O (.dref [G j.X0,G j.Y0,G j.X1,G j.Y1] 1) J<|O (q0 j.Y0) J<|U J<|O (.d (.bool (decide (j.Y0≤b)))) J<|O (.d (.bool (decide (j.Y0≤b)))) J<|q8 ?_
     obtain rfl:=qc h
     exact ⟨_,_,_,_,_,_,_,_,J⟩
    refine qa J<|qa J<|qa J<|qa J<|qa J<|qa J<|qa J<|O (qd false) J<|q8 ?_
    obtain rfl:=qc h
    exact ⟨_,_,_,_,_,_,_,_,J⟩
   rintro _ ⟨ab,ac,ad,ae,af,ag,ah,ai,rfl⟩
   obtain ⟨az,k,a⟩:=q7 a
   refine qx 9 (fun A st=>∃ (aj ak al am an ao ap aq : V),st = A [(47,qd az),(46,aq),(45,ap),(44,ao),(43,an),(42,am),(41,al),(40,ak),(39,aj)]) ?_ ?_
   ·refine qw J J k (fun k=>?_) (fun k=>?_)
    ·refine U J<|U J<|U J ?_
     obtain ⟨l,ba,k⟩:=q7 k
     refine Q4 (enc:=qk) ba J<|O (.dref [G l.X0,G l.Y0,G l.X1,G l.Y1] 3) J<|O (q0 l.Y1) J<|O (.d (.bool (decide (b < l.Y1)))) J<|O (.d (.bool (decide (b < l.Y1)))) J<|q8 ?_
     obtain rfl:=qc k
     exact ⟨_,_,_,_,_,_,_,_,J⟩
    refine qa J<|qa J<|qa J<|qa J<|qa J<|qa J<|qa J<|O (qd false) J<|q8 ?_
    obtain rfl:=qc k
    exact ⟨_,_,_,_,_,_,_,_,J⟩
   rintro _ ⟨aj,ak,al,am,an,ao,ap,aq,rfl⟩
   refine q8 ?_
   refine ql J a (fun _ a=>?_) (fun _ a=>?_)
   ·refine qb<|q9 J<|qn ?_
    refine ⟨_,(Option.some.inj a).symm,fun hm=>?_⟩
    subst hm
    obtain rfl:=qc o
    exact qz (qd true) J
   refine qj<|Q9<|Qa<|qt<|U J<|O (.d (G (w64 (p + 1)))) J<|q9 J<|qr ?_
   exact ⟨_,(Option.some.inj a).symm,wkA [] [] []⟩
  refine Q2 ?_
  refine ⟨_,(Option.some.inj a).symm,fun hm=>?_⟩
  subst hm
  exact ⟨_,J,wkA [] [] []⟩
 intro q hb
 subst hb
 refine qb<|q9 J<|qn ?_
 obtain rfl:=qc o
 exact qz (qd false) J
theorem qsd (g : Int) (h : Bool) (b : Bool) (r : Bool) (a : q52 g h b = some r) : Pure Tryz.prog tab 93 [G g,.bool h,.bool b] (.bool r):=by
 unfold q52 at a
 refine Q8 Tryz.func93 J (by kernel_rfl) (by kernel_rfl) J<|qb<|q9 J<|q8<|qe<|qb<|U J<|O (qd (g == 1)) J<|q8 ?_
 refine ql J a (fun _ a=>?_) (fun _ a=>?_)
 ·refine qb<|U J ?_
  obtain ⟨j,c,a⟩:=q7 a
  refine qx 3 (fun A st=>∃ (k l : V),st = A [(12,qd j),(11,l),(10,k)]) ?_ ?_
  ·refine qw J J c (fun c=>?_) (fun c=>?_)
   ·refine U J<|O (qd b) J<|q8 ?_
    obtain rfl:=qc c
    exact ⟨_,_,J⟩
   refine qa J<|O (qd false) J<|q8 ?_
   obtain rfl:=qc c
   exact ⟨_,_,J⟩
  rintro _ ⟨k,l,rfl⟩
  refine q9 J<|qn ?_
  obtain rfl:=qc a
  exact qz (qd j) J
 refine qj<|qe<|qb<|U J<|O (qd (g == 2)) J<|q8 ?_
 refine ql J a (fun _ a=>?_) (fun _ a=>?_)
 ·refine qb<|U J ?_
  obtain ⟨m,d,a⟩:=q7 a
  refine qx 3 (fun A st=>∃ (n o : V),st = A [(18,qd m),(17,o),(16,n)]) ?_ ?_
  ·refine qw J J d (fun d=>?_) (fun d=>?_)
   ·refine qa J<|O (qd true) J<|q8 ?_
    obtain rfl:=qc d
    exact ⟨_,_,J⟩
   refine U J<|O (qd b) J<|q8 ?_
   obtain rfl:=qc d
   exact ⟨_,_,J⟩
  rintro _ ⟨n,o,rfl⟩
  refine q9 J<|qn ?_
  obtain rfl:=qc a
  exact qz (qd m) J
 refine qj<|qb<|U J ?_
 obtain ⟨p,f,a⟩:=q7 a
 refine qx 4 (fun A st=>∃ (q s t : V),st = A [(23,qd p),(22,t),(21,s),(20,q)]) ?_ ?_
 ·refine qw J J f (fun f=>?_) (fun f=>?_)
  ·refine U J<|O (qd (!b)) J<|O (qd (!b)) J<|q8 ?_
   obtain rfl:=qc f
   exact ⟨_,_,_,J⟩
  refine qa J<|qa J<|O (qd false) J<|q8 ?_
  obtain rfl:=qc f
  exact ⟨_,_,_,J⟩
 rintro _ ⟨q,s,t,rfl⟩
 refine q9 J<|qn ?_
 obtain rfl:=qc a
 exact qz (qd p) J
end Go.Proofs.YtjjmcdlnadkjbaaGreat
