/- W_Allb -/
import Derived.Test.YtlchefooafpdlaaGreatK15
namespace Go.Proofs.YtlchefooafpdlaaGreat
open Go Go.Am Go.Sh
set_option maxHeartbeats 8000000
set_option maxRecDepth 100000
theorem qv9 (q1 : qh→qh→Option Int) (q1F : FuncId) (q1C : List DV) (q1Ok : ∀ (x0 : qh) (x1 : qh) (r : Int),q1 x0 x1 = some r→Pure Tryz.prog tab q1F ([.agg [G x0.at_,G x0.list_,G x0.by_],.agg [G x1.at_,G x1.list_,G x1.by_]] ++ q1C) (G r)) (j : List qh) (b : Int) (s : Int) (k : Int) (r : Int × Bool × List qh) (a : q8h q1 j b s k = some r) : Qq Tryz.prog tab 210 [.hs 0 3 0 j.length,q6 b,q6 s,q6 k,.d (.fn q1F q1C)] [(0,.dat 3 (j.map Q2))] 1 (.d (.tup [G r.1,.bool r.2.1])) [(0,.dat 3 (r.2.2.map Q2))] 1:=by
 unfold q8h at a
 refine Qx Tryz.func210 J (by kernel_rfl) (by kernel_rfl) J<|qb<|q9 J<|q9 J<|q8<|qe<|Q4 [Qd 0,q0,Qd 0,q0,qo 0,q0,q0,q0,qo 0,q0,q0,q0,q0,q0,q0,q0] (by kernel_rfl)<|U J<|U J<|U J<|U J<|U J<|U J ?_
 obtain ⟨f,bd,a⟩:=q7 a
 refine qq bd J J<|qx (.d (.agg [G f.at_,G f.list_,G f.by_])) bd J<|U J<|U J ?_
 obtain ⟨g,be,a⟩:=q7 a
 refine qq be J J<|qx (.d (.agg [G g.at_,G g.list_,G g.by_])) be J ?_
 obtain ⟨gd,bf,a⟩:=q7 a
 refine qq bf J J<|Qk (ds:=[G f.at_,G f.list_,G f.by_]) f bf J J J J J J J J (leb J) J ?_
 obtain ⟨ge,bg,a⟩:=q7 a
 refine qq bg (by simp) J<|Qk (ds:=[G g.at_,G g.list_,G g.by_]) g bg J J J J J J J J (leb J) J<|qp<|U J<|O (.d (G (w64 (b + 1)))) J<|U J<|O (.d (G (w64 (s - 1)))) J<|q9 J<|q9 J<|q8<|qe ?_
 obtain ⟨bh,fq,a⟩:=q7 a
 refine Qb (fun l=>l = bh) (fun (l : Int)=>⟨[(0,.hs 0 3 0 ((j.set b.toNat f).set k.toNat g).length),(1,q6 b),(4,.d (.fn q1F q1C)),(12,q6 l),(13,.d (G (w64 (s - 1))))],[(0,.dat 3 (((j.set b.toNat f).set k.toNat g).map Q2))],1⟩) (by simp) ?_ ?_
 ·refine Q7 (q8i s j b f k g q1) (fun (av : Int)=>⟨[(0,.hs 0 3 0 ((j.set b.toNat f).set k.toNat g).length),(1,q6 b),(4,.d (.fn q1F q1C)),(12,q6 av),(13,.d (G (w64 (s - 1))))],[(0,.dat 3 (((j.set b.toNat f).set k.toNat g).map Q2))],1⟩) (w64 (b + 1)) bh fq (wkE [] [] [] J ⟨⟨_,J,Qp (by simp) J (by decide) (ltd J)⟩,⟨_,J,.d (.refl _)⟩,⟨_,J,.d (.refl _)⟩,⟨_,J,.d (.refl _)⟩,⟨_,J,.d (.refl _)⟩,trivial⟩ ⟨⟨ltd J,.inr ⟨by decide,_,J,.dat _ _⟩⟩,trivial⟩) ?_
  intro av gf t
  unfold q8i at t
  refine qe<|qe<|Q4 [q0,q0,q0,qo 0,q0,q0,q0,qo 0,q0,q0,q0,q0,q0,q0,q0,q0] (by kernel_rfl)<|U J<|U J<|O (.d (.bool (decide (av≤(w64 (s - 1)))))) J ?_
  obtain ⟨fr,m,t⟩:=q7 t
  refine Q0 13 (fun A st=>∃ (bi bj bk bl bm bn bo bp bq br bs bt : V),st = A [(47,qd fr),(46,bt),(45,bs),(44,br),(43,bq),(42,bp),(41,bo),(40,bn),(39,bm),(38,bl),(37,bk),(36,bj),(35,bi)]) ?_ ?_
  ·refine qy J J m (fun m=>?_) (fun m=>?_)
   ·refine U J<|U J<|U J ?_
    obtain ⟨ab,bu,m⟩:=q7 m
    refine qq bu J J<|qx (.d (.agg [G ab.at_,G ab.list_,G ab.by_])) bu J<|U J<|U J ?_
    obtain ⟨ac,bv,m⟩:=q7 m
    refine qq bv J J<|qx (.d (.agg [G ac.at_,G ac.list_,G ac.by_])) bv J ?_
    obtain ⟨bb,fs,m⟩:=q7 m
    refine Kz [.d (.agg [G ab.at_,G ab.list_,G ab.by_]),.d (.agg [G ac.at_,G ac.list_,G ac.by_])] (q1Ok ab ac bb fs) J J J (.inl J)<|O (.d (.bool (decide (bb < 0)))) J<|O (.d (.bool (decide (bb < 0)))) J<|q8 ?_
    obtain rfl:=qc m
    exact ⟨_,_,_,_,_,_,_,_,_,_,_,_,J⟩
   refine qa J<|qa J<|qa J<|qa J<|qa J<|qa J<|qa J<|qa J<|qa J<|qa J<|qa J<|O (qd false) J<|q8 ?_
   obtain rfl:=qc m
   exact ⟨_,_,_,_,_,_,_,_,_,_,_,_,J⟩
  rintro _ ⟨bi,bj,bk,bl,bm,bn,bo,bp,bq,br,bs,bt,rfl⟩
  refine q8 ?_
  refine qk J t (fun _ t=>?_) (fun _ t=>?_)
  ·refine ql<|qu<|qs<|U J<|O (.d (G (w64 (av + 1)))) J<|q9 J<|qr<|Q9<|Qa ?_
   exact ⟨_,(Option.some.inj t).symm,wkA [] [] []⟩
  refine Q1 ?_
  refine ⟨_,(Option.some.inj t).symm,fun hm=>?_⟩
  subst hm
  exact ⟨_,J,wkA [] [] []⟩
 intro l hb
 subst hb
 refine qe ?_
 obtain ⟨bw,ft,a⟩:=q7 a
 refine Qb (fun u=>u = bw) (fun (u : Int)=>⟨[(0,.hs 0 3 0 ((j.set b.toNat f).set k.toNat g).length),(1,q6 b),(4,.d (.fn q1F q1C)),(12,q6 l),(13,q6 u)],[(0,.dat 3 (((j.set b.toNat f).set k.toNat g).map Q2))],1⟩) (by simp) ?_ ?_
 ·refine Q7 (q8j l j b f k g q1) (fun (aw : Int)=>⟨[(0,.hs 0 3 0 ((j.set b.toNat f).set k.toNat g).length),(1,q6 b),(4,.d (.fn q1F q1C)),(12,q6 l),(13,q6 aw)],[(0,.dat 3 (((j.set b.toNat f).set k.toNat g).map Q2))],1⟩) (w64 (s - 1)) bw ft (wkA [] [] []) ?_
  intro aw gg v
  unfold q8j at v
  refine qe<|qe<|Q4 [q0,q0,q0,q0,qo 0,q0,q0,q0,qo 0,q0,q0,q0,q0,q0,q0,q0,q0] (by kernel_rfl)<|U J<|U J<|O (.d (.bool (decide (l≤aw)))) J ?_
  obtain ⟨fu,n,v⟩:=q7 v
  refine Q0 14 (fun A st=>∃ (bz ca cb cc cd ce cf cg ch ci cj ck cl : V),st = A [(66,qd fu),(65,cl),(64,ck),(63,cj),(62,ci),(61,ch),(60,cg),(59,cf),(58,ce),(57,cd),(56,cc),(55,cb),(54,ca),(53,bz)]) ?_ ?_
  ·refine qy J J n (fun n=>?_) (fun n=>?_)
   ·refine U J<|U J<|U J ?_
    obtain ⟨ad,cm,n⟩:=q7 n
    refine qq cm J J<|qx (.d (.agg [G ad.at_,G ad.list_,G ad.by_])) cm J<|U J<|U J ?_
    obtain ⟨ae,cn,n⟩:=q7 n
    refine qq cn J J<|qx (.d (.agg [G ae.at_,G ae.list_,G ae.by_])) cn J ?_
    obtain ⟨ax,fv,n⟩:=q7 n
    refine Kz [.d (.agg [G ad.at_,G ad.list_,G ad.by_]),.d (.agg [G ae.at_,G ae.list_,G ae.by_])] (q1Ok ad ae ax fv) J J J (.inl J)<|O (.d (.bool (decide (ax < 0)))) J<|O (.d (.bool (!(decide (ax < 0))))) J<|O (.d (.bool (!(decide (ax < 0))))) J<|q8 ?_
    obtain rfl:=qc n
    exact ⟨_,_,_,_,_,_,_,_,_,_,_,_,_,J⟩
   refine qa J<|qa J<|qa J<|qa J<|qa J<|qa J<|qa J<|qa J<|qa J<|qa J<|qa J<|qa J<|O (qd false) J<|q8 ?_
   obtain rfl:=qc n
   exact ⟨_,_,_,_,_,_,_,_,_,_,_,_,_,J⟩
  rintro _ ⟨bz,ca,cb,cc,cd,ce,cf,cg,ch,ci,cj,ck,cl,rfl⟩
  refine q8 ?_
  refine qk J v (fun _ v=>?_) (fun _ v=>?_)
  ·refine ql<|qu<|qs<|U J<|O (.d (G (w64 (aw - 1)))) J<|q9 J<|qr<|Q9<|Qa ?_
   exact ⟨_,(Option.some.inj v).symm,wkA [] [] []⟩
  refine Q1 ?_
  refine ⟨_,(Option.some.inj v).symm,fun hm=>?_⟩
  subst hm
  exact ⟨_,J,wkA [] [] []⟩
 intro u hb
 subst hb
 refine qe<|qb<|U J<|U J<|O (.d (.bool (decide (l > u)))) J<|q8 ?_
 refine qk J a (fun _ a=>?_) (fun _ a=>?_)
 ·refine qe<|Q4 [Qd 0,q0,Qd 0,q0,qo 0,q0,q0,q0,qo 0,q0,q0,q0,q0,q0,q0,q0] (by kernel_rfl)<|U J<|U J<|U J<|U J<|U J<|U J ?_
  obtain ⟨af,co,a⟩:=q7 a
  refine qq co J J<|qx (.d (.agg [G af.at_,G af.list_,G af.by_])) co J<|U J<|U J ?_
  obtain ⟨ag,cp,a⟩:=q7 a
  refine qq cp J J<|qx (.d (.agg [G ag.at_,G ag.list_,G ag.by_])) cp J ?_
  obtain ⟨gh,cq,a⟩:=q7 a
  refine qq cq J J<|Qk (ds:=[G af.at_,G af.list_,G af.by_]) af cq J J J J J J J J (leb J) J ?_
  obtain ⟨gi,cr,a⟩:=q7 a
  refine qq cr (by simp) J<|Qk (ds:=[G ag.at_,G ag.list_,G ag.by_]) ag cr J J J J J J J J (leb J) J<|qp<|U J<|q9 J<|q9 J<|qn ?_
  obtain rfl:=qc a
  exact ⟨.inr J,_,J,wkA [] [] []⟩
 refine ql<|qe<|Q4 [Qd 0,q0,Qd 0,q0,qo 0,q0,q0,q0,qo 0,q0,q0,q0,q0,q0,q0,q0] (by kernel_rfl)<|U J<|U J<|U J<|U J<|U J<|U J ?_
 obtain ⟨w,cs,a⟩:=q7 a
 refine qq cs J J<|qx (.d (.agg [G w.at_,G w.list_,G w.by_])) cs J<|U J<|U J ?_
 obtain ⟨x,ct,a⟩:=q7 a
 refine qq ct J J<|qx (.d (.agg [G x.at_,G x.list_,G x.by_])) ct J ?_
 obtain ⟨gj,cu,a⟩:=q7 a
 refine qq cu J J<|Qk (ds:=[G w.at_,G w.list_,G w.by_]) w cu J J J J J J J J (leb J) J ?_
 obtain ⟨gk,cv,a⟩:=q7 a
 refine qq cv (by simp) J<|Qk (ds:=[G x.at_,G x.list_,G x.by_]) x cv J J J J J J J J (leb J) J<|qp<|U J<|O (.d (G (w64 (l + 1)))) J<|q9 J<|qp<|U J<|O (.d (G (w64 (u - 1)))) J<|q9 J<|q8<|qe ?_
 obtain ⟨cw,fw,a⟩:=q7 a
 refine Qb (fun ap=>ap = cw) (fun (ap : Int × List qh)=>⟨[(0,.hs 0 3 0 ap.2.length),(1,q6 b),(13,q6 ap.1)],[(0,.dat 3 (ap.2.map Q2))],1⟩) (by simp) ?_ ?_
 ·refine Q7 (q8k b q1) (fun (c : Int × Int × List qh)=>⟨[(0,.hs 0 3 0 c.2.2.length),(1,q6 b),(4,.d (.fn q1F q1C)),(12,q6 c.1),(13,q6 c.2.1)],[(0,.dat 3 (c.2.2.map Q2))],1⟩) (w64 (l + 1),w64 (u - 1),(((j.set b.toNat f).set k.toNat g).set l.toNat w).set u.toNat x) cw fw (wkE [] [] [] J ⟨⟨_,J,Qp (by simp) J (by decide) (ltd J)⟩,⟨_,J,.d (.refl _)⟩,⟨_,J,.d (.refl _)⟩,⟨_,J,.d (.refl _)⟩,⟨_,J,.d (.refl _)⟩,trivial⟩ ⟨⟨ltd J,.inr ⟨by decide,_,J,.dat _ _⟩⟩,trivial⟩) ?_
  intro c gl h
  unfold q8k at h
  refine qu<|qe ?_
  obtain ⟨cx,fx,h⟩:=q7 h
  refine Qb (fun q=>q = cx) (fun (q : Int)=>⟨[(0,.hs 0 3 0 c.2.2.length),(1,q6 b),(4,.d (.fn q1F q1C)),(12,q6 q),(13,q6 c.2.1)],[(0,.dat 3 (c.2.2.map Q2))],1⟩) (by simp) ?_ ?_
  ·refine Q7 (q8l c b q1) (fun (ay : Int)=>⟨[(0,.hs 0 3 0 c.2.2.length),(1,q6 b),(4,.d (.fn q1F q1C)),(12,q6 ay),(13,q6 c.2.1)],[(0,.dat 3 (c.2.2.map Q2))],1⟩) c.1 cx fx (wkA [] [] []) ?_
   intro ay gm y
   unfold q8l at y
   refine qe<|qe<|Q4 [q0,q0,q0,qo 0,q0,q0,q0,qo 0,q0,q0,q0,q0,q0,q0,q0,q0] (by kernel_rfl)<|U J<|U J<|O (.d (.bool (decide (ay≤c.2.1)))) J ?_
   obtain ⟨fy,o,y⟩:=q7 y
   refine Q0 13 (fun A st=>∃ (cy cz da dc dd de df dg dh dj dk dl : V),st = A [(120,qd fy),(119,dl),(118,dk),(117,dj),(116,dh),(115,dg),(114,df),(113,de),(112,dd),(111,dc),(110,da),(109,cz),(108,cy)]) ?_ ?_
   ·refine qy J J o (fun o=>?_) (fun o=>?_)
    ·refine U J<|U J<|U J ?_
     obtain ⟨ah,dm,o⟩:=q7 o
     refine qq dm J J<|qx (.d (.agg [G ah.at_,G ah.list_,G ah.by_])) dm J<|U J<|U J ?_
     obtain ⟨ai,dn,o⟩:=q7 o
     refine qq dn J J<|qx (.d (.agg [G ai.at_,G ai.list_,G ai.by_])) dn J ?_
     obtain ⟨bc,fz,o⟩:=q7 o
     refine Kz [.d (.agg [G ah.at_,G ah.list_,G ah.by_]),.d (.agg [G ai.at_,G ai.list_,G ai.by_])] (q1Ok ah ai bc fz) J J J (.inl J)<|O (.d (.bool (decide (bc < 0)))) J<|O (.d (.bool (decide (bc < 0)))) J<|q8 ?_
     obtain rfl:=qc o
     exact ⟨_,_,_,_,_,_,_,_,_,_,_,_,J⟩
    refine qa J<|qa J<|qa J<|qa J<|qa J<|qa J<|qa J<|qa J<|qa J<|qa J<|qa J<|O (qd false) J<|q8 ?_
    obtain rfl:=qc o
    exact ⟨_,_,_,_,_,_,_,_,_,_,_,_,J⟩
   rintro _ ⟨cy,cz,da,dc,dd,de,df,dg,dh,dj,dk,dl,rfl⟩
   refine q8 ?_
   refine qk J y (fun _ y=>?_) (fun _ y=>?_)
   ·refine ql<|qu<|qs<|U J<|O (.d (G (w64 (ay + 1)))) J<|q9 J<|qr<|Q9<|Qa ?_
    exact ⟨_,(Option.some.inj y).symm,wkA [] [] []⟩
   refine Q1 ?_
   refine ⟨_,(Option.some.inj y).symm,fun hm=>?_⟩
   subst hm
   exact ⟨_,J,wkA [] [] []⟩
  intro q hb
  subst hb
  refine qe ?_
  obtain ⟨dp,ga,h⟩:=q7 h
  refine Qb (fun aq=>aq = dp) (fun (aq : Int)=>⟨[(0,.hs 0 3 0 c.2.2.length),(1,q6 b),(4,.d (.fn q1F q1C)),(12,q6 q),(13,q6 aq)],[(0,.dat 3 (c.2.2.map Q2))],1⟩) (by simp) ?_ ?_
  ·refine Q7 (q8m q c b q1) (fun (az : Int)=>⟨[(0,.hs 0 3 0 c.2.2.length),(1,q6 b),(4,.d (.fn q1F q1C)),(12,q6 q),(13,q6 az)],[(0,.dat 3 (c.2.2.map Q2))],1⟩) c.2.1 dp ga (wkA [] [] []) ?_
   intro az gn z
   unfold q8m at z
   refine qe<|qe<|Q4 [q0,q0,q0,q0,qo 0,q0,q0,q0,qo 0,q0,q0,q0,q0,q0,q0,q0,q0] (by kernel_rfl)<|U J<|U J<|O (.d (.bool (decide (q≤az)))) J ?_
   obtain ⟨gb,p,z⟩:=q7 z
   refine Q0 14 (fun A st=>∃ (dq dr dt du dv dw dx dy dz fa fb fc fd : V),st = A [(139,qd gb),(138,fd),(137,fc),(136,fb),(135,fa),(134,dz),(133,dy),(132,dx),(131,dw),(130,dv),(129,du),(128,dt),(127,dr),(126,dq)]) ?_ ?_
   ·refine qy J J p (fun p=>?_) (fun p=>?_)
    ·refine U J<|U J<|U J ?_
     obtain ⟨aj,fe,p⟩:=q7 p
     refine qq fe J J<|qx (.d (.agg [G aj.at_,G aj.list_,G aj.by_])) fe J<|U J<|U J ?_
     obtain ⟨ak,ff,p⟩:=q7 p
     refine qq ff J J<|qx (.d (.agg [G ak.at_,G ak.list_,G ak.by_])) ff J ?_
     obtain ⟨ba,gc,p⟩:=q7 p
     refine Kz [.d (.agg [G aj.at_,G aj.list_,G aj.by_]),.d (.agg [G ak.at_,G ak.list_,G ak.by_])] (q1Ok aj ak ba gc) J J J (.inl J)<|O (.d (.bool (decide (ba < 0)))) J<|O (.d (.bool (!(decide (ba < 0))))) J<|O (.d (.bool (!(decide (ba < 0))))) J<|q8 ?_
     obtain rfl:=qc p
     exact ⟨_,_,_,_,_,_,_,_,_,_,_,_,_,J⟩
    refine qa J<|qa J<|qa J<|qa J<|qa J<|qa J<|qa J<|qa J<|qa J<|qa J<|qa J<|qa J<|O (qd false) J<|q8 ?_
    obtain rfl:=qc p
    exact ⟨_,_,_,_,_,_,_,_,_,_,_,_,_,J⟩
   rintro _ ⟨dq,dr,dt,du,dv,dw,dx,dy,dz,fa,fb,fc,fd,rfl⟩
   refine q8 ?_
   refine qk J z (fun _ z=>?_) (fun _ z=>?_)
   ·refine ql<|qu<|qs<|U J<|O (.d (G (w64 (az - 1)))) J<|q9 J<|qr<|Q9<|Qa ?_
    exact ⟨_,(Option.some.inj z).symm,wkA [] [] []⟩
   refine Q1 ?_
   refine ⟨_,(Option.some.inj z).symm,fun hm=>?_⟩
   subst hm
   exact ⟨_,J,wkA [] [] []⟩
  intro aq hb
  subst hb
  refine qe<|qb<|U J<|U J<|O (.d (.bool (decide (q > aq)))) J<|q8 ?_
  refine qk J h (fun _ h=>?_) (fun _ h=>?_)
  ·refine Q1 ?_
   refine ⟨_,(Option.some.inj h).symm,fun hm=>?_⟩
   subst hm
   exact ⟨_,J,wkA [] [] []⟩
  refine ql<|qe<|Q4 [Qd 0,q0,Qd 0,q0,qo 0,q0,q0,q0,qo 0,q0,q0,q0,q0,q0,q0,q0] (by kernel_rfl)<|U J<|U J<|U J<|U J<|U J<|U J ?_
  obtain ⟨al,fg,h⟩:=q7 h
  refine qq fg J J<|qx (.d (.agg [G al.at_,G al.list_,G al.by_])) fg J<|U J<|U J ?_
  obtain ⟨am,fh,h⟩:=q7 h
  refine qq fh J J<|qx (.d (.agg [G am.at_,G am.list_,G am.by_])) fh J ?_
  obtain ⟨go,fi,h⟩:=q7 h
  refine qq fi J J<|Qk (ds:=[G al.at_,G al.list_,G al.by_]) al fi J J J J J J J J (leb J) J ?_
  obtain ⟨gp,fj,h⟩:=q7 h
  refine qq fj (by simp) J<|Qk (ds:=[G am.at_,G am.list_,G am.by_]) am fj J J J J J J J J (leb J) J<|qp<|U J<|O (.d (G (w64 (q + 1)))) J<|q9 J<|q8<|qs<|U J<|O (.d (G (w64 (aq - 1)))) J<|q9 J<|qr<|Q9<|Qa ?_
  exact ⟨_,(Option.some.inj h).symm,wkE [] [] [] J ⟨⟨_,J,Qp (by simp) J (by decide) (ltd J)⟩,⟨_,J,.d (.refl _)⟩,⟨_,J,.d (.refl _)⟩,⟨_,J,.d (.refl _)⟩,⟨_,J,.d (.refl _)⟩,trivial⟩ ⟨⟨ltd J,.inr ⟨by decide,_,J,.dat _ _⟩⟩,trivial⟩⟩
 intro ap hb
 subst hb
 refine qe<|Q4 [Qd 0,q0,Qd 0,q0,qo 0,q0,q0,q0,qo 0,q0,q0,q0,q0,q0,q0,q0] (by kernel_rfl)<|U J<|U J<|U J<|U J<|U J<|U J ?_
 obtain ⟨an,fk,a⟩:=q7 a
 refine qq fk J J<|qx (.d (.agg [G an.at_,G an.list_,G an.by_])) fk J<|U J<|U J ?_
 obtain ⟨ao,fl,a⟩:=q7 a
 refine qq fl J J<|qx (.d (.agg [G ao.at_,G ao.list_,G ao.by_])) fl J ?_
 obtain ⟨gq,fm,a⟩:=q7 a
 refine qq fm J J<|Qk (ds:=[G an.at_,G an.list_,G an.by_]) an fm J J J J J J J J (leb J) J ?_
 obtain ⟨gr,fo,a⟩:=q7 a
 refine qq fo (by simp) J<|Qk (ds:=[G ao.at_,G ao.list_,G ao.by_]) ao fo J J J J J J J J (leb J) J<|qp<|U J<|q9 J<|q9 J<|qn ?_
 obtain rfl:=qc a
 exact ⟨.inr J,_,J,wkA [] [] []⟩
theorem quz (s : qh→qh→Option Int) (q1F : FuncId) (q1C : List DV) (_q1Ok : ∀ (o : qh) (p : qh) (r : Int),s o p = some r→Pure Tryz.prog tab q1F ([.agg [G o.at_,G o.list_,G o.by_],.agg [G p.at_,G p.list_,G p.by_]] ++ q1C) (G r)) (q : List qh) (a : Int) (b : Int) (r : List qh) (g : q84 s q a b = some r) : Qq Tryz.prog tab 205 [.hs 0 3 0 q.length,q6 a,q6 b,.d (.fn q1F q1C)] [(0,.dat 3 (q.map Q2))] 1 (.d (.tup [])) [(0,.dat 3 (r.map Q2))] 1:=by
 unfold q84 at g
 refine Qx Tryz.func205 J (by kernel_rfl) (by kernel_rfl) J<|qb<|U J<|U J<|O (.d (G (w64 (b - a)))) J<|q9 J<|qp<|U J<|O (.d (.bool (decide ((w64 (b - a)) ≥ 8)))) J<|q8 ?_
 refine qk J g (fun _ g=>?_) (fun _ g=>?_)
 ·refine qb<|U J<|O (.d (.int .u64 (IntKind.wrap .u64 (w64 (b - a))))) J<|Qo J J<|Q8 1 (.dat 1 [[.int .u64 (IntKind.wrap .u64 (w64 (b - a)))]]) J<|qp<|U J ?_
  obtain ⟨h,x,g⟩:=q7 g
  refine qt (qk3 (w64 (b - a)) h x) J<|q9 J<|qp<|U J<|U J<|O (.d (G (w64 (Int.tdiv (w64 (b - a)) 4)))) J<|O (.d (G (w64 ((w64 (Int.tdiv (w64 (b - a)) 4)) * 2)))) J<|O (.d (G (w64 (a + (w64 ((w64 (Int.tdiv (w64 (b - a)) 4)) * 2)))))) J<|O (.d (G (w64 ((w64 (a + (w64 ((w64 (Int.tdiv (w64 (b - a)) 4)) * 2)))) - 1)))) J<|q9 J<|q8 ?_
  obtain ⟨y,z,g⟩:=q7 g
  refine qu<|Q7 (q85 a b h) (fun (f : Int × List qh × Int)=>⟨[(0,.hs 0 3 0 f.2.1.length),(1,q6 a),(8,.d (G (w64 (b - a)))),(9,.ref 1 1 0 0),(10,.d (.int .u64 h)),(11,q6 f.1)],[(0,.dat 3 (f.2.1.map Q2)),(1,.dat 1 [[.int .u64 f.2.2]])],2⟩) (w64 ((w64 (a + (w64 ((w64 (Int.tdiv (w64 (b - a)) 4)) * 2)))) - 1),q,IntKind.wrap .u64 (w64 (b - a))) y z (wkA [(1,1)] [] []) ?_
  intro f ac c
  unfold q85 at c
  refine qe<|qb<|U J<|U J<|U J<|O (.d (G (w64 (Int.tdiv (w64 (b - a)) 4)))) J<|O (.d (G (w64 ((w64 (Int.tdiv (w64 (b - a)) 4)) * 2)))) J<|O (.d (G (w64 (a + (w64 ((w64 (Int.tdiv (w64 (b - a)) 4)) * 2)))))) J<|O (.d (G (w64 ((w64 (a + (w64 ((w64 (Int.tdiv (w64 (b - a)) 4)) * 2)))) + 1)))) J<|O (.d (.bool (decide (f.1≤(w64 ((w64 (a + (w64 ((w64 (Int.tdiv (w64 (b - a)) 4)) * 2)))) + 1)))))) J<|q8 ?_
  refine qk J c (fun _ c=>?_) (fun _ c=>?_)
  ·refine ql<|qe<|qu<|qb ?_
   obtain ⟨j,aa,c⟩:=q7 c
   refine Qr [(0,1)] [(0,1),(1,0)] [.ref 1 1 0 0] (.d (.int .u64 j)) 1 [(1,.dat 1 [[.int .u64 j]]),(0,.dat 3 (f.2.1.map Q2))] 2 (qk6 f.2.2 j aa)<|U J<|O (.d (.int .u64 (IntKind.wrap .u64 (h - 1)))) J<|O (.d (.int .u64 (andI .u64 j (IntKind.wrap .u64 (h - 1))))) J<|O (.d (G (w64 (andI .u64 j (IntKind.wrap .u64 (h - 1)))))) J<|q9 J<|q8<|qe<|qb<|U J<|U J<|O (.d (.bool (decide ((w64 (andI .u64 j (IntKind.wrap .u64 (h - 1)))) ≥ (w64 (b - a)))))) J<|q8 ?_
   obtain ⟨ab,n,c⟩:=q7 c
   refine Y2 (fun m=>m = ab) (fun (m : Int)=>⟨[(0,.hs 0 3 0 f.2.1.length),(1,q6 a),(8,.d (G (w64 (b - a)))),(9,.ref 1 1 0 0),(10,.d (.int .u64 h)),(11,q6 f.1),(12,q6 m)],[(0,.dat 3 (f.2.1.map Q2)),(1,.dat 1 [[.int .u64 j]])],2⟩) (by simp) ?_ ?_
   ·refine qk J n (fun _ n=>?_) (fun _ n=>?_)
    ·refine qs<|U J<|U J<|O (.d (G (w64 ((w64 (andI .u64 j (IntKind.wrap .u64 (h - 1)))) - (w64 (b - a)))))) J<|q9 J<|qr ?_
     obtain rfl:=qc n
     exact ⟨_,J,wkA [(1,1)] [] []⟩
    refine ql<|Qa ?_
    obtain rfl:=qc n
    exact ⟨_,J,wkA [(1,1)] [] []⟩
   intro m hb
   subst hb
   refine Q4 [Qd 0,q0,Qd 0,q0,qo 0,q0,q0,q0,qo 0,q0,q0,q0,q0,q0,q0,q0,q0,q0,q0,q0] (by kernel_rfl)<|U J<|U J<|U J<|U J<|U J<|O (.d (G (w64 (a + m)))) J<|U J<|U J<|U J<|O (.d (G (w64 (a + m)))) J ?_
   obtain ⟨k,t,c⟩:=q7 c
   refine qq t J J<|qx (.d (.agg [G k.at_,G k.list_,G k.by_])) t J<|U J<|U J ?_
   obtain ⟨l,u,c⟩:=q7 c
   refine qq u J J<|qx (.d (.agg [G l.at_,G l.list_,G l.by_])) u J ?_
   obtain ⟨ad,v,c⟩:=q7 c
   refine qq v J J<|Qk (ds:=[G k.at_,G k.list_,G k.by_]) k v J J J J J J J J (leb J) J ?_
   obtain ⟨ae,w,c⟩:=q7 c
   refine qq w (by simp) J<|Qk (ds:=[G l.at_,G l.list_,G l.by_]) l w J J J J J J J J (leb J) J<|qr<|Q9<|qs<|U J<|O (.d (G (w64 (f.1 + 1)))) J<|q9 J<|qr ?_
   exact ⟨_,(Option.some.inj c).symm,wkE [(1,1)] [] [] J ⟨⟨_,J,Qp (by simp) J (by decide) (ltd J)⟩,⟨_,J,.d (.refl _)⟩,⟨_,J,.d (.refl _)⟩,⟨_,J,.ref J (by decide) (ltd J)⟩,⟨_,J,.d (.refl _)⟩,⟨_,J,.d (.refl _)⟩,trivial⟩ ⟨⟨ltd J,.inr ⟨by decide,_,J,.dat _ _⟩⟩,⟨ltd J,.inr ⟨by decide,_,J,.dat _ _⟩⟩,trivial⟩⟩
  refine Q1 ?_
  refine ⟨_,(Option.some.inj c).symm,fun hm=>?_⟩
  subst hm
  obtain rfl:=qc g
  exact ⟨.inl J,_,J,wkA [] [] []⟩
 refine ql<|Qa ?_
 obtain rfl:=qc g
 exact ⟨.inl J,_,J,wkA [] [] []⟩
theorem qvd (rec : List qh→Int→Int→Int→Option (List qh)) (j : qh→qh→Option Int) (q1F : FuncId) (q1C : List DV) (q1Ok : ∀ (z : qh) (x1 : qh) (r : Int),j z x1 = some r→Pure Tryz.prog tab q1F ([.agg [G z.at_,G z.list_,G z.by_],.agg [G x1.at_,G x1.list_,G x1.by_]] ++ q1C) (G r)) (hrec : ∀ (o : List qh) (s : Int) (t : Int) (u : Int) (r : List qh),rec o s t u = some r→Qq Tryz.prog tab 187 [.hs 0 3 0 o.length,q6 s,q6 t,q6 u,.d (.fn q1F q1C)] [(0,.dat 3 (o.map Q2))] 1 (.d (.tup [])) [(0,.dat 3 (r.map Q2))] 1) (o : List qh) (s : Int) (t : Int) (u : Int) (r : List qh) (v : q64 rec j o s t u = some r) : Qq Tryz.prog tab 187 [.hs 0 3 0 o.length,q6 s,q6 t,q6 u,.d (.fn q1F q1C)] [(0,.dat 3 (o.map Q2))] 1 (.d (.tup [])) [(0,.dat 3 (r.map Q2))] 1:=by
 unfold q64 at v
 refine Qx Tryz.func187 J (by kernel_rfl) (by kernel_rfl) J<|qb<|q9 J<|qp<|q9 J<|q8 ?_
 obtain ⟨bi,bj,v⟩:=q7 v
 refine qu<|Q7 (q63 j rec) (fun (a : Int × Int × Int × Bool × Bool × List qh)=>⟨[(0,.hs 0 3 0 a.2.2.2.2.2.length),(1,q6 a.1),(2,q6 a.2.1),(3,q6 a.2.2.1),(4,.d (.fn q1F q1C)),(10,qd a.2.2.2.1),(11,qd a.2.2.2.2.1)],[(0,.dat 3 (a.2.2.2.2.2.map Q2))],1⟩) (s,t,u,true,true,o) bi bj (wkA [] [] []) ?_
 intro a cs b
 unfold q63 at b
 refine qu<|qb<|U J<|U J<|O (.d (G (w64 (a.2.1 - a.1)))) J<|q9 J<|q8<|qe<|qb<|U J<|O (.d (.bool (decide ((w64 (a.2.1 - a.1))≤12)))) J<|q8 ?_
 refine qk J b (fun _ b=>?_) (fun _ b=>?_)
 ·refine qb<|U J<|U J<|U J<|U J ?_
  obtain ⟨ah,bk,b⟩:=q7 b
  obtain ⟨ct,bl,b⟩:=q7 b
  have cu:=K5 bl
  refine Qr [(0,0)] [(0,0)] [.hs 0 3 0 a.2.2.2.2.2.length,q6 a.1,q6 a.2.1,.d (.fn q1F q1C)] (.d (.tup [])) 1 [(0,.dat 3 (ah.map Q2))] 1 (qv5 j q1F q1C q1Ok a.2.2.2.2.2 a.1 a.2.1 ah bk)<|qn ?_
  refine ⟨_,(Option.some.inj b).symm,fun hm=>?_⟩
  subst hm
  obtain rfl:=qc v
  exact ⟨.inr J,_,J,wkA [] [] []⟩
 refine ql<|qe<|qb<|U J<|O (qd (a.2.2.1 == 0)) J<|q8 ?_
 refine qk J b (fun _ b=>?_) (fun _ b=>?_)
 ·refine qb<|U J<|U J<|U J<|U J ?_
  obtain ⟨ai,bm,b⟩:=q7 b
  obtain ⟨cv,bn,b⟩:=q7 b
  have cw:=K5 bn
  refine Qr [(0,0)] [(0,0)] [.hs 0 3 0 a.2.2.2.2.2.length,q6 a.1,q6 a.2.1,.d (.fn q1F q1C)] (.d (.tup [])) 1 [(0,.dat 3 (ai.map Q2))] 1 (qv3 j q1F q1C q1Ok a.2.2.2.2.2 a.1 a.2.1 ai bm)<|qn ?_
  refine ⟨_,(Option.some.inj b).symm,fun hm=>?_⟩
  subst hm
  obtain rfl:=qc v
  exact ⟨.inr J,_,J,wkA [] [] []⟩
 refine ql<|qe<|qb<|U J<|O (qd (!a.2.2.2.1)) J<|q8 ?_
 obtain ⟨bo,m,b⟩:=q7 b
 refine Y2 (fun f=>f = bo) (fun (f : Int × List qh)=>⟨[(0,.hs 0 3 0 f.2.length),(1,q6 a.1),(2,q6 a.2.1),(3,q6 f.1),(4,.d (.fn q1F q1C)),(10,qd a.2.2.2.1),(11,qd a.2.2.2.2.1),(12,.d (G (w64 (a.2.1 - a.1))))],[(0,.dat 3 (f.2.map Q2))],1⟩) (by simp) ?_ ?_
 ·refine qk J m (fun _ m=>?_) (fun _ m=>?_)
  ·refine qb<|U J<|U J<|U J<|U J ?_
   obtain ⟨aj,bp,m⟩:=q7 m
   obtain ⟨cx,bq,m⟩:=q7 m
   have br:=K5 bq
   refine Qr [(0,0)] [(0,0)] [.hs 0 3 0 a.2.2.2.2.2.length,q6 a.1,q6 a.2.1,.d (.fn q1F q1C)] (.d (.tup [])) 1 [(0,.dat 3 (aj.map Q2))] 1 (quz j q1F q1C q1Ok a.2.2.2.2.2 a.1 a.2.1 aj bp)<|q8<|qs<|U J<|O (.d (G (w64 (a.2.2.1 - 1)))) J<|q9 J<|qr ?_
   obtain rfl:=qc m
   exact ⟨_,J,wkE [] [] [] J ⟨⟨_,J,Qp (by simp [br]) J (by decide) (ltd J)⟩,⟨_,J,.d (.refl _)⟩,⟨_,J,.d (.refl _)⟩,⟨_,J,.d (.refl _)⟩,⟨_,J,.d (.refl _)⟩,⟨_,J,.d (.refl _)⟩,⟨_,J,.d (.refl _)⟩,⟨_,J,.d (.refl _)⟩,trivial⟩ ⟨⟨ltd J,.inr ⟨by decide,_,J,.dat _ _⟩⟩,trivial⟩⟩
  refine ql<|Qa ?_
  obtain rfl:=qc m
  exact ⟨_,J,wkA [] [] []⟩
 intro f hb
 subst hb
 refine qb<|U J<|U J<|U J<|U J ?_
 obtain ⟨w,bs,b⟩:=q7 b
 refine q7c [.hs 0 3 0 f.2.length,q6 a.1,q6 a.2.1,.d (.fn q1F q1C)] (qv1 f.2 a.1 a.2.1 j q1F q1C q1Ok w bs) J J (J5 (Z9 J J) (J5 J (J5 J (J5 J J)))) (.inr J)<|U J<|O (q6 w.1) J<|O (q6 w.2) J<|q9 J<|q9 J<|q8<|qe<|qb<|U J<|O (qd (w.2 == 2)) J<|q8 ?_
 obtain ⟨bt,n,b⟩:=q7 b
 refine Y2 (fun g=>g = bt) (fun (g : Int × Int × List qh)=>⟨[(0,.hs 0 3 0 g.2.2.length),(1,q6 a.1),(2,q6 a.2.1),(3,q6 f.1),(4,.d (.fn q1F q1C)),(10,qd a.2.2.2.1),(11,qd a.2.2.2.2.1),(12,.d (G (w64 (a.2.1 - a.1)))),(13,q6 g.1),(14,q6 g.2.1)],[(0,.dat 3 (g.2.2.map Q2))],1⟩) (by simp) ?_ ?_
 ·refine qk J n (fun _ n=>?_) (fun _ n=>?_)
  ·refine qb<|U J<|U J<|U J<|U J ?_
   obtain ⟨ak,bu,n⟩:=q7 n
   obtain ⟨cy,bv,n⟩:=q7 n
   have bw:=K5 bv
   refine Qr [(0,0)] [(0,0)] [.hs 0 3 0 f.2.length,q6 a.1,q6 a.2.1,.d (.fn q1F q1C)] (.d (.tup [])) 1 [(0,.dat 3 (ak.map Q2))] 1 (qvh j q1F q1C q1Ok f.2 a.1 a.2.1 ak bu)<|qp<|U J<|O (.d (G (w64 (a.2.1 - 1)))) J<|U J<|U J<|O (.d (G (w64 (w.1 - a.1)))) J<|O (.d (G (w64 ((w64 (a.2.1 - 1)) - (w64 (w.1 - a.1)))))) J<|q9 J<|q8<|qs<|q9 J<|qr ?_
   obtain rfl:=qc n
   exact ⟨_,J,wkE [] [] [] J ⟨⟨_,J,Qp (by simp [bw]) J (by decide) (ltd J)⟩,⟨_,J,.d (.refl _)⟩,⟨_,J,.d (.refl _)⟩,⟨_,J,.d (.refl _)⟩,⟨_,J,.d (.refl _)⟩,⟨_,J,.d (.refl _)⟩,⟨_,J,.d (.refl _)⟩,⟨_,J,.d (.refl _)⟩,⟨_,J,.d (.refl _)⟩,⟨_,J,.d (.refl _)⟩,trivial⟩ ⟨⟨ltd J,.inr ⟨by decide,_,J,.dat _ _⟩⟩,trivial⟩⟩
  refine ql<|Qa ?_
  obtain rfl:=qc n
  exact ⟨_,J,wkA [] [] []⟩
 intro g hb
 subst hb
 refine qe<|qb<|U J ?_
 obtain ⟨bz,x,b⟩:=q7 b
 refine Q0 3 (fun A st=>∃ (al am : V),st = A [(71,qd bz),(70,am),(69,al)]) ?_ ?_
 ·refine qy J J x (fun x=>?_) (fun x=>?_)
  ·refine U J<|O (qd a.2.2.2.2.1) J<|q8 ?_
   obtain rfl:=qc x
   exact ⟨_,_,J⟩
  refine qa J<|O (qd false) J<|q8 ?_
  obtain rfl:=qc x
  exact ⟨_,_,J⟩
 rintro _ ⟨al,am,rfl⟩
 obtain ⟨ca,y,b⟩:=q7 b
 refine Q0 4 (fun A st=>∃ (an ao ap : V),st = A [(75,qd ca),(74,ap),(73,ao),(72,an)]) ?_ ?_
 ·refine qy J J y (fun y=>?_) (fun y=>?_)
  ·refine U J<|O (qd (g.2.1 == 1)) J<|O (qd (g.2.1 == 1)) J<|q8 ?_
   obtain rfl:=qc y
   exact ⟨_,_,_,J⟩
  refine qa J<|qa J<|O (qd false) J<|q8 ?_
  obtain rfl:=qc y
  exact ⟨_,_,_,J⟩
 rintro _ ⟨an,ao,ap,rfl⟩
 refine q8 ?_
 obtain ⟨cb,h,b⟩:=q7 b
 refine Y2 (fun k=>.inl k = cb) (fun (k : List qh)=>⟨[(0,.hs 0 3 0 k.length),(1,q6 a.1),(2,q6 a.2.1),(3,q6 f.1),(4,.d (.fn q1F q1C)),(10,qd a.2.2.2.1),(11,qd a.2.2.2.2.1),(12,.d (G (w64 (a.2.1 - a.1)))),(13,q6 g.1)],[(0,.dat 3 (k.map Q2))],1⟩) (by simp) ?_ ?_
 ·refine qk J h (fun _ h=>?_) (fun _ h=>?_)
  ·refine qb<|U J<|U J<|U J<|U J ?_
   obtain ⟨ad,cc,h⟩:=q7 h
   obtain ⟨cz,cd,h⟩:=q7 h
   have ce:=K5 cd
   refine Qr [(0,0)] [(0,0)] [.hs 0 3 0 g.2.2.length,q6 a.1,q6 a.2.1,.d (.fn q1F q1C)] (qd ad.1) 1 [(0,.dat 3 (ad.2.map Q2))] 1 (qv7 j q1F q1C q1Ok g.2.2 a.1 a.2.1 ad cc)<|q8 ?_
   refine qk J h (fun _ h=>?_) (fun _ h=>?_)
   ·refine q3h ?_
    obtain rfl:=qc h
    refine ⟨_,(Option.some.inj b).symm,fun hm=>?_⟩
    subst hm
    obtain rfl:=qc v
    exact ⟨.inr J,_,J,wkA [] [] []⟩
   refine ql<|Qa ?_
   obtain rfl:=qc h
   exact ⟨_,J,wkE [] [] [] J ⟨⟨_,J,Qp (by simp [ce]) J (by decide) (ltd J)⟩,⟨_,J,.d (.refl _)⟩,⟨_,J,.d (.refl _)⟩,⟨_,J,.d (.refl _)⟩,⟨_,J,.d (.refl _)⟩,⟨_,J,.d (.refl _)⟩,⟨_,J,.d (.refl _)⟩,⟨_,J,.d (.refl _)⟩,⟨_,J,.d (.refl _)⟩,trivial⟩ ⟨⟨ltd J,.inr ⟨by decide,_,J,.dat _ _⟩⟩,trivial⟩⟩
  refine ql<|Qa ?_
  obtain rfl:=qc h
  exact ⟨_,J,wkA [] [] []⟩
 intro k hb
 subst hb
 refine qe<|qe<|Q4 [q0,q0,q0,q0,qo 0,q0,q0,q0,qo 0,q0,q0,q0,q0,q0,q0,q0,q0] (by kernel_rfl)<|U J<|O (.d (.bool (decide (a.1 > 0)))) J ?_
 obtain ⟨cf,l,b⟩:=q7 b
 refine Q0 15 (fun A st=>∃ (aq ar au av aw ax ay az ba bb bc bd be bf : V),st = A [(97,qd cf),(96,bf),(95,be),(94,bd),(93,bc),(92,bb),(91,ba),(90,az),(89,ay),(88,ax),(87,aw),(86,av),(85,au),(84,ar),(83,aq)]) ?_ ?_
 ·refine qy J J l (fun l=>?_) (fun l=>?_)
  ·refine U J<|U J<|U J<|O (.d (G (w64 (a.1 - 1)))) J ?_
   obtain ⟨p,bg,l⟩:=q7 l
   refine qq bg J J<|qx (.d (.agg [G p.at_,G p.list_,G p.by_])) bg J<|U J<|U J ?_
   obtain ⟨q,bh,l⟩:=q7 l
   refine qq bh J J<|qx (.d (.agg [G q.at_,G q.list_,G q.by_])) bh J ?_
   obtain ⟨ab,cg,l⟩:=q7 l
   refine Kz [.d (.agg [G p.at_,G p.list_,G p.by_]),.d (.agg [G q.at_,G q.list_,G q.by_])] (q1Ok p q ab cg) J J J (.inl J)<|O (.d (.bool (decide (ab < 0)))) J<|O (.d (.bool (!(decide (ab < 0))))) J<|O (.d (.bool (!(decide (ab < 0))))) J<|q8 ?_
   obtain rfl:=qc l
   exact ⟨_,_,_,_,_,_,_,_,_,_,_,_,_,_,J⟩
  refine qa J<|qa J<|qa J<|qa J<|qa J<|qa J<|qa J<|qa J<|qa J<|qa J<|qa J<|qa J<|qa J<|O (qd false) J<|q8 ?_
  obtain rfl:=qc l
  exact ⟨_,_,_,_,_,_,_,_,_,_,_,_,_,_,J⟩
 rintro _ ⟨aq,ar,au,av,aw,ax,ay,az,ba,bb,bc,bd,be,bf,rfl⟩
 refine q8 ?_
 refine qk J b (fun _ b=>?_) (fun _ b=>?_)
 ·refine qb<|U J<|U J<|U J<|U J<|U J ?_
  obtain ⟨ae,ch,b⟩:=q7 b
  obtain ⟨da,ci,b⟩:=q7 b
  have cj:=K5 ci
  refine Qr [(0,0)] [(0,0)] [.hs 0 3 0 k.length,q6 a.1,q6 a.2.1,q6 g.1,.d (.fn q1F q1C)] (q6 ae.1) 1 [(0,.dat 3 (ae.2.map Q2))] 1 (qva j q1F q1C q1Ok k a.1 a.2.1 g.1 ae ch)<|q9 J<|qp<|U J<|q9 J<|q8<|Q1<|q2a<|Qa ?_
  exact ⟨_,(Option.some.inj b).symm,wkE [] [] [] J ⟨⟨_,J,Qp (by simp [cj]) J (by decide) (ltd J)⟩,⟨_,J,.d (.refl _)⟩,⟨_,J,.d (.refl _)⟩,⟨_,J,.d (.refl _)⟩,⟨_,J,.d (.refl _)⟩,⟨_,J,.d (.refl _)⟩,⟨_,J,.d (.refl _)⟩,trivial⟩ ⟨⟨ltd J,.inr ⟨by decide,_,J,.dat _ _⟩⟩,trivial⟩⟩
 refine ql<|qb<|U J<|U J<|U J<|U J<|U J ?_
 obtain ⟨c,ck,b⟩:=q7 b
 obtain ⟨dc,cl,b⟩:=q7 b
 have ac:=K5 cl
 refine Qr [(0,0)] [(0,0)] [.hs 0 3 0 k.length,q6 a.1,q6 a.2.1,q6 g.1,.d (.fn q1F q1C)] (.d (.tup [G c.1,.bool c.2.1])) 1 [(0,.dat 3 (c.2.2.map Q2))] 1 (qv9 j q1F q1C q1Ok k a.1 a.2.1 g.1 c ck)<|U J<|O (q6 c.1) J<|O (qd c.2.1) J<|q9 J<|q9 J<|qp<|U J<|q9 J<|qp<|U J<|U J<|O (.d (G (w64 (c.1 - a.1)))) J<|U J<|U J<|O (.d (G (w64 (a.2.1 - c.1)))) J<|q9 J<|q9 J<|qp<|U J<|O (.d (G (w64 (Int.tdiv (w64 (a.2.1 - a.1)) 8)))) J<|q9 J<|qp<|U J<|U J<|O (.d (.bool (decide ((w64 (c.1 - a.1)) < (w64 (a.2.1 - c.1)))))) J<|q8 ?_
 refine qk J b (fun _ b=>?_) (fun _ b=>?_)
 ·refine qb<|U J<|U J<|O (.d (.bool (decide ((w64 (c.1 - a.1)) ≥ (w64 (Int.tdiv (w64 (a.2.1 - a.1)) 8)))))) J<|q9 J<|qp<|U J<|U J<|U J<|U J<|U J ?_
  obtain ⟨af,cm,b⟩:=q7 b
  obtain ⟨dd,cn,b⟩:=q7 b
  have co:=K5 cn
  refine U4 [(0,0)] [(0,0)] [.hs 0 3 0 k.length,q6 a.1,q6 c.1,q6 f.1,.d (.fn q1F q1C)] (.d (.tup [])) [(0,.dat 3 (af.map Q2))] [(0,.dat 3 (af.map Q2))] 1 (hrec c.2.2 a.1 c.1 f.1 af cm) J J J (Y5 [(0,0)] [] [] J ⟨⟨_,J,Qp (by simp [ac]) J (by decide) (ltd J)⟩,⟨_,J,.d (.refl _)⟩,⟨_,J,.d (.refl _)⟩,⟨_,J,.d (.refl _)⟩,⟨_,J,.d (.refl _)⟩,trivial⟩ ⟨⟨ltd J,.inr ⟨by decide,_,J,.dat _ _⟩⟩,trivial⟩) (Y5 [(0,0)] [] [] J ⟨⟨_,J,.d (.refl _)⟩,trivial⟩ ⟨⟨ltd J,.inr ⟨by decide,_,J,.dat _ _⟩⟩,trivial⟩) J ⟨.inl J,trivial⟩<|q8<|qs<|U J<|O (.d (G (w64 (c.1 + 1)))) J<|q9 J<|qr<|Q9<|Qa ?_
  exact ⟨_,(Option.some.inj b).symm,wkE [] [] [] J ⟨⟨_,J,Qp (by simp [ac,co]) J (by decide) (ltd J)⟩,⟨_,J,.d (.refl _)⟩,⟨_,J,.d (.refl _)⟩,⟨_,J,.d (.refl _)⟩,⟨_,J,.d (.refl _)⟩,⟨_,J,.d (.refl _)⟩,⟨_,J,.d (.refl _)⟩,trivial⟩ ⟨⟨ltd J,.inr ⟨by decide,_,J,.dat _ _⟩⟩,trivial⟩⟩
 refine qb<|U J<|U J<|O (.d (.bool (decide ((w64 (a.2.1 - c.1)) ≥ (w64 (Int.tdiv (w64 (a.2.1 - a.1)) 8)))))) J<|q9 J<|qp<|U J<|U J<|O (.d (G (w64 (c.1 + 1)))) J<|U J<|U J<|U J ?_
 obtain ⟨ag,cp,b⟩:=q7 b
 obtain ⟨de,cq,b⟩:=q7 b
 have cr:=K5 cq
 refine U4 [(0,0)] [(0,0)] [.hs 0 3 0 k.length,.d (G (w64 (c.1 + 1))),q6 a.2.1,q6 f.1,.d (.fn q1F q1C)] (.d (.tup [])) [(0,.dat 3 (ag.map Q2))] [(0,.dat 3 (ag.map Q2))] 1 (hrec c.2.2 (w64 (c.1 + 1)) a.2.1 f.1 ag cp) J J J (Y5 [(0,0)] [] [] J ⟨⟨_,J,Qp (by simp [ac]) J (by decide) (ltd J)⟩,⟨_,J,.d (.refl _)⟩,⟨_,J,.d (.refl _)⟩,⟨_,J,.d (.refl _)⟩,⟨_,J,.d (.refl _)⟩,trivial⟩ ⟨⟨ltd J,.inr ⟨by decide,_,J,.dat _ _⟩⟩,trivial⟩) (Y5 [(0,0)] [] [] J ⟨⟨_,J,.d (.refl _)⟩,trivial⟩ ⟨⟨ltd J,.inr ⟨by decide,_,J,.dat _ _⟩⟩,trivial⟩) J ⟨.inl J,trivial⟩<|q8<|qs<|U J<|q9 J<|qr<|Q9<|Qa ?_
 exact ⟨_,(Option.some.inj b).symm,wkE [] [] [] J ⟨⟨_,J,Qp (by simp [ac,cr]) J (by decide) (ltd J)⟩,⟨_,J,.d (.refl _)⟩,⟨_,J,.d (.refl _)⟩,⟨_,J,.d (.refl _)⟩,⟨_,J,.d (.refl _)⟩,⟨_,J,.d (.refl _)⟩,⟨_,J,.d (.refl _)⟩,trivial⟩ ⟨⟨ltd J,.inr ⟨by decide,_,J,.dat _ _⟩⟩,trivial⟩⟩
theorem qve (n : Nat) (g : qh→qh→Option Int) (q1F : FuncId) (q1C : List DV) (q1Ok : ∀ (h : qh) (j : qh) (r : Int),g h j = some r→Pure Tryz.prog tab q1F ([.agg [G h.at_,G h.list_,G h.by_],.agg [G j.at_,G j.list_,G j.by_]] ++ q1C) (G r)) : ∀ (a : List qh) (b : Int) (c : Int) (f : Int) (r : List qh),q62 n g a b c f = some r→Qq Tryz.prog tab 187 [.hs 0 3 0 a.length,q6 b,q6 c,q6 f,.d (.fn q1F q1C)] [(0,.dat 3 (a.map Q2))] 1 (.d (.tup [])) [(0,.dat 3 (r.map Q2))] 1:=by
 induction n with
 | zero=>intro a b c f r k;cases k
 | succ n ih=>intro a b c f r k;exact qvd (q62 n g) g q1F q1C q1Ok ih a b c f r k
theorem qux (g : qh→qh→Option Int) (q1F : FuncId) (q1C : List DV) (q1Ok : ∀ (c : qh) (f : qh) (r : Int),g c f = some r→Pure Tryz.prog tab q1F ([.agg [G c.at_,G c.list_,G c.by_],.agg [G f.at_,G f.list_,G f.by_]] ++ q1C) (G r)) (a : List qh) (r : List qh) (b : q5d g a = some r) : Qq Tryz.prog tab 170 [.hs 0 3 0 a.length,.d (.fn q1F q1C)] [(0,.dat 3 (a.map Q2))] 1 (.d (.tup [])) [(0,.dat 3 (r.map Q2))] 1:=by
 unfold q5d at b
 refine Qx Tryz.func170 J (by kernel_rfl) (by kernel_rfl) J<|qb<|U J<|O (q6 (a.length : Int)) J<|q9 J<|q8<|qs<|U J<|U J<|U J<|O (.d (.int .u64 (IntKind.wrap .u64 (a.length : Int)))) J ?_
 obtain ⟨h,l,b⟩:=q7 b
 refine qt (qd1 (IntKind.wrap .u64 (a.length : Int)) h l) J<|U J ?_
 obtain ⟨k,j,b⟩:=q7 b
 obtain ⟨o,m,b⟩:=q7 b
 have p:=K5 m
 obtain ⟨n,j⟩:=qcz j
 refine Qr [(0,0)] [(0,0)] [.hs 0 3 0 a.length,q6 0,q6 (a.length : Int),q6 h,.d (.fn q1F q1C)] (.d (.tup [])) 1 [(0,.dat 3 (k.map Q2))] 1 (qve n g q1F q1C q1Ok a 0 (a.length : Int) h k j)<|qr ?_
 obtain rfl:=qc b
 exact ⟨.inl J,_,J,wkA [] [] []⟩
theorem quy (a : List qh) (r : List qh) (b : qb8  a = some r) : Qq Tryz.prog tab 172 [.hs 0 3 0 a.length] [(0,.dat 3 (a.map Q2))] 1 (.fn 188 [.ref 1 1 0 0]) [(0,.dat 3 (r.map Q2)),(1,.cel 1 [[.hs 0 3 0 r.length]])] 2:=by
 unfold qb8 at b
 refine Qx Tryz.func172 J (by kernel_rfl) (by kernel_rfl) J<|qb<|Qh (.ref 1 1 0 0) (.cel 1 [[.hs 0 3 0 a.length]]) J<|q9 J<|qp<|O (.fn 188 [.ref 1 1 0 0]) J<|q9 J<|qn ?_
 obtain rfl:=qc b
 exact ⟨.inr J,_,J,wkA [(1,1)] [] []⟩
theorem qy5 (b : List (List qj)) (r : List (List qj) × List qh) (f : q92  b = some r) : Qq Tryz.prog tab 154 [.hs 0 1 0 b.length] [(0,.dat 1 (b.map Jq))] 1 (.fn 188 [.ref 1 1 0 0]) [(0,.dat 1 (r.1.map Jq)),(1,.cel 1 [[.hs 2 3 0 r.2.length]]),(2,.dat 3 (r.2.map Q2))] 3:=by
 unfold q92 at f
 refine Qx Tryz.func154 J (by kernel_rfl) (by kernel_rfl) J<|qb<|q9 J<|qp<|q9 J<|q8<|qe<|qb<|U J<|O (q6 (b.length : Int)) J<|U J<|q8 ?_
 obtain ⟨t,v,f⟩:=q7 f
 refine Qb (fun h=>h = t) (fun (h : List qh)=>⟨[(3,.hs 1 3 0 h.length)],[(0,.dat 1 (b.map Jq)),(1,.dat 3 (h.map Q2))],2⟩) (by simp) ?_ ?_
 ·refine Q7 (Ua b) (fun (a : Int × List qh)=>⟨[(3,.hs 1 3 0 a.2.length),(8,.hs 0 1 0 b.length),(9,q6 (b.length : Int)),(10,q6 a.1)],[(0,.dat 1 (b.map Jq)),(1,.dat 3 (a.2.map Q2))],2⟩) (0,[]) t v (wkA [] [] [1]) ?_
  intro a ag j
  unfold Ua at j
  refine qb<|O (.d (.bool (decide (a.1 < (b.length : Int))))) J<|q8<|qe ?_
  refine qk J j (fun _ j=>?_) (fun _ j=>?_)
  ·refine ql<|qe ?_
   obtain ⟨w,l,j⟩:=q7 j
   refine Qb (fun m=>m = w) (fun (m : List qh)=>⟨[(3,.hs 1 3 0 m.length),(8,.hs 0 1 0 b.length),(9,q6 (b.length : Int)),(10,q6 a.1)],[(0,.dat 1 (b.map Jq)),(1,.dat 3 (m.map Q2))],2⟩) (by simp) ?_ ?_
   ·refine qb<|U J ?_
    obtain ⟨n,u,l⟩:=q7 l
    refine qq u J J<|qx (.d (.sl 2 (n.map Q3))) u J<|q9 J<|q9 J<|qp<|U J<|Qg J<|U J<|q8 ?_
    obtain ⟨x,y,l⟩:=q7 l
    refine qu<|Q7 (q40 n a) (fun (k : Int × List qh)=>⟨[(3,.hs 1 3 0 k.2.length),(4,q6 a.1),(8,.hs 0 1 0 b.length),(9,q6 (b.length : Int)),(10,q6 a.1),(15,.d (.sl 2 (n.map Q3))),(16,q6 (n.length : Int)),(17,q6 k.1)],[(0,.dat 1 (b.map Jq)),(1,.dat 3 (k.2.map Q2))],2⟩) (0,a.2) x y (wkA [(1,1)] [] []) ?_
    intro k ah g
    unfold q40 at g
    refine qb<|O (.d (.bool (decide (k.1 < (n.length : Int))))) J<|q8<|qe ?_
    refine qk J g (fun _ g=>?_) (fun _ g=>?_)
    ·refine ql<|qe<|qu<|qb ?_
     obtain ⟨c,z,g⟩:=q7 g
     refine Q5 (enc:=Q3) z J<|O (.d (.agg [G c.Lo,G c.Hi])) J<|Qo J J<|Q8 2 (.dat 2 [[G c.Lo,G c.Hi]]) J<|q8<|qs<|U J<|O (.ref 2 2 0 0) J<|O (q6 c.Lo) J<|U J<|O (.d (.agg [G c.Lo,G a.1,G 1])) J<|O (.ref 2 2 0 1) J<|O (q6 c.Hi) J<|U J<|O (.d (.agg [G c.Hi,G a.1,G (-1)])) J<|Qh (.hs 3 3 0 [({at_:=c.Lo,list_:=a.1,by_:=1} : qh),({at_:=c.Hi,list_:=a.1,by_:=(-1)} : qh)].length) (.dat 3 ([({at_:=c.Lo,list_:=a.1,by_:=1} : qh),({at_:=c.Hi,list_:=a.1,by_:=(-1)} : qh)].map Q2)) J ?_
     obtain ⟨ai,aa,g⟩:=q7 g
     refine Ko (xs:=k.2) (ys:=[({at_:=c.Lo,list_:=a.1,by_:=1} : qh),({at_:=c.Hi,list_:=a.1,by_:=(-1)} : qh)]) (enc:=Q2) (.hs 3 3 0 [({at_:=c.Lo,list_:=a.1,by_:=1} : qh),({at_:=c.Hi,list_:=a.1,by_:=(-1)} : qh)].length) aa J J J J J J J (Kl J J) J J J J<|q9 J<|qr<|Q9<|qs<|O (.d (G (w64 (k.1 + 1)))) J<|U J<|qr ?_
     exact ⟨_,(Option.some.inj g).symm,wkA [(1,4)] [] []⟩
    refine Q1 ?_
    refine ⟨_,(Option.some.inj g).symm,fun hm=>?_⟩
    subst hm
    obtain rfl:=qc l
    exact ⟨_,J,wkA [(1,1)] [] []⟩
   intro m hb
   subst hb
   refine qs<|O (.d (G (w64 (a.1 + 1)))) J<|U J<|qr ?_
   exact ⟨_,(Option.some.inj j).symm,wkA [(1,1)] [] []⟩
  refine Q1 ?_
  refine ⟨_,(Option.some.inj j).symm,fun hm=>?_⟩
  subst hm
  exact ⟨_,J,wkA [(1,1)] [] []⟩
 intro h hb
 subst hb
 refine qb<|U J ?_
 obtain ⟨p,ab,f⟩:=q7 f
 obtain ⟨aj,ac,f⟩:=q7 f
 have ad:=K5 ac
 refine Qr [(0,1)] [(0,1),(1,0)] [.hs 1 3 0 h.length,.d (.fn 171 [])] (.d (.tup [])) 1 [(1,.dat 3 (p.map Q2)),(0,.dat 1 (b.map Jq))] 2 (qux (fun q s=>q91 q s) 171 [] (fun q s r hr=>qy4 q s r hr) h p ab)<|qp<|U J ?_
 obtain ⟨o,ae,f⟩:=q7 f
 obtain ⟨ak,af,f⟩:=q7 f
 have al:=K5 af
 refine U4 [(0,1)] [(0,2),(1,0),(2,1)] [.hs 1 3 0 h.length] (.fn 188 [.ref 2 1 0 0]) [(1,.dat 3 (o.map Q2)),(2,.cel 1 [[.hs 1 3 0 o.length]])] [(1,.dat 3 (o.map Q2)),(2,.cel 1 [[.hs 1 3 0 o.length]]),(0,.dat 1 (b.map Jq))] 3 (quy p o ae) J J J (Y5 [(0,1)] [] [] J ⟨⟨_,J,Qp (by simp [ad]) J (by decide) (ltd J)⟩,trivial⟩ ⟨⟨ltd J,.inr ⟨by decide,_,J,.dat _ _⟩⟩,trivial⟩) (Y5 [(0,2),(1,0),(2,1)] [] [] J ⟨⟨_,J,(q44 (.cons (.ref J (by decide) (ltd J)) .nil))⟩,trivial⟩ ⟨⟨ltd J,.inr ⟨by decide,_,J,.dat _ _⟩⟩,⟨ltd J,.inr ⟨by decide,_,J,Jk (.cons (.hs J (by decide) (ltd J)) J .nil)⟩⟩,trivial⟩) J ⟨.inl J,.inl J,.inr ⟨J,J⟩,trivial⟩<|q9 J<|qn ?_
 obtain rfl:=qc f
 exact ⟨.inr J,_,J,wkA [(1,2),(2,1)] [] []⟩
theorem qy6 (f : Int) (j : Bool) (b : Int) (c : List qj) (r : Bool × Int × List qj) (a : q93  f j b c = some r) : Qq Tryz.prog tab 153 [q6 f,.ref 0 1 0 0,.ref 1 1 0 0,.ref 2 1 0 0] [(0,.dat 1 [[.bool j]]),(1,.dat 1 [[G b]]),(2,.cel 1 [[.hs 3 2 0 c.length]]),(3,.dat 2 (c.map Q3))] 4 (.d (.tup [])) [(0,.dat 1 [[.bool r.1]]),(1,.dat 1 [[G r.2.1]]),(2,.cel 1 [[.hs 4 2 0 r.2.2.length]]),(4,.dat 2 (r.2.2.map Q3))] 5:=by
 unfold q93 at a
 refine Qx Tryz.func153 J (by kernel_rfl) (by kernel_rfl) J<|qe<|qb<|O (qd j) J<|O (qd (!j)) J ?_
 obtain ⟨ab,h,a⟩:=q7 a
 refine Q0 5 (fun A st=>∃ (l m n o : V),st = A [(12,qd ab),(11,o),(10,n),(9,m),(8,l)]) ?_ ?_
 ·refine qy J J h (fun h=>?_) (fun h=>?_)
  ·refine qa J<|qa J<|qa J<|O (qd true) J<|q8 ?_
   obtain rfl:=qc h
   exact ⟨_,_,_,_,J⟩
  refine O (q6 b) J<|U J<|O (qd (b == f)) J<|O (qd (b == f)) J<|q8 ?_
  obtain rfl:=qc h
  exact ⟨_,_,_,_,J⟩
 rintro _ ⟨l,m,n,o,rfl⟩
 refine q8 ?_
 refine qk J a (fun _ a=>?_) (fun _ a=>?_)
 ·refine q3h ?_
  obtain rfl:=qc a
  exact ⟨.inr J,_,J,wkA [(4,3)] [] []⟩
 refine ql<|qb<|O (.hs 3 2 0 c.length) J<|O (q6 (c.length : Int)) J<|q9 J<|q8<|qe<|Q4 [q0,q0,qo 1,qo 3,q0,q0,q0,q0,qo 2,q0,q0,q0] (by kernel_rfl)<|U J<|O (.d (.bool (decide ((c.length : Int) > 0)))) J ?_
 obtain ⟨ac,g,a⟩:=q7 a
 refine Q0 10 (fun A st=>∃ (p q s t u v w x y : V),st = A [(26,qd ac),(25,y),(24,x),(23,w),(22,v),(21,u),(20,t),(19,s),(18,q),(17,p)]) ?_ ?_
 ·refine qy J J g (fun g=>?_) (fun g=>?_)
  ·refine O (.hs 3 2 0 c.length) J<|U J<|O (.d (G (w64 ((c.length : Int) - 1)))) J ?_
   obtain ⟨k,z,g⟩:=q7 g
   refine qq z J J<|O (.ref 3 2 (w64 ((c.length : Int) - 1)).toNat 1) J<|qx (q6 k.Hi) z J<|O (q6 b) J<|O (qd (k.Hi == b)) J<|O (qd (k.Hi == b)) J<|q8 ?_
   obtain rfl:=qc g
   exact ⟨_,_,_,_,_,_,_,_,_,J⟩
  refine qa J<|qa J<|qa J<|qa J<|qa J<|qa J<|qa J<|qa J<|O (qd false) J<|q8 ?_
  obtain rfl:=qc g
  exact ⟨_,_,_,_,_,_,_,_,_,J⟩
 rintro _ ⟨p,q,s,t,u,v,w,x,y,rfl⟩
 refine q8 ?_
 refine qk J a (fun _ a=>?_) (fun _ a=>?_)
 ·refine qs<|O (.hs 3 2 0 c.length) J<|U J<|O (.d (G (w64 ((c.length : Int) - 1)))) J<|U J ?_
  obtain ⟨ad,aa,a⟩:=q7 a
  refine qq aa J J<|O (.ref 3 2 (w64 ((c.length : Int) - 1)).toNat 1) J<|Qk (ds:=[G f]) ({Lo:=ad.Lo,Hi:=f} : qj) aa J J J J J J J J (leb J) J<|qr ?_
  obtain rfl:=qc a
  exact ⟨.inl J,_,J,wkE [(4,3)] [] [] J ⟨⟨_,J,.d (.refl _)⟩,trivial⟩ ⟨⟨ltd J,.inr ⟨by decide,_,J,.dat _ _⟩⟩,⟨ltd J,.inr ⟨by decide,_,J,.dat _ _⟩⟩,⟨ltd J,.inr ⟨by decide,_,J,Jk (.cons (Qp (by simp) J (by decide) (ltd J)) J .nil)⟩⟩,⟨ltd J,.inr ⟨by decide,_,J,.dat _ _⟩⟩,trivial⟩⟩
 refine qs<|O (.hs 3 2 0 c.length) J<|O (q6 b) J<|U J<|O (.d (.agg [G b,G f])) J<|Qh (.hs 4 2 0 [({Lo:=b,Hi:=f} : qj)].length) (.dat 2 ([({Lo:=b,Hi:=f} : qj)].map Q3)) J ?_
 obtain ⟨ae,af,a⟩:=q7 a
 refine Ko (xs:=c) (ys:=[({Lo:=b,Hi:=f} : qj)]) (enc:=Q3) (.hs 4 2 0 [({Lo:=b,Hi:=f} : qj)].length) af J J J J J J J (Kl J J) J J J J<|Q8 2 (.cel 1 [[.hs 5 2 0 ae.length]]) J<|qr ?_
 obtain rfl:=qc a
 exact ⟨.inl J,_,J,wkA [(4,5)] [] []⟩
theorem qy7 (l : List qj) (m : List qj) (q : Bool→Bool→Option Bool) (p2F : FuncId) (p2C : List DV) (p2Ok : ∀ (u : Bool) (w : Bool) (r : Bool),q u w = some r→Pure Tryz.prog tab p2F ([.bool u,.bool w] ++ p2C) (.bool r)) (r : List qj) (h : q6e l m q = some r) : Pure Tryz.prog tab 122 [.sl 2 (l.map Q3),.sl 2 (m.map Q3),.fn p2F p2C] (.sl 2 (r.map Q3)):=by
 unfold q6e at h
 refine Qc Tryz.func122 J (by kernel_rfl) (by kernel_rfl) J<|qb<|Qh (.ref 0 1 0 0) (.dat 1 [[.fn p2F p2C]]) J<|q9 J<|qp<|Qo J J<|qp<|Qo J J<|qp<|Qo J J<|Qo J J<|Q8 3 (.dat 1 [[G 0]]) J<|Q8 4 (.dat 1 [[.bool false]]) J<|qp<|O (.fn 153 [.ref 4 1 0 0,.ref 3 1 0 0,.ref 2 1 0 0]) J<|Qo J J<|Q8 5 (.cel 1 [[.fn 153 [.ref 4 1 0 0,.ref 3 1 0 0,.ref 2 1 0 0]]]) J<|q8<|qe<|qb<|U J<|U J<|Qh (.hs 6 1 0 [l,m].length) (.dat 1 ([l,m].map Jq)) J ?_
 obtain ⟨b,h2,h⟩:=q7 h
 obtain ⟨u3,h4,h⟩:=q7 h
 have h5:=K5 h4
 refine Qr [(0,6)] [(0,3),(1,3),(2,3),(3,3),(4,3),(5,3),(6,0),(7,1),(8,2)] [.hs 6 1 0 [l,m].length] (.fn 188 [.ref 7 1 0 0]) 3 [(6,.dat 1 (b.1.map Jq)),(7,.cel 1 [[.hs 8 3 0 b.2.length]]),(8,.dat 3 (b.2.map Q2)),(0,.dat 1 [[.fn p2F p2C]]),(1,.dat 2 [[0,0].flatMap (eI .i64)]),(2,.dat 1 [[.nilsl]]),(3,.dat 1 [[G 0]]),(4,.dat 1 [[.bool false]]),(5,.cel 1 [[.fn 153 [.ref 4 1 0 0,.ref 3 1 0 0,.ref 2 1 0 0]]])] 9 (qy5 [l,m] b h2)<|q8<|qu ?_
 obtain ⟨af,s,h⟩:=q7 h
 refine qe2 (fun j=>j = af) (fun (j : List qj)=>⟨[(8,.ref 0 1 0 0)],[(0,.cel 1 [[.hs 1 2 0 j.length]]),(1,.dat 2 (j.map Q3))],2⟩) ?_ ?_
 ·refine Yj (st':=⟨[(5,.ref 0 1 0 0),(6,.d (.nilsl)),(7,.ref 1 2 0 0),(8,.ref 2 1 0 0),(9,.ref 3 1 0 0),(10,.ref 4 1 0 0),(11,.ref 5 1 0 0),(17,.fn 188 [.ref 6 1 0 0])],[(0,.dat 1 [[.fn p2F p2C]]),(1,.dat 2 [[0,0].flatMap (eI .i64)]),(2,.dat 1 [[.nilsl]]),(3,.dat 1 [[G 0]]),(4,.dat 1 [[.bool false]]),(5,.cel 1 [[.fn 153 [.ref 4 1 0 0,.ref 3 1 0 0,.ref 2 1 0 0]]]),(6,.cel 1 [[.hs 7 3 0 b.2.length]]),(7,.dat 3 (b.2.map Q2))],8⟩) (wkA [(0,0),(1,1),(2,2),(3,3),(4,4),(5,5),(6,7),(7,8)] [] []) ?_ (by simp)
  refine qe3 [.ref 6 1 0 0] (.inl J) Tryz.func188 J (by kernel_rfl) (by kernel_rfl) J ?_
  intro A154 B155 hA154 hB155
  refine qb<|O (.hs 7 3 0 b.2.length) J<|O (q6 (b.2.length : Int)) J<|U J<|q8 ?_
  obtain ⟨ag,ah,s⟩:=q7 s
  refine qu<|Q7 (q41 b q) (fun (c : Int × List Int × Int × Bool × List qj)=>⟨[(0,.yld 8),(5,.hs 7 3 0 b.2.length),(6,q6 (b.2.length : Int)),(7,q6 c.1)],[(0,.dat 1 [[.fn p2F p2C]]),(1,.dat 2 [c.2.1.flatMap (eI .i64)]),(2,.cel 1 [[.hs 9 2 0 c.2.2.2.2.length]]),(3,.dat 1 [[G c.2.2.1]]),(4,.dat 1 [[.bool c.2.2.2.1]]),(5,.cel 1 [[.fn 153 [.ref 4 1 0 0,.ref 3 1 0 0,.ref 2 1 0 0]]]),(6,.cel 1 [[.hs 7 3 0 b.2.length]]),(7,.dat 3 (b.2.map Q2)),(8,.loop [(5,.ref 0 1 0 0),(6,.d (.nilsl)),(7,.ref 1 2 0 0),(8,.ref 2 1 0 0),(9,.ref 3 1 0 0),(10,.ref 4 1 0 0),(11,.ref 5 1 0 0),(17,.fn 188 [.ref 6 1 0 0])] [18] A154 B155 .ready none),(9,.dat 2 (c.2.2.2.2.map Q3))],10⟩) (0,[0,0],0,false,[]) ag ah (wkA [] [] [9]) ?_
  intro c an g
  unfold q41 at g
  refine qb<|O (.d (.bool (decide (c.1 < (b.2.length : Int))))) J<|q8<|qe ?_
  refine qk J g (fun _ g=>?_) (fun _ g=>?_)
  ·refine ql<|qe<|qu<|qb ?_
   obtain ⟨a,x,g⟩:=q7 g
   refine qq x J J<|qx (.d (.agg [G a.at_,G a.list_,G a.by_])) x J<|Qo J J<|Q8 10 (.dat 3 [[G a.at_,G a.list_,G a.by_]]) J<|qp<|U J<|O (.d (.agg [G a.at_,G a.list_,G a.by_])) J ?_
   obtain ⟨ai,f,g⟩:=q7 g
   refine qdj (fun k=>k = ai) (fun (k : List Int × Bool × List qj)=>⟨[(0,.yld 8),(5,.hs 7 3 0 b.2.length),(6,q6 (b.2.length : Int)),(7,q6 c.1),(13,qd true)],[(0,.dat 1 [[.fn p2F p2C]]),(1,.dat 2 [k.1.flatMap (eI .i64)]),(2,.cel 1 [[.hs 9 2 0 k.2.2.length]]),(3,.dat 1 [[G a.at_]]),(4,.dat 1 [[.bool k.2.1]]),(5,.cel 1 [[.fn 153 [.ref 4 1 0 0,.ref 3 1 0 0,.ref 2 1 0 0]]]),(6,.cel 1 [[.hs 7 3 0 b.2.length]]),(7,.dat 3 (b.2.map Q2)),(8,.loop [(5,.ref 0 1 0 0),(6,.d (.nilsl)),(7,.ref 1 2 0 0),(8,.ref 2 1 0 0),(9,.ref 3 1 0 0),(10,.ref 4 1 0 0),(11,.ref 5 1 0 0),(17,.fn 188 [.ref 6 1 0 0])] [18] A154 B155 .ready none),(9,.dat 2 (k.2.2.map Q3))],10⟩) hA154 hB155 J J J J J J ?_ ?_
   ·refine qs<|Qo J J<|Q8 11 (.dat 3 [[G a.at_,G a.list_,G a.by_]]) J<|qr ?_
    refine ⟨J,_,J,?_⟩
    refine qu<|qb<|O (.fn 153 [.ref 4 1 0 0,.ref 3 1 0 0,.ref 2 1 0 0]) J<|O (.ref 11 3 0 0) J<|O (q6 a.at_) J ?_
    obtain ⟨n,aj,f⟩:=q7 f
    refine Qr [(0,4),(1,3),(2,2),(3,9)] [(0,5),(1,5),(2,2),(3,1),(4,0),(5,5),(6,5),(7,5),(8,5),(9,3),(10,5),(11,5),(12,4)] [q6 a.at_,.ref 4 1 0 0,.ref 3 1 0 0,.ref 2 1 0 0] (.d (.tup [])) 4 [(2,.cel 1 [[.hs 12 2 0 n.2.2.length]]),(3,.dat 1 [[G n.2.1]]),(4,.dat 1 [[.bool n.1]]),(12,.dat 2 (n.2.2.map Q3)),(0,.dat 1 [[.fn p2F p2C]]),(1,.dat 2 [c.2.1.flatMap (eI .i64)]),(5,.cel 1 [[.fn 153 [.ref 4 1 0 0,.ref 3 1 0 0,.ref 2 1 0 0]]]),(6,.cel 1 [[.hs 7 3 0 b.2.length]]),(7,.dat 3 (b.2.map Q2)),(8,.loop [(5,.ref 0 1 0 0),(6,.d (.nilsl)),(7,.ref 1 2 0 0),(8,.ref 2 1 0 0),(9,.ref 3 1 0 0),(10,.ref 4 1 0 0),(11,.ref 5 1 0 0),(17,.fn 188 [.ref 6 1 0 0])] [18] A154 B155 .busy none),(10,.dat 3 [[G a.at_,G a.list_,G a.by_]]),(11,.dat 3 [[G a.at_,G a.list_,G a.by_]])] 13 (qy6 a.at_ c.2.2.2.1 c.2.2.1 c.2.2.2.2 n aj)<|q8<|qe<|Q4 [Qd 1,q0,q0,qo 11,q0,qo 1,q0,qo 11,q0] (by kernel_rfl)<|O (.ref 11 3 0 1) J<|O (q6 a.list_) J ?_
    obtain ⟨t,y,f⟩:=q7 f
    refine U5 y J J J J J<|qal (enc:=(eI .i64)) (q6 t) y (fun _=>rfl) J J J J J J<|O (.ref 11 3 0 2) J<|O (q6 a.by_) J<|O (.d (G (w64 (t + a.by_)))) J ?_
    obtain ⟨ao,z,f⟩:=q7 f
    refine U5 z J J J J J<|qdi (enc:=(eI .i64)) (w64 (t + a.by_)) z (fun _=>rfl) J J J J J J J J<|q8<|Q4 [Qd 4,Qd 3,q0,q0,qo 1,q0,q0,qo 1,q0,qo 0,qo 11,q0] (by kernel_rfl)<|O (.ref 11 3 0 0) J<|O (q6 a.at_) J<|O (.d (.fn p2F p2C)) J ?_
    obtain ⟨o,aa,f⟩:=q7 f
    refine U5 aa J J J J J<|qal (enc:=(eI .i64)) (q6 o) aa (fun _=>rfl) J J J J J J<|O (.d (.bool (decide (o > 0)))) J ?_
    obtain ⟨p,ab,f⟩:=q7 f
    refine U5 ab J J J J J<|qal (enc:=(eI .i64)) (q6 p) ab (fun _=>rfl) J J J J J J<|O (.d (.bool (decide (p > 0)))) J ?_
    obtain ⟨ac,ak,f⟩:=q7 f
    refine Kz [.d (.bool (decide (o > 0))),.d (.bool (decide (p > 0)))] (p2Ok (decide (o > 0)) (decide (p > 0)) ac ak) J J J (.inl J)<|Q8 3 (.dat 1 [[G a.at_]]) J<|Q8 4 (.dat 1 [[.bool ac]]) J<|qr<|Q9<|Qa ?_
    refine ⟨_,J,?_⟩
    obtain rfl:=qc f
    exact ⟨_,J,wkA [(9,12)] [] []⟩
   intro k hb
   subst hb
   refine O (qd false) J<|q8<|U6 J<|ql<|Qa<|Q9<|qs<|O (.d (G (w64 (c.1 + 1)))) J<|U J<|qr ?_
   exact ⟨_,(Option.some.inj g).symm,wkA [(9,9)] [] []⟩
  refine Q1 ?_
  refine ⟨_,(Option.some.inj g).symm,fun hm=>?_⟩
  subst hm
  refine ⟨.inl J,_,J,_,_,.nor,J,by decide,?_⟩
  refine qbs<|Qa ?_
  obtain rfl:=qc s
  exact ⟨_,J,wkA [(0,2),(1,9)] [] []⟩
 intro j st hb hw
 subst hb
 refine Yj hw ?_ (by simp)
 refine qb<|O (.hs 1 2 0 j.length) J<|q9 J<|qn ?_
 obtain rfl:=qc h
 exact finD (.inr J) (v:=.hs 1 2 0 j.length) J (Z9 J J) (.refl _)
theorem qy3 (a : Bool) (b : Bool) (r : Bool) (c : q90 a b = some r) : Pure Tryz.prog tab 123 [.bool a,.bool b] (.bool r):=by
 unfold q90 at c
 refine Qc Tryz.func123 J (by kernel_rfl) (by kernel_rfl) J<|qb<|q9 J<|qp<|U J<|q9 J<|qn ?_
 obtain rfl:=qc c
 exact qv (qd a) J
theorem qkh (c : List qj) (r : List qj × Int) (a : q24 c = some r) : Pure Tryz.prog tab 77 [.sl 2 (c.map Q3)] (.tup [.sl 2 (r.1.map Q3),G r.2]):=by
 unfold q24 at a
 refine Qc Tryz.func77 J (by kernel_rfl) (by kernel_rfl) J<|qb<|q9 J<|q9 J<|q8<|qe<|qb<|U J<|Qg J<|O (.d (.bool (decide ((c.length : Int) > 400)))) J<|q8 ?_
 refine qk J a (fun _ a=>?_) (fun _ a=>?_)
 ·refine qb<|q9 J<|q9 J<|qn ?_
  obtain rfl:=qc a
  exact finD (.inr J) (v:=.d (.tup [.nilsl,G 4])) J J (Ys (.cons (.nil _) (.cons (.refl _) .nil)))
 refine ql<|qe<|qb<|U J ?_
 obtain ⟨h,j,a⟩:=q7 a
 refine qt (qun c (fun b=>qbc b) 120 [] (fun b r hr=>qy2 b r hr) h j) J<|q8 ?_
 refine qk J a (fun _ a=>?_) (fun _ a=>?_)
 ·refine qb<|q9 J<|q9 J<|qn ?_
  obtain rfl:=qc a
  exact finD (.inr J) (v:=.d (.tup [.nilsl,G 8])) J J (Ys (.cons (.nil _) (.cons (.refl _) .nil)))
 refine ql<|qb<|U J ?_
 obtain ⟨g,k,a⟩:=q7 a
 refine qt (q7e (.cons (.refl _) (.cons (.nil _) (.cons (.refl _) .nil))) (qy7 c [] (fun b f=>q90 b f) 123 [] (fun b f r hr=>qy3 b f r hr) g k)) J<|q9 J<|q9 J<|qn ?_
 obtain rfl:=qc a
 exact qv (.d (.tup [.sl 2 (g.map Q3),G 0])) J
theorem qur (c : List qj) (f : List qj) (r : Bool) (b : q81 c f = some r) : Pure Tryz.prog tab 114 [.sl 2 (c.map Q3),.sl 2 (f.map Q3)] (.bool r):=by
 unfold q81 at b
 refine Qc Tryz.func114 J (by kernel_rfl) (by kernel_rfl) J<|qb<|q9 J<|q8<|qe<|qb<|U J<|Qg J<|U J<|Qg J<|O (.d (.bool ((c.length : Int) != (f.length : Int)))) J<|q8 ?_
 refine qk J b (fun _ b=>?_) (fun _ b=>?_)
 ·refine qb<|q9 J<|qn ?_
  obtain rfl:=qc b
  exact qv (qd false) J
 refine ql<|qe<|qb<|U J<|Qg J<|U J<|q8 ?_
 obtain ⟨l,m,b⟩:=q7 b
 refine Qb (fun k=>.inl k = l) (fun (k : Unit)=>⟨[],[],0⟩) (by simp) ?_ ?_
 ·refine Q7 (qb4 c f) (fun (g : Int)=>⟨[(0,.d (.sl 2 (c.map Q3))),(1,.d (.sl 2 (f.map Q3))),(12,q6 (c.length : Int)),(13,q6 g)],[],0⟩) 0 l m (wkA [] [] []) ?_
  intro g p a
  unfold qb4 at a
  refine qb<|O (.d (.bool (decide (g < (c.length : Int))))) J<|q8<|qe ?_
  refine qk J a (fun _ a=>?_) (fun _ a=>?_)
  ·refine ql<|qe<|qu<|qb<|U J<|q9 J<|q8<|qe<|Q4 [q0,q0,q0,q0,q0,q0,q0,q0,q0] (by kernel_rfl)<|U J<|U J ?_
   obtain ⟨h,n,a⟩:=q7 a
   refine Q5 (enc:=Q3) n J<|O (.d (.agg [G h.Lo,G h.Hi])) J<|U J<|U J ?_
   obtain ⟨j,o,a⟩:=q7 a
   refine Q5 (enc:=Q3) o J<|O (.d (.agg [G j.Lo,G j.Hi])) J<|O (.d (.bool (!((h.Lo == j.Lo) && ((h.Hi == j.Hi) && true))))) J<|q8 ?_
   refine qk J a (fun _ a=>?_) (fun _ a=>?_)
   ·refine qb<|q9 J<|qn ?_
    refine ⟨_,(Option.some.inj a).symm,fun hm=>?_⟩
    subst hm
    obtain rfl:=qc b
    exact qv (qd false) J
   refine ql<|Qa<|Q9<|qs<|O (.d (G (w64 (g + 1)))) J<|U J<|qr ?_
   exact ⟨_,(Option.some.inj a).symm,wkA [] [] []⟩
  refine Q1 ?_
  refine ⟨_,(Option.some.inj a).symm,fun hm=>?_⟩
  subst hm
  exact ⟨_,J,wkA [] [] []⟩
 intro k hb
 subst hb
 refine qb<|q9 J<|qn ?_
 obtain rfl:=qc b
 exact qv (qd true) J
theorem qss (b : List qf) (m : List qj) (p : Int) (l : Int) (h : Int) (a : Int) (g : List qj) (r : List qj × Int × Int × List qf) (f : q7t  b m p l h a g = some r) : Qq Tryz.prog tab 138 [.ref 0 4 0 0,q6 h,q6 a,.d (.sl 2 (g.map Q3))] [(0,.cel 4 [[.hs 1 4 0 b.length,.d (.sl 2 (m.map Q3)),q6 p,q6 l]]),(1,.dat 4 (b.map qm))] 2 (.d (.tup [])) [(0,.cel 4 [[.hs 2 4 0 r.2.2.2.length,.d (.sl 2 (r.1.map Q3)),q6 r.2.1,q6 r.2.2.1]]),(2,.dat 4 (r.2.2.2.map qm))] 3:=by
 unfold q7t at f
 refine Qx Tryz.func138 J (by kernel_rfl) (by kernel_rfl) J<|qe<|qb<|U J<|Qg J<|O (.d (.bool (decide ((g.length : Int) > 0)))) J ?_
 obtain ⟨am,t,f⟩:=q7 f
 refine Q0 8 (fun A st=>∃ (v w x y z aa ab : V),st = A [(21,qd am),(20,ab),(19,aa),(18,z),(17,y),(16,x),(15,w),(14,v)]) ?_ ?_
 ·refine qy J J t (fun t=>?_) (fun t=>?_)
  ·refine U J<|O (.ref 0 4 0 0) J<|O (.ref 0 4 0 3) J<|O (q6 l) J<|U J<|O (qd (l == h)) J<|O (qd (l == h)) J<|q8 ?_
   obtain rfl:=qc t
   exact ⟨_,_,_,_,_,_,_,J⟩
  refine qa J<|qa J<|qa J<|qa J<|qa J<|qa J<|O (qd false) J<|q8 ?_
  obtain rfl:=qc t
  exact ⟨_,_,_,_,_,_,_,J⟩
 rintro _ ⟨v,w,x,y,z,aa,ab,rfl⟩
 obtain ⟨an,q,f⟩:=q7 f
 refine Q0 8 (fun A st=>∃ (ac ad ae af ag ah ai : V),st = A [(29,qd an),(28,ai),(27,ah),(26,ag),(25,af),(24,ae),(23,ad),(22,ac)]) ?_ ?_
 ·refine qy J J q (fun q=>?_) (fun q=>?_)
  ·refine U J<|O (.ref 0 4 0 0) J<|O (.ref 0 4 0 1) J<|O (.d (.sl 2 (m.map Q3))) J<|U J ?_
   obtain ⟨aj,ao,q⟩:=q7 q
   refine qt (qur m g aj ao) J<|O (qd aj) J<|q8 ?_
   obtain rfl:=qc q
   exact ⟨_,_,_,_,_,_,_,J⟩
  refine qa J<|qa J<|qa J<|qa J<|qa J<|qa J<|O (qd false) J<|q8 ?_
  obtain rfl:=qc q
  exact ⟨_,_,_,_,_,_,_,J⟩
 rintro _ ⟨ac,ad,ae,af,ag,ah,ai,rfl⟩
 refine q8 ?_
 refine qk J f (fun _ f=>?_) (fun _ f=>?_)
 ·refine qe<|qb<|U J<|O (.ref 0 4 0 0) J<|O (.ref 0 4 0 2) J<|O (q6 p) J<|q9 J<|q8 ?_
  obtain ⟨ak,ap,f⟩:=q7 f
  refine Qb (fun s=>s = ak) (fun (s : List qf)=>⟨[(0,.ref 0 4 0 0),(2,q6 a)],[(0,.cel 4 [[.hs 1 4 0 s.length,.d (.sl 2 (m.map Q3)),q6 p,q6 l]]),(1,.dat 4 (s.map qm))],2⟩) (by simp) ?_ ?_
  ·refine Q7 (q55 a) (fun (j : Int × List qf)=>⟨[(0,.ref 0 4 0 0),(2,q6 a),(8,q6 j.1)],[(0,.cel 4 [[.hs 1 4 0 j.2.length,.d (.sl 2 (m.map Q3)),q6 p,q6 l]]),(1,.dat 4 (j.2.map qm))],2⟩) (p,b) ak ap (wkA [] [] []) ?_
   intro j ax n
   unfold q55 at n
   refine qe<|qb<|U J<|U J<|O (.ref 0 4 0 0) J<|O (.ref 0 4 0 0) J<|O (.hs 1 4 0 j.2.length) J<|O (q6 (j.2.length : Int)) J<|O (.d (.bool (decide (j.1 < (j.2.length : Int))))) J<|q8 ?_
   refine qk J n (fun _ n=>?_) (fun _ n=>?_)
   ·refine ql<|qe<|qu<|qs<|U J<|O (.ref 0 4 0 0) J<|O (.ref 0 4 0 0) J<|O (.hs 1 4 0 j.2.length) J<|U J<|U J ?_
    obtain ⟨u,al,n⟩:=q7 n
    refine qq al J J<|O (.ref 1 4 j.1.toNat 2) J<|Qk (ds:=[G a]) ({X0:=u.X0,Y0:=u.Y0,X1:=a,Y1:=u.Y1} : qf) al J J J J J J J J (leb J) J<|qr<|Q9<|qs<|U J<|O (.d (G (w64 (j.1 + 1)))) J<|q9 J<|qr ?_
    exact ⟨_,(Option.some.inj n).symm,wkE [] [] [] J ⟨⟨_,J,.ref J (by decide) (ltd J)⟩,⟨_,J,.d (.refl _)⟩,⟨_,J,.d (.refl _)⟩,trivial⟩ ⟨⟨ltd J,.inr ⟨by decide,_,J,Jk (.cons (Qp (by simp) J (by decide) (ltd J)) J (.cons (.d (.refl _)) J (.cons (.d (.refl _)) J (.cons (.d (.refl _)) J .nil))))⟩⟩,⟨ltd J,.inr ⟨by decide,_,J,.dat _ _⟩⟩,trivial⟩⟩
   refine Q1 ?_
   refine ⟨_,(Option.some.inj n).symm,fun hm=>?_⟩
   subst hm
   exact ⟨_,J,wkA [] [] []⟩
  intro s hb
  subst hb
  refine qb<|U J<|U J<|O (.ref 0 4 0 0) J<|O (.ref 0 4 0 3) J<|Q8 0 (.cel 4 [[.hs 1 4 0 s.length,.d (.sl 2 (m.map Q3)),q6 p,q6 a]]) J<|qn ?_
  obtain rfl:=qc f
  exact ⟨.inr J,_,J,wkA [(2,1)] [] []⟩
 refine ql<|qb<|U J<|U J<|U J<|U J<|O (.ref 0 4 0 0) J<|O (.ref 0 4 0 0) J<|O (.hs 1 4 0 b.length) J<|O (q6 (b.length : Int)) J<|U J<|U J<|O (.ref 0 4 0 0) J<|O (.ref 0 4 0 2) J<|Q8 0 (.cel 4 [[.hs 1 4 0 b.length,.d (.sl 2 (m.map Q3)),q6 (b.length : Int),q6 l]]) J<|O (.ref 0 4 0 0) J<|O (.ref 0 4 0 1) J<|Q8 0 (.cel 4 [[.hs 1 4 0 b.length,.d (.sl 2 (g.map Q3)),q6 (b.length : Int),q6 l]]) J<|O (.ref 0 4 0 0) J<|O (.ref 0 4 0 3) J<|Q8 0 (.cel 4 [[.hs 1 4 0 b.length,.d (.sl 2 (g.map Q3)),q6 (b.length : Int),q6 a]]) J<|qp<|U J<|Qg J<|U J<|q8 ?_
 obtain ⟨aq,ar,f⟩:=q7 f
 refine qu<|Q7 (q56 g h a b) (fun (o : Int × List qf)=>⟨[(0,.ref 0 4 0 0),(1,q6 h),(2,q6 a),(71,.d (.sl 2 (g.map Q3))),(72,q6 (g.length : Int)),(73,q6 o.1)],[(0,.cel 4 [[.hs 2 4 0 o.2.length,.d (.sl 2 (g.map Q3)),q6 (b.length : Int),q6 a]]),(2,.dat 4 (o.2.map qm))],3⟩) (0,b) aq ar (wkA [(2,1)] [] []) ?_
 intro o ay k
 unfold q56 at k
 refine qb<|O (.d (.bool (decide (o.1 < (g.length : Int))))) J<|q8<|qe ?_
 refine qk J k (fun _ k=>?_) (fun _ k=>?_)
 ·refine ql<|qe<|qu<|qb ?_
  obtain ⟨c,au,k⟩:=q7 k
  refine Q5 (enc:=Q3) au J<|O (.d (.agg [G c.Lo,G c.Hi])) J<|Qo J J<|Q8 3 (.dat 2 [[G c.Lo,G c.Hi]]) J<|q8<|Q4 [Qd 0,q0,q0,(some [2,4],[2,5]),(some [],[4]),q0,qo 3,q0,q0,qo 3,q0,q0,qo 0,q0,q0,q0,q0] (by kernel_rfl)<|U J<|U J<|O (.ref 0 4 0 0) J<|O (.ref 0 4 0 0) J<|O (.hs 2 4 0 o.2.length) J<|U J<|O (.ref 3 2 0 0) J<|O (q6 c.Lo) J<|U J<|O (.ref 3 2 0 1) J<|O (q6 c.Hi) J<|O (.d (.agg [G h,G c.Lo,G a,G c.Hi])) J<|Qh (.hs 4 4 0 [({X0:=h,Y0:=c.Lo,X1:=a,Y1:=c.Hi} : qf)].length) (.dat 4 ([({X0:=h,Y0:=c.Lo,X1:=a,Y1:=c.Hi} : qf)].map qm)) J ?_
  obtain ⟨av,aw,k⟩:=q7 k
  refine Ko (xs:=o.2) (ys:=[({X0:=h,Y0:=c.Lo,X1:=a,Y1:=c.Hi} : qf)]) (enc:=qm) (.hs 4 4 0 [({X0:=h,Y0:=c.Lo,X1:=a,Y1:=c.Hi} : qf)].length) aw J J J J J J J (Kl J J) J J J J<|O (.ref 0 4 0 0) J<|O (.ref 0 4 0 0) J<|Q8 0 (.cel 4 [[.hs 5 4 0 av.length,.d (.sl 2 (g.map Q3)),q6 (b.length : Int),q6 a]]) J<|qr<|Q9<|qs<|O (.d (G (w64 (o.1 + 1)))) J<|U J<|qr ?_
  exact ⟨_,(Option.some.inj k).symm,wkA [(2,5)] [] []⟩
 refine Q1 ?_
 refine ⟨_,(Option.some.inj k).symm,fun hm=>?_⟩
 subst hm
 obtain rfl:=qc f
 exact ⟨.inl J,_,J,wkA [(2,2)] [] []⟩
theorem qjc (a : List qf) (r : List qf × Int) (u : q57 a = some r) : Pure Tryz.prog tab 96 [.sl 4 (a.map qm)] (.tup [.sl 4 (r.1.map qm),G r.2]):=by
 unfold q57 at u
 refine Qc Tryz.func96 J (by kernel_rfl) (by kernel_rfl) J<|qb<|q9 J<|q9 J<|qp<|Qo J J<|q8<|qe<|qb<|U J<|Qh (.hs 1 1 0 [a].length) (.dat 1 ([a].map Yy)) J ?_
 obtain ⟨aw,l,u⟩:=q7 u
 refine q7b [.hs 1 1 0 [a].length] (fun h=>h = aw) (fun (h : List Int)=>⟨[(2,.d (.nilsl)),(3,q6 0),(4,.ref 0 4 0 0),(10,.fn 161 [.ref 1 1 0 0,.ref 2 1 0 0])],[(0,.dat 4 [[.nilsl,.nilsl,G 0,G 0]]),(1,.cel 1 [[.d (.sl 1 (h.map (eI .i64)))]]),(2,.cel 1 [[.hs 3 1 0 [a].length]]),(3,.dat 1 ([a].map Yy))],4⟩) J J Tryz.func137 J (by kernel_rfl) (by kernel_rfl) J ?_ ?_
 ·refine qb<|Qh (.ref 2 1 0 0) (.cel 1 [[.hs 1 1 0 [a].length]]) J<|q9 J<|qp<|Qo J J<|q8<|qe<|qb<|O (.hs 1 1 0 [a].length) J<|O (q6 1) J<|U J<|q8<|qu<|Uu<|qb<|O (qd true) J<|q8<|qe<|q5b J<|ql<|qe ?_
  obtain ⟨ax,ac,l⟩:=q7 l
  refine Qb (fun m=>m = ax) (fun (m : List Int)=>⟨[(1,.ref 2 1 0 0),(3,.ref 3 1 0 0),(8,.hs 1 1 0 [a].length),(9,q6 1),(10,q6 0)],[(0,.dat 4 [[.nilsl,.nilsl,G 0,G 0]]),(1,.dat 1 ([a].map Yy)),(2,.cel 1 [[.hs 1 1 0 [a].length]]),(3,.cel 1 [[.hs 4 1 0 m.length]]),(4,.dat 1 (m.map (eI .i64)))],5⟩) (by simp) ?_ ?_
  ·refine qb ?_
   obtain ⟨ad,am,ac⟩:=q7 ac
   refine qq am J J<|qx (.d (.sl 4 (ad.map qm))) am J<|q9 J<|qp<|U J<|Qg J<|U J<|q8 ?_
   obtain ⟨ay,az,ac⟩:=q7 ac
   refine qu<|Q7 (q1u ad) (fun (w : Int × List Int)=>⟨[(1,.ref 2 1 0 0),(3,.ref 3 1 0 0),(8,.hs 1 1 0 [a].length),(9,q6 1),(10,q6 0),(14,.d (.sl 4 (ad.map qm))),(15,q6 (ad.length : Int)),(16,q6 w.1)],[(0,.dat 4 [[.nilsl,.nilsl,G 0,G 0]]),(1,.dat 1 ([a].map Yy)),(2,.cel 1 [[.hs 1 1 0 [a].length]]),(3,.cel 1 [[.hs 4 1 0 w.2.length]]),(4,.dat 1 (w.2.map (eI .i64)))],5⟩) (0,[]) ay az (wkA [(2,2),(3,3)] [] [4]) ?_
   intro w cd p
   unfold q1u at p
   refine qb<|O (.d (.bool (decide (w.1 < (ad.length : Int))))) J<|q8<|qe ?_
   refine qk J p (fun _ p=>?_) (fun _ p=>?_)
   ·refine ql<|qe<|qu<|qb ?_
    obtain ⟨g,ba,p⟩:=q7 p
    refine Q5 (enc:=qm) ba J<|O (.d (.agg [G g.X0,G g.Y0,G g.X1,G g.Y1])) J<|Qo J J<|Q8 5 (.dat 4 [[G g.X0,G g.Y0,G g.X1,G g.Y1]]) J<|q8<|qs<|O (.hs 4 1 0 w.2.length) J<|O (.ref 5 4 0 0) J<|O (q6 g.X0) J<|O (.ref 5 4 0 2) J<|O (q6 g.X1) J<|Qh (.hs 6 1 0 [g.X0,g.X1].length) (.dat 1 ([g.X0,g.X1].map (eI .i64))) J ?_
    obtain ⟨bb,bc,p⟩:=q7 p
    refine Ko (xs:=w.2) (ys:=[g.X0,g.X1]) (enc:=(eI .i64)) (.hs 6 1 0 [g.X0,g.X1].length) bc J J J J J J J (Kl J J) J J J J<|Q8 3 (.cel 1 [[.hs 7 1 0 bb.length]]) J<|qr<|Q9<|qs<|O (.d (G (w64 (w.1 + 1)))) J<|U J<|qr ?_
    exact ⟨_,(Option.some.inj p).symm,wkA [(2,2),(3,3),(4,7)] [] []⟩
   refine Q1 ?_
   refine ⟨_,(Option.some.inj p).symm,fun hm=>?_⟩
   subst hm
   obtain rfl:=qc ac
   exact ⟨_,J,wkA [(2,2),(3,3),(4,4)] [] []⟩
  intro m hb
  subst hb
  refine qs<|O (q6 1) J<|U J<|q8<|Uu<|qb<|O (qd false) J<|q8<|qe<|U6 J<|Q1<|q2a<|qb<|O (.hs 4 1 0 m.length) J ?_
  obtain ⟨ak,bd,l⟩:=q7 l
  obtain ⟨ce,be,l⟩:=q7 l
  have bf:=K5 be
  refine Qr [(0,4)] [(0,1),(1,1),(2,1),(3,1),(4,0)] [.hs 4 1 0 m.length] (.d (.tup [])) 1 [(4,.dat 1 (ak.map (eI .i64))),(0,.dat 4 [[.nilsl,.nilsl,G 0,G 0]]),(1,.dat 1 ([a].map Yy)),(2,.cel 1 [[.hs 1 1 0 [a].length]]),(3,.cel 1 [[.hs 4 1 0 m.length]])] 5 (qk0 m ak bd)<|qp<|O (.hs 4 1 0 m.length) J ?_
  obtain ⟨z,bg,l⟩:=q7 l
  obtain ⟨cf,bh,l⟩:=q7 l
  have cg:=K5 bh
  obtain ⟨ch,bi,l⟩:=q7 l
  have bj:=ql4 bi
  refine U4 [(0,4)] [(0,1),(1,1),(2,1),(3,1),(4,0)] [.hs 4 1 0 m.length] (.hs 4 1 z.1.1 z.1.2) [(4,.dat 1 (z.2.map (eI .i64)))] [(4,.dat 1 (z.2.map (eI .i64))),(0,.dat 4 [[.nilsl,.nilsl,G 0,G 0]]),(1,.dat 1 ([a].map Yy)),(2,.cel 1 [[.hs 1 1 0 [a].length]]),(3,.cel 1 [[.hs 4 1 0 m.length]])] 5 (qjy ak z bg) J J J (Y5 [(0,4)] [] [] J ⟨⟨_,J,Qp (by simp [bf]) J (by decide) (ltd J)⟩,trivial⟩ ⟨⟨ltd J,.inr ⟨by decide,_,J,.dat _ _⟩⟩,trivial⟩) (Y5 [(0,1),(1,1),(2,1),(3,1),(4,0)] [] [] J ⟨⟨_,J,.hs J (by decide) (ltd J)⟩,trivial⟩ ⟨⟨ltd J,.inr ⟨by decide,_,J,.dat _ _⟩⟩,trivial⟩) J ⟨.inl J,.inr ⟨J,J⟩,.inr ⟨J,J⟩,.inr ⟨J,J⟩,.inr ⟨J,J⟩,trivial⟩<|Q8 3 (.cel 1 [[.hs 4 1 z.1.1 z.1.2]]) J<|qp<|O (.fn 161 [.ref 3 1 0 0,.ref 2 1 0 0]) J<|q9 J<|qn ?_
  refine ⟨.inr J,_,J,?_⟩
  obtain rfl:=qc l
  exact ⟨_,J,wkE [(0,0),(1,3),(2,2),(3,1)] [4] [] J ⟨⟨_,J,.d (.refl _)⟩,⟨_,J,.d (.refl _)⟩,⟨_,J,.ref J (by decide) (ltd J)⟩,⟨_,J,(q44 (.cons (.ref J (by decide) (ltd J)) (.cons (.ref J (by decide) (ltd J)) .nil)))⟩,trivial⟩ ⟨⟨ltd J,.inr ⟨by decide,_,J,.dat _ _⟩⟩,⟨ltd J,.inr ⟨by decide,_,J,Jk (.cons (ql8 bj J (by decide)) J .nil)⟩⟩,⟨ltd J,.inr ⟨by decide,_,J,Jk (.cons (.hs J (by decide) (ltd J)) J .nil)⟩⟩,⟨ltd J,.inr ⟨by decide,_,J,.dat _ _⟩⟩,trivial⟩⟩
 intro h hb
 subst hb
 refine q8<|qu ?_
 obtain ⟨bk,al,u⟩:=q7 u
 refine qe2 (fun n=>n = bk) (fun (n : List qj × Int × Int × List qf)=>⟨[(4,.ref 0 4 0 0)],[(0,.cel 4 [[.hs 1 4 0 n.2.2.2.length,.d (.sl 2 (n.1.map Q3)),q6 n.2.1,q6 n.2.2.1]]),(1,.dat 4 (n.2.2.2.map qm))],2⟩) ?_ ?_
 ·refine Yj (st':=⟨[(2,.d (.nilsl)),(3,q6 0),(4,.ref 0 4 0 0),(10,.fn 161 [.ref 1 1 0 0,.ref 2 1 0 0])],[(0,.dat 4 [[.nilsl,.nilsl,G 0,G 0]]),(1,.cel 1 [[.d (.sl 1 (h.map (eI .i64)))]]),(2,.cel 1 [[.hs 3 1 0 [a].length]]),(3,.dat 1 ([a].map Yy))],4⟩) (wkA [(0,0),(1,1),(2,2),(3,3)] [] []) ?_ (by simp)
  refine qe3 [.ref 1 1 0 0,.ref 2 1 0 0] (.inl J) Tryz.func161 J (by kernel_rfl) (by kernel_rfl) J ?_
  intro A847 B848 hA847 hB848
  refine qb<|q9 J<|q8 ?_
  obtain ⟨bl,bm,al⟩:=q7 al
  refine qu<|Q7 (q1v h a) (fun (b : Int × List qj × Int × Int × List qf)=>⟨[(0,.yld 4),(1,.ref 1 1 0 0),(2,.ref 2 1 0 0),(4,q6 b.1)],[(0,.cel 4 [[.hs 5 4 0 b.2.2.2.2.length,.d (.sl 2 (b.2.1.map Q3)),q6 b.2.2.1,q6 b.2.2.2.1]]),(1,.cel 1 [[.d (.sl 1 (h.map (eI .i64)))]]),(2,.cel 1 [[.hs 3 1 0 [a].length]]),(3,.dat 1 ([a].map Yy)),(4,.loop [(2,.d (.nilsl)),(3,q6 0),(4,.ref 0 4 0 0),(10,.fn 161 [.ref 1 1 0 0,.ref 2 1 0 0])] [11] A847 B848 .ready none),(5,.dat 4 (b.2.2.2.2.map qm))],6⟩) (1,[],0,0,[]) bl bm (wkA [] [] [5]) ?_
  intro b ci j
  unfold q1v at j
  refine qe<|qb<|U J<|O (.d (.sl 1 (h.map (eI .i64)))) J<|Qg J<|O (.d (.bool (decide (b.1 < (h.length : Int))))) J<|q8 ?_
  refine qk J j (fun _ j=>?_) (fun _ j=>?_)
  ·refine ql<|qe<|qu<|qe<|Q4 [Qd 7,(some [],[7]),q0,(some [],[6]),q0,qo 2,q0,q0,q0,qo 1,q0,q0,q0,q0,qo 1] (by kernel_rfl)<|O (.d (.sl 1 (h.map (eI .i64)))) J<|U J<|O (.d (G (w64 (b.1 - 1)))) J ?_
   obtain ⟨f,bn,j⟩:=q7 j
   refine Q5 (enc:=(eI .i64)) bn J<|O (q6 f) J<|O (.d (.sl 1 (h.map (eI .i64)))) J<|U J ?_
   obtain ⟨k,bo,j⟩:=q7 j
   refine Q5 (enc:=(eI .i64)) bo J<|O (q6 k) J<|O (.hs 3 1 0 [a].length) J<|O (q6 1) J<|Qh (.hs 6 1 0 1) (.dat 1 [[.nilsl]]) J<|O (.agg [q6 f,q6 k,.hs 6 1 0 1]) J<|Qo J J<|Q8 7 (.cel 3 [[q6 f,q6 k,.hs 6 1 0 1]]) J<|q8<|qe<|qb<|O (.hs 3 1 0 [a].length) J<|O (q6 1) J<|U J<|q8<|qu<|Uu<|qb<|O (qd true) J<|q8<|qe<|q5b J<|ql<|qe ?_
   obtain ⟨bp,ae,j⟩:=q7 j
   refine Qb (fun s=>s = bp) (fun (s : List qj)=>⟨[(0,.yld 4),(1,.ref 1 1 0 0),(2,.ref 2 1 0 0),(4,q6 b.1),(5,.ref 5 3 0 0),(29,.hs 3 1 0 [a].length),(30,q6 1),(31,q6 0)],[(0,.cel 4 [[.hs 6 4 0 b.2.2.2.2.length,.d (.sl 2 (b.2.1.map Q3)),q6 b.2.2.1,q6 b.2.2.2.1]]),(1,.cel 1 [[.d (.sl 1 (h.map (eI .i64)))]]),(2,.cel 1 [[.hs 3 1 0 [a].length]]),(3,.dat 1 ([a].map Yy)),(4,.loop [(2,.d (.nilsl)),(3,q6 0),(4,.ref 0 4 0 0),(10,.fn 161 [.ref 1 1 0 0,.ref 2 1 0 0])] [11] A847 B848 .ready none),(5,.cel 3 [[q6 f,q6 k,.hs 7 1 0 1]]),(6,.dat 4 (b.2.2.2.2.map qm)),(7,.cel 1 [[.hs 8 2 0 s.length]]),(8,.dat 2 (s.map Q3))],9⟩) (by simp) ?_ ?_
   ·refine qb<|U J ?_
    obtain ⟨aa,an,ae⟩:=q7 ae
    refine qq an J J<|qx (.d (.sl 4 (aa.map qm))) an J<|q9 J<|q9 J<|qp<|U J<|Qg J<|U J<|q8 ?_
    obtain ⟨bq,br,ae⟩:=q7 ae
    refine qu<|Q7 (q3g aa f) (fun (t : Int × List qj)=>⟨[(0,.yld 4),(1,.ref 1 1 0 0),(2,.ref 2 1 0 0),(4,q6 b.1),(5,.ref 5 3 0 0),(6,q6 0),(29,.hs 3 1 0 [a].length),(30,q6 1),(31,q6 0),(36,.d (.sl 4 (aa.map qm))),(37,q6 (aa.length : Int)),(38,q6 t.1)],[(0,.cel 4 [[.hs 6 4 0 b.2.2.2.2.length,.d (.sl 2 (b.2.1.map Q3)),q6 b.2.2.1,q6 b.2.2.2.1]]),(1,.cel 1 [[.d (.sl 1 (h.map (eI .i64)))]]),(2,.cel 1 [[.hs 3 1 0 [a].length]]),(3,.dat 1 ([a].map Yy)),(4,.loop [(2,.d (.nilsl)),(3,q6 0),(4,.ref 0 4 0 0),(10,.fn 161 [.ref 1 1 0 0,.ref 2 1 0 0])] [11] A847 B848 .ready none),(5,.cel 3 [[q6 f,q6 k,.hs 7 1 0 1]]),(6,.dat 4 (b.2.2.2.2.map qm)),(7,.cel 1 [[.hs 8 2 0 t.2.length]]),(8,.dat 2 (t.2.map Q3))],9⟩) (0,[]) bq br (wkA [(5,7),(6,5),(7,6)] [] [8]) ?_
    intro t cj x
    unfold q3g at x
    refine qb<|O (.d (.bool (decide (t.1 < (aa.length : Int))))) J<|q8<|qe ?_
    refine qk J x (fun _ x=>?_) (fun _ x=>?_)
    ·refine ql<|qe ?_
     obtain ⟨bs,o,x⟩:=q7 x
     refine Qb (fun af=>af = bs) (fun (af : List qj)=>⟨[(0,.yld 4),(1,.ref 1 1 0 0),(2,.ref 2 1 0 0),(4,q6 b.1),(5,.ref 5 3 0 0),(6,q6 0),(29,.hs 3 1 0 [a].length),(30,q6 1),(31,q6 0),(36,.d (.sl 4 (aa.map qm))),(37,q6 (aa.length : Int)),(38,q6 t.1)],[(0,.cel 4 [[.hs 6 4 0 b.2.2.2.2.length,.d (.sl 2 (b.2.1.map Q3)),q6 b.2.2.1,q6 b.2.2.2.1]]),(1,.cel 1 [[.d (.sl 1 (h.map (eI .i64)))]]),(2,.cel 1 [[.hs 3 1 0 [a].length]]),(3,.dat 1 ([a].map Yy)),(4,.loop [(2,.d (.nilsl)),(3,q6 0),(4,.ref 0 4 0 0),(10,.fn 161 [.ref 1 1 0 0,.ref 2 1 0 0])] [11] A847 B848 .ready none),(5,.cel 3 [[q6 f,q6 k,.hs 7 1 0 1]]),(6,.dat 4 (b.2.2.2.2.map qm)),(7,.cel 1 [[.hs 8 2 0 af.length]]),(8,.dat 2 (af.map Q3))],9⟩) (by simp) ?_ ?_
     ·refine qb ?_
      obtain ⟨c,bt,o⟩:=q7 o
      refine Q5 (enc:=qm) bt J<|O (.d (.agg [G c.X0,G c.Y0,G c.X1,G c.Y1])) J<|Qo J J<|Q8 9 (.dat 4 [[G c.X0,G c.Y0,G c.X1,G c.Y1]]) J<|qp<|O (.ref 9 4 0 0) J<|O (q6 c.X0) J<|O (.ref 5 3 0 0) J<|O (q6 f) J<|O (.d (.bool (decide (c.X0≤f)))) J ?_
      obtain ⟨bu,ag,o⟩:=q7 o
      refine Q0 7 (fun A st=>∃ (ao ap aq ar au av : V),st = A [(53,qd bu),(52,av),(51,au),(50,ar),(49,aq),(48,ap),(47,ao)]) ?_ ?_
      ·refine qy J J ag (fun ag=>?_) (fun ag=>?_)
       ·refine O (.ref 5 3 0 0) J<|O (q6 f) J<|O (.ref 9 4 0 2) J<|O (q6 c.X1) J<|O (.d (.bool (decide (f < c.X1)))) J<|O (.d (.bool (decide (f < c.X1)))) J<|q8 ?_
        obtain rfl:=qc ag
        exact ⟨_,_,_,_,_,_,J⟩
       refine qa J<|qa J<|qa J<|qa J<|qa J<|O (qd false) J<|q8 ?_
       obtain rfl:=qc ag
       exact ⟨_,_,_,_,_,_,J⟩
      rintro _ ⟨ao,ap,aq,ar,au,av,rfl⟩
      refine q8 ?_
      refine qk J o (fun _ o=>?_) (fun _ o=>?_)
      ·refine Q4 [Qd 7,q0,(some [8,10],[8,11]),(some [],[10]),q0,qo 9,q0,qo 9,q0,qo 7,q0,q0,qo 5,q0,q0,qo 5,q0] (by kernel_rfl)<|O (.ref 5 3 0 2) J<|O (.hs 7 1 0 1) J<|U J<|O (.ref 5 3 0 2) J<|O (.hs 7 1 0 1) J<|U J<|O (.ref 7 1 0 0) J<|O (.hs 8 2 0 t.2.length) J<|O (.ref 9 4 0 1) J<|O (q6 c.Y0) J<|O (.ref 9 4 0 3) J<|O (q6 c.Y1) J<|O (.d (.agg [G c.Y0,G c.Y1])) J<|Qh (.hs 10 2 0 [({Lo:=c.Y0,Hi:=c.Y1} : qj)].length) (.dat 2 ([({Lo:=c.Y0,Hi:=c.Y1} : qj)].map Q3)) J ?_
       obtain ⟨bv,bw,o⟩:=q7 o
       refine Ko (xs:=t.2) (ys:=[({Lo:=c.Y0,Hi:=c.Y1} : qj)]) (enc:=Q3) (.hs 10 2 0 [({Lo:=c.Y0,Hi:=c.Y1} : qj)].length) bw J J J J J J J (Kl J J) J J J J<|O (.ref 7 1 0 0) J<|Q8 7 (.cel 1 [[.hs 11 2 0 bv.length]]) J<|qr ?_
       obtain rfl:=qc o
       exact ⟨_,J,wkA [(5,5),(6,6),(7,7),(8,11)] [] []⟩
      refine ql<|Qa ?_
      obtain rfl:=qc o
      exact ⟨_,J,wkA [(5,5),(6,6),(7,7),(8,8)] [] []⟩
     intro af hb
     subst hb
     refine qs<|O (.d (G (w64 (t.1 + 1)))) J<|U J<|qr ?_
     exact ⟨_,(Option.some.inj x).symm,wkA [(5,5),(6,6),(7,7),(8,8)] [] []⟩
    refine Q1 ?_
    refine ⟨_,(Option.some.inj x).symm,fun hm=>?_⟩
    subst hm
    obtain rfl:=qc ae
    exact ⟨_,J,wkA [(5,5),(6,6),(7,7),(8,8)] [] []⟩
   intro s hb
   subst hb
   refine qs<|O (q6 1) J<|U J<|q8<|Uu<|qb<|O (qd false) J<|q8<|qe<|U6 J<|Q1<|q2a<|qe ?_
   refine Yj (st':=⟨[(0,.yld 4),(1,.ref 1 1 0 0),(2,.ref 2 1 0 0),(4,q6 b.1),(5,.ref 5 3 0 0)],[(0,.cel 4 [[.hs 6 4 0 b.2.2.2.2.length,.d (.sl 2 (b.2.1.map Q3)),q6 b.2.2.1,q6 b.2.2.2.1]]),(1,.cel 1 [[.d (.sl 1 (h.map (eI .i64)))]]),(2,.cel 1 [[.hs 3 1 0 [a].length]]),(3,.dat 1 ([a].map Yy)),(4,.loop [(2,.d (.nilsl)),(3,q6 0),(4,.ref 0 4 0 0),(10,.fn 161 [.ref 1 1 0 0,.ref 2 1 0 0])] [11] A847 B848 .ready none),(5,.cel 3 [[q6 f,q6 k,.hs 7 1 0 1]]),(6,.dat 4 (b.2.2.2.2.map qm)),(7,.cel 1 [[.d (.sl 2 (s.map Q3))]])],8⟩) (wkA [(5,5),(6,6),(7,7)] [8] []) ?_ (by simp)
   refine qs<|U J<|O (.agg [q6 f,q6 k,.hs 7 1 0 1]) J ?_
   obtain ⟨bz,ah,j⟩:=q7 j
   refine qdj (fun y=>y = bz) (fun (y : List qj × Int × Int × List qf)=>⟨[(0,.yld 4),(1,.ref 1 1 0 0),(2,.ref 2 1 0 0),(4,q6 b.1),(74,qd true)],[(0,.cel 4 [[.hs 5 4 0 y.2.2.2.length,.d (.sl 2 (y.1.map Q3)),q6 y.2.1,q6 y.2.2.1]]),(1,.cel 1 [[.d (.sl 1 (h.map (eI .i64)))]]),(2,.cel 1 [[.hs 3 1 0 [a].length]]),(3,.dat 1 ([a].map Yy)),(4,.loop [(2,.d (.nilsl)),(3,q6 0),(4,.ref 0 4 0 0),(10,.fn 161 [.ref 1 1 0 0,.ref 2 1 0 0])] [11] A847 B848 .ready none),(5,.dat 4 (y.2.2.2.map qm))],6⟩) hA847 hB848 J J J J J J ?_ ?_
   ·refine qs<|Qo J J<|Q8 8 (.cel 3 [[q6 f,q6 k,.hs 7 1 0 1]]) J<|qr ?_
    refine ⟨J,_,J,?_⟩
    refine qu<|qb<|O (.ref 8 3 0 2) J<|O (.hs 7 1 0 1) J<|O (.ref 7 1 0 0) J<|O (.d (.sl 2 (s.map Q3))) J ?_
    obtain ⟨ai,ca,ah⟩:=q7 ah
    refine qt (qkh s ai ca) J<|U J<|O (.d (.sl 2 (ai.1.map Q3))) J<|O (q6 ai.2) J<|q9 J<|q9 J<|q8<|qs<|O (.ref 8 3 0 0) J<|O (q6 f) J<|O (.ref 8 3 0 1) J<|O (q6 k) J<|U J ?_
    obtain ⟨ab,cb,ah⟩:=q7 ah
    refine Qr [(0,0),(1,6)] [(0,0),(1,3),(2,3),(3,3),(4,3),(5,3),(6,1),(7,3),(8,3),(9,2)] [.ref 0 4 0 0,q6 f,q6 k,.d (.sl 2 (ai.1.map Q3))] (.d (.tup [])) 2 [(0,.cel 4 [[.hs 9 4 0 ab.2.2.2.length,.d (.sl 2 (ab.1.map Q3)),q6 ab.2.1,q6 ab.2.2.1]]),(9,.dat 4 (ab.2.2.2.map qm)),(1,.cel 1 [[.d (.sl 1 (h.map (eI .i64)))]]),(2,.cel 1 [[.hs 3 1 0 [a].length]]),(3,.dat 1 ([a].map Yy)),(4,.loop [(2,.d (.nilsl)),(3,q6 0),(4,.ref 0 4 0 0),(10,.fn 161 [.ref 1 1 0 0,.ref 2 1 0 0])] [11] A847 B848 .busy none),(5,.cel 3 [[q6 f,q6 k,.hs 7 1 0 1]]),(7,.cel 1 [[.d (.sl 2 (s.map Q3))]]),(8,.cel 3 [[q6 f,q6 k,.hs 7 1 0 1]])] 10 (qss b.2.2.2.2 b.2.1 b.2.2.1 b.2.2.2.1 f k ai.1 ab cb)<|qr<|Q9<|Qa ?_
    refine ⟨_,J,?_⟩
    obtain rfl:=qc ah
    exact ⟨_,J,wkA [(5,9)] [] []⟩
   intro y hb
   subst hb
   refine O (qd false) J<|q8<|U6 J<|ql<|Qa<|Q9<|qs<|U J<|O (.d (G (w64 (b.1 + 1)))) J<|q9 J<|qr ?_
   exact ⟨_,(Option.some.inj j).symm,wkA [(5,5)] [] []⟩
  refine Q1 ?_
  refine ⟨_,(Option.some.inj j).symm,fun hm=>?_⟩
  subst hm
  refine ⟨.inl J,_,J,_,_,.nor,J,by decide,?_⟩
  refine qbs<|Qa ?_
  obtain rfl:=qc al
  exact ⟨_,J,wkA [(0,0),(1,5)] [] []⟩
 intro n st hb hw
 subst hb
 refine Yj hw ?_ (by simp)
 refine qb ?_
 obtain ⟨cc,aj,u⟩:=q7 u
 refine q7b [.ref 0 4 0 0] (fun q=>q = cc) (fun (q : Int × List qf)=>⟨[(26,.tup [.hs 0 4 0 q.2.length,q6 q.1])],[(0,.dat 4 (q.2.map qm))],1⟩) J J Tryz.func139 J (by kernel_rfl) (by kernel_rfl) J ?_ ?_
 ·refine qb<|q9 J<|q9 J<|q8<|qe<|qb<|U J<|O (.ref 0 4 0 0) J<|O (.ref 0 4 0 0) J<|O (.hs 1 4 0 n.2.2.2.length) J<|O (q6 (n.2.2.2.length : Int)) J<|O (.d (.bool (decide ((n.2.2.2.length : Int) > 400)))) J<|q8 ?_
  refine qk J aj (fun _ aj=>?_) (fun _ aj=>?_)
  ·refine qb<|q9 J<|q9 J<|qn ?_
   refine ⟨.inr J,_,J,?_⟩
   obtain rfl:=qc aj
   exact ⟨_,J,wkA [] [] [0]⟩
  refine ql<|qb<|U J<|O (.ref 0 4 0 0) J<|O (.ref 0 4 0 0) J<|O (.hs 1 4 0 n.2.2.2.length) J<|q9 J<|q9 J<|qn ?_
  refine ⟨.inr J,_,J,?_⟩
  obtain rfl:=qc aj
  exact ⟨_,J,wkA [(0,1)] [] []⟩
 intro q hb
 subst hb
 refine O (.hs 0 4 0 q.2.length) J<|O (q6 q.1) J<|q9 J<|q9 J<|qn ?_
 obtain rfl:=qc u
 exact finD (.inr J) (v:=.tup [.hs 0 4 0 q.2.length,q6 q.1]) J (q9d (Ji (Z9 J J) (Ji J J))) (.refl _)
theorem qb2 (g : List qf) (h : List qf) (r : Bool) (b : U7 g h = some r) : Pure Tryz.prog tab 97 [.sl 4 (g.map qm),.sl 4 (h.map qm)] (.bool r):=by
 unfold U7 at b
 refine Qc Tryz.func97 J (by kernel_rfl) (by kernel_rfl) J<|qb<|q9 J<|q8<|qe<|qb<|U J<|Qg J<|U J<|Qg J<|O (.d (.bool ((g.length : Int) != (h.length : Int)))) J<|q8 ?_
 refine qk J b (fun _ b=>?_) (fun _ b=>?_)
 ·refine qb<|q9 J<|qn ?_
  obtain rfl:=qc b
  exact qv (qd false) J
 refine ql<|qe<|qb<|U J<|Qg J<|U J<|q8 ?_
 obtain ⟨l,m,b⟩:=q7 b
 refine Qb (fun k=>.inl k = l) (fun (k : Unit)=>⟨[],[],0⟩) (by simp) ?_ ?_
 ·refine Q7 (qb1 g h) (fun (j : Int)=>⟨[(0,.d (.sl 4 (g.map qm))),(1,.d (.sl 4 (h.map qm))),(12,q6 (g.length : Int)),(13,q6 j)],[],0⟩) 0 l m (wkA [] [] []) ?_
  intro j p a
  unfold qb1 at a
  refine qb<|O (.d (.bool (decide (j < (g.length : Int))))) J<|q8<|qe ?_
  refine qk J a (fun _ a=>?_) (fun _ a=>?_)
  ·refine ql<|qe<|qu<|qb<|U J<|q9 J<|q8<|qe<|Q4 [q0,q0,q0,q0,q0,q0,q0,q0,q0] (by kernel_rfl)<|U J<|U J ?_
   obtain ⟨c,n,a⟩:=q7 a
   refine Q5 (enc:=qm) n J<|O (.d (.agg [G c.X0,G c.Y0,G c.X1,G c.Y1])) J<|U J<|U J ?_
   obtain ⟨f,o,a⟩:=q7 a
   refine Q5 (enc:=qm) o J<|O (.d (.agg [G f.X0,G f.Y0,G f.X1,G f.Y1])) J<|O (.d (.bool (!((c.X0 == f.X0) && ((c.Y0 == f.Y0) && ((c.X1 == f.X1) && ((c.Y1 == f.Y1) && true))))))) J<|q8 ?_
   refine qk J a (fun _ a=>?_) (fun _ a=>?_)
   ·refine qb<|q9 J<|qn ?_
    refine ⟨_,(Option.some.inj a).symm,fun hm=>?_⟩
    subst hm
    obtain rfl:=qc b
    exact qv (qd false) J
   refine ql<|Qa<|Q9<|qs<|O (.d (G (w64 (j + 1)))) J<|U J<|qr ?_
   exact ⟨_,(Option.some.inj a).symm,wkA [] [] []⟩
  refine Q1 ?_
  refine ⟨_,(Option.some.inj a).symm,fun hm=>?_⟩
  subst hm
  exact ⟨_,J,wkA [] [] []⟩
 intro k hb
 subst hb
 refine qb<|q9 J<|qn ?_
 obtain rfl:=qc b
 exact qv (qd true) J
theorem qj9 (c : List qf) (r : Int) (a : q54 c = some r) : Pure Tryz.prog tab 49 [.sl 4 (c.map qm)] (G r):=by
 unfold q54 at a
 refine Qc Tryz.func49 J (by kernel_rfl) (by kernel_rfl) J<|qb<|q9 J<|q8<|qe<|qb<|U J<|Qg J<|O (.d (.bool (decide ((c.length : Int) > 400)))) J<|q8 ?_
 refine qk J a (fun _ a=>?_) (fun _ a=>?_)
 ·refine qb<|q9 J<|qn ?_
  obtain rfl:=qc a
  exact qv (q6 4) J
 refine ql<|qe<|qb<|U J ?_
 obtain ⟨o,p,a⟩:=q7 a
 refine qt (qum c (fun g=>q1r g) 94 [] (fun g r hr=>qsq g r hr) o p) J<|q8 ?_
 refine qk J a (fun _ a=>?_) (fun _ a=>?_)
 ·refine qb<|q9 J<|qn ?_
  obtain rfl:=qc a
  exact qv (q6 8) J
 refine ql<|qe<|qb<|U J ?_
 obtain ⟨f,q,a⟩:=q7 a
 refine qt (qjc c f q) J<|U J<|O (.d (.sl 4 (f.1.map qm))) J<|O (q6 f.2) J<|q9 J<|q9 J<|qp<|U J<|O (qd (f.2 != 0)) J ?_
 obtain ⟨s,b,a⟩:=q7 a
 refine Q0 6 (fun A st=>∃ (j k l m n : V),st = A [(22,qd s),(21,n),(20,m),(19,l),(18,k),(17,j)]) ?_ ?_
 ·refine qy J J b (fun b=>?_) (fun b=>?_)
  ·refine qa J<|qa J<|qa J<|qa J<|O (qd true) J<|q8 ?_
   obtain rfl:=qc b
   exact ⟨_,_,_,_,_,J⟩
  refine U J<|U J ?_
  obtain ⟨h,t,b⟩:=q7 b
  refine qt (qb2 f.1 c h t) J<|O (qd (!h)) J<|O (qd (!h)) J<|q8 ?_
  obtain rfl:=qc b
  exact ⟨_,_,_,_,_,J⟩
 rintro _ ⟨j,k,l,m,n,rfl⟩
 refine q8 ?_
 refine qk J a (fun _ a=>?_) (fun _ a=>?_)
 ·refine qb<|q9 J<|qn ?_
  obtain rfl:=qc a
  exact qv (q6 8) J
 refine ql<|qb<|q9 J<|qn ?_
 obtain rfl:=qc a
 exact qv (q6 0) J
theorem qdy (a : Int) (r : Bool) (c : q4z a = some r) : Pure Tryz.prog tab 50 [G a] (.bool r):=by
 unfold q4z at c
 refine Qc Tryz.func50 J (by kernel_rfl) (by kernel_rfl) J<|qb<|q9 J<|qp<|U J<|O (.d (.bool (decide (a ≥ (-1000000))))) J ?_
 obtain ⟨f,b,c⟩:=q7 c
 refine Q0 4 (fun A st=>∃ (g h j : V),st = A [(8,qd f),(7,j),(6,h),(5,g)]) ?_ ?_
 ·refine qy J J b (fun b=>?_) (fun b=>?_)
  ·refine U J<|O (.d (.bool (decide (a≤1000000)))) J<|O (.d (.bool (decide (a≤1000000)))) J<|q8 ?_
   obtain rfl:=qc b
   exact ⟨_,_,_,J⟩
  refine qa J<|qa J<|O (qd false) J<|q8 ?_
  obtain rfl:=qc b
  exact ⟨_,_,_,J⟩
 rintro _ ⟨g,h,j,rfl⟩
 refine q9 J<|qn ?_
 obtain rfl:=qc c
 exact qv (qd f) J
theorem qsm (j : Int) (k : Int) (f : Int) (b : Int) (g : List qf) (r : List qf × Int × Int × List qg) (c : q7r  j k f b g = some r) : Qq Tryz.prog tab 51 [.ref 0 4 0 0,q6 f,q6 b,.d (.sl 4 (g.map qm))] [(0,.dat 4 [[.nilsl,.nilsl,G j,G k]])] 1 (.d (.tup [])) [(0,.cel 4 [[.hs 1 6 0 r.2.2.2.length,.d (.sl 4 (r.1.map qm)),q6 r.2.1,q6 r.2.2.1]]),(1,.dat 6 (r.2.2.2.map qw))] 2:=by
 unfold q7r at c
 refine Qx Tryz.func51 J (by kernel_rfl) (by kernel_rfl) J<|qe<|qb<|U J<|Qg J<|O (.d (.bool (decide ((g.length : Int) > 0)))) J ?_
 obtain ⟨ah,o,c⟩:=q7 c
 refine Q0 8 (fun A st=>∃ (q s t u v w x : V),st = A [(21,qd ah),(20,x),(19,w),(18,v),(17,u),(16,t),(15,s),(14,q)]) ?_ ?_
 ·refine qy J J o (fun o=>?_) (fun o=>?_)
  ·refine U J<|O (.ref 0 4 0 0) J<|O (.ref 0 4 0 3) J<|O (q6 k) J<|U J<|O (qd (k == f)) J<|O (qd (k == f)) J<|q8 ?_
   obtain rfl:=qc o
   exact ⟨_,_,_,_,_,_,_,J⟩
  refine qa J<|qa J<|qa J<|qa J<|qa J<|qa J<|O (qd false) J<|q8 ?_
  obtain rfl:=qc o
  exact ⟨_,_,_,_,_,_,_,J⟩
 rintro _ ⟨q,s,t,u,v,w,x,rfl⟩
 obtain ⟨ai,m,c⟩:=q7 c
 refine Q0 8 (fun A st=>∃ (y z aa ab ac ad ae : V),st = A [(29,qd ai),(28,ae),(27,ad),(26,ac),(25,ab),(24,aa),(23,z),(22,y)]) ?_ ?_
 ·refine qy J J m (fun m=>?_) (fun m=>?_)
  ·refine U J<|O (.ref 0 4 0 0) J<|O (.ref 0 4 0 1) J<|O (.d (.nilsl)) J<|U J ?_
   obtain ⟨af,aj,m⟩:=q7 m
   refine qt (q7e (.cons (.nil _) (.cons (.refl _) .nil)) (qb2 [] g af aj)) J<|O (qd af) J<|q8 ?_
   obtain rfl:=qc m
   exact ⟨_,_,_,_,_,_,_,J⟩
  refine qa J<|qa J<|qa J<|qa J<|qa J<|qa J<|O (qd false) J<|q8 ?_
  obtain rfl:=qc m
  exact ⟨_,_,_,_,_,_,_,J⟩
 rintro _ ⟨y,z,aa,ab,ac,ad,ae,rfl⟩
 refine q8 ?_
 refine qk J c (fun _ c=>?_) (fun _ c=>?_)
 ·refine qe<|qb<|U J<|O (.ref 0 4 0 0) J<|O (.ref 0 4 0 2) J<|O (q6 j) J<|q9 J<|q8 ?_
  obtain ⟨ag,ak,c⟩:=q7 c
  refine Qb (fun p=>p = ag) (fun (p : Unit)=>⟨[(0,.ref 0 4 0 0),(2,q6 b)],[(0,.dat 4 [[.nilsl,.nilsl,G j,G k]])],1⟩) (by simp) ?_ ?_
  ·refine Q7 (qdz j) (fun (al : Unit)=>⟨[(0,.ref 0 4 0 0),(2,q6 b),(8,q6 j)],[(0,.dat 4 [[.nilsl,.nilsl,G j,G k]])],1⟩) () ag ak (wkA [] [] []) ?_
   intro al ar n
   unfold qdz at n
   refine qe<|qb<|U J<|U J<|O (.ref 0 4 0 0) J<|O (.ref 0 4 0 0) J<|O (.d (.nilsl)) J<|O (q6 0) J<|O (.d (.bool (decide (j < 0)))) J<|q8 ?_
   refine qk J n (fun _ n=>?_) (fun _ n=>?_)
   ·refine ql<|qe<|qu<|qs<|U J<|O (.ref 0 4 0 0) J<|O (.ref 0 4 0 0) J<|O (.d (.nilsl)) J<|U J<|U J ?_
    cases n
   refine Q1 ?_
   refine ⟨_,(Option.some.inj n).symm,fun hm=>?_⟩
   subst hm
   exact ⟨_,J,wkA [] [] []⟩
  intro p hb
  subst hb
  refine qb<|U J<|U J<|O (.ref 0 4 0 0) J<|O (.ref 0 4 0 3) J<|Q8 0 (.dat 4 [[.nilsl,.nilsl,G j,G b]]) J<|qn ?_
  obtain rfl:=qc c
  exact ⟨.inr J,_,J,wkA [] [] [1]⟩
 refine ql<|qb<|U J<|U J<|U J<|U J<|O (.ref 0 4 0 0) J<|O (.ref 0 4 0 0) J<|O (.d (.nilsl)) J<|O (q6 0) J<|U J<|U J<|O (.ref 0 4 0 0) J<|O (.ref 0 4 0 2) J<|Q8 0 (.dat 4 [[.nilsl,.nilsl,G 0,G k]]) J<|O (.ref 0 4 0 0) J<|O (.ref 0 4 0 1) J<|Q8 0 (.dat 4 [[.nilsl,.sl 4 (g.map qm),G 0,G k]]) J<|O (.ref 0 4 0 0) J<|O (.ref 0 4 0 3) J<|Q8 0 (.dat 4 [[.nilsl,.sl 4 (g.map qm),G 0,G b]]) J<|qp<|U J<|Qg J<|U J<|q8 ?_
 obtain ⟨am,an,c⟩:=q7 c
 refine qu<|Q7 (q50 g f b) (fun (l : Int × List qg)=>⟨[(0,.ref 0 4 0 0),(1,q6 f),(2,q6 b),(72,.d (.sl 4 (g.map qm))),(73,q6 (g.length : Int)),(74,q6 l.1)],[(0,.cel 4 [[.hs 1 6 0 l.2.length,.d (.sl 4 (g.map qm)),q6 0,q6 b]]),(1,.dat 6 (l.2.map qw))],2⟩) (0,[]) am an (wkA [] [] [1]) ?_
 intro l au h
 unfold q50 at h
 refine qb<|O (.d (.bool (decide (l.1 < (g.length : Int))))) J<|q8<|qe ?_
 refine qk J h (fun _ h=>?_) (fun _ h=>?_)
 ·refine ql<|qe<|qu<|qb ?_
  obtain ⟨a,ao,h⟩:=q7 h
  refine Q5 (enc:=qm) ao J<|O (.d (.agg [G a.X0,G a.Y0,G a.X1,G a.Y1])) J<|Qo J J<|Q8 2 (.dat 4 [[G a.X0,G a.Y0,G a.X1,G a.Y1]]) J<|q8<|Q4 [Qd 0,q0,q0,(some [1,3],[1,4]),(some [],[3]),q0,q0,q0,qo 2,q0,qo 2,q0,q0,q0,qo 2,q0,qo 2,q0,qo 0,q0,q0,q0,q0] (by kernel_rfl)<|U J<|U J<|O (.ref 0 4 0 0) J<|O (.ref 0 4 0 0) J<|O (.hs 1 6 0 l.2.length) J<|O (.ref 2 4 0 0) J<|O (q6 a.X0) J<|O (.ref 2 4 0 1) J<|O (q6 a.Y0) J<|U J<|O (.d (.agg [G a.X0,G a.Y0,G f])) J<|O (.ref 2 4 0 2) J<|O (q6 a.X1) J<|O (.ref 2 4 0 3) J<|O (q6 a.Y1) J<|U J<|O (.d (.agg [G a.X1,G a.Y1,G b])) J<|O (.d (.agg [G a.X0,G a.Y0,G f,G a.X1,G a.Y1,G b])) J<|Qh (.hs 3 6 0 [({Lo:=({X:=a.X0,Y:=a.Y0,Z:=f} : qi),Hi:=({X:=a.X1,Y:=a.Y1,Z:=b} : qi)} : qg)].length) (.dat 6 ([({Lo:=({X:=a.X0,Y:=a.Y0,Z:=f} : qi),Hi:=({X:=a.X1,Y:=a.Y1,Z:=b} : qi)} : qg)].map qw)) J ?_
  obtain ⟨ap,aq,h⟩:=q7 h
  refine Ko (xs:=l.2) (ys:=[({Lo:=({X:=a.X0,Y:=a.Y0,Z:=f} : qi),Hi:=({X:=a.X1,Y:=a.Y1,Z:=b} : qi)} : qg)]) (enc:=qw) (.hs 3 6 0 [({Lo:=({X:=a.X0,Y:=a.Y0,Z:=f} : qi),Hi:=({X:=a.X1,Y:=a.Y1,Z:=b} : qi)} : qg)].length) aq J J J J J J J (Kl J J) J J J J<|O (.ref 0 4 0 0) J<|O (.ref 0 4 0 0) J<|Q8 0 (.cel 4 [[.hs 4 6 0 ap.length,.d (.sl 4 (g.map qm)),q6 0,q6 b]]) J<|qr<|Q9<|qs<|O (.d (G (w64 (l.1 + 1)))) J<|U J<|qr ?_
  exact ⟨_,(Option.some.inj h).symm,wkA [(1,4)] [] []⟩
 refine Q1 ?_
 refine ⟨_,(Option.some.inj h).symm,fun hm=>?_⟩
 subst hm
 obtain rfl:=qc c
 exact ⟨.inl J,_,J,wkA [(1,1)] [] []⟩
theorem qsg (j : List qf) (f : Int) (g : Int) (r : List qg × Int) (a : q4y j f g = some r) : Pure Tryz.prog tab 11 [.sl 4 (j.map qm),G f,G g] (.tup [.sl 6 (r.1.map qw),G r.2]):=by
 unfold q4y at a
 refine Qc Tryz.func11 J (by kernel_rfl) (by kernel_rfl) J<|qb<|q9 J<|q9 J<|q8<|qe<|qb<|U J ?_
 obtain ⟨m,z,a⟩:=q7 a
 refine qt (qj9 j m z) J<|q9 J<|qp<|U J<|O (qd (m != 0)) J<|q8 ?_
 refine qk J a (fun _ a=>?_) (fun _ a=>?_)
 ·refine qb<|U J<|q9 J<|q9 J<|qn ?_
  obtain rfl:=qc a
  exact finD (.inr J) (v:=.d (.tup [.nilsl,G m])) J J (Ys (.cons (.nil _) (.cons (.refl _) .nil)))
 refine ql<|qe<|qb<|U J ?_
 obtain ⟨o,h4,a⟩:=q7 a
 refine qt (qdy f o h4) J<|O (qd (!o)) J ?_
 obtain ⟨c7,h,a⟩:=q7 a
 refine Q0 5 (fun A st=>∃ (p q s t : V),st = A [(22,qd c7),(21,t),(20,s),(19,q),(18,p)]) ?_ ?_
 ·refine qy J J h (fun h=>?_) (fun h=>?_)
  ·refine qa J<|qa J<|qa J<|O (qd true) J<|q8 ?_
   obtain rfl:=qc h
   exact ⟨_,_,_,_,J⟩
  refine U J ?_
  obtain ⟨n,ac,h⟩:=q7 h
  refine qt (qdy g n ac) J<|O (qd (!n)) J<|O (qd (!n)) J<|q8 ?_
  obtain rfl:=qc h
  exact ⟨_,_,_,_,J⟩
 rintro _ ⟨p,q,s,t,rfl⟩
 obtain ⟨ad,k,a⟩:=q7 a
 refine Q0 5 (fun A st=>∃ (u w x y : V),st = A [(27,qd ad),(26,y),(25,x),(24,w),(23,u)]) ?_ ?_
 ·refine qy J J k (fun k=>?_) (fun k=>?_)
  ·refine qa J<|qa J<|qa J<|O (qd true) J<|q8 ?_
   obtain rfl:=qc k
   exact ⟨_,_,_,_,J⟩
  refine U J<|U J<|O (.d (.bool (decide (f ≥ g)))) J<|O (.d (.bool (decide (f ≥ g)))) J<|q8 ?_
  obtain rfl:=qc k
  exact ⟨_,_,_,_,J⟩
 rintro _ ⟨u,w,x,y,rfl⟩
 refine q8 ?_
 refine qk J a (fun _ a=>?_) (fun _ a=>?_)
 ·refine qb<|q9 J<|q9 J<|qn ?_
  obtain rfl:=qc a
  exact finD (.inr J) (v:=.d (.tup [.nilsl,G 2])) J J (Ys (.cons (.nil _) (.cons (.refl _) .nil)))
 refine ql<|qb<|Qo J J<|qp<|U J<|U J<|U J ?_
 obtain ⟨b,ae,a⟩:=q7 a
 refine Qr [(0,0)] [(0,0),(1,1)] [.ref 0 4 0 0,q6 f,q6 g,.d (.sl 4 (j.map qm))] (.d (.tup [])) 2 [(0,.cel 4 [[.hs 1 6 0 b.2.2.2.length,.d (.sl 4 (b.1.map qm)),q6 b.2.1,q6 b.2.2.1]]),(1,.dat 6 (b.2.2.2.map qw))] 2 (qsm 0 0 f g j b ae)<|qp ?_
 obtain ⟨af,l,a⟩:=q7 a
 refine q7b [.ref 0 4 0 0] (fun c=>c = af) (fun (c : Int × List qg)=>⟨[(32,.tup [.hs 0 6 0 c.2.length,q6 c.1])],[(0,.dat 6 (c.2.map qw))],1⟩) J J Tryz.func52 J (by kernel_rfl) (by kernel_rfl) J ?_ ?_
 ·refine qb<|q9 J<|q9 J<|q8<|qe<|qb<|U J<|O (.ref 0 4 0 0) J<|O (.ref 0 4 0 0) J<|O (.hs 1 6 0 b.2.2.2.length) J<|O (q6 (b.2.2.2.length : Int)) J<|O (.d (.bool (decide ((b.2.2.2.length : Int) > 400)))) J<|q8 ?_
  refine qk J l (fun _ l=>?_) (fun _ l=>?_)
  ·refine qb<|q9 J<|q9 J<|qn ?_
   refine ⟨.inr J,_,J,?_⟩
   obtain rfl:=qc l
   exact ⟨_,J,wkA [] [] [0]⟩
  refine ql<|qb<|U J<|O (.ref 0 4 0 0) J<|O (.ref 0 4 0 0) J<|O (.hs 1 6 0 b.2.2.2.length) J<|q9 J<|q9 J<|qn ?_
  refine ⟨.inr J,_,J,?_⟩
  obtain rfl:=qc l
  exact ⟨_,J,wkA [(0,1)] [] []⟩
 intro c hb
 subst hb
 refine O (.hs 0 6 0 c.2.length) J<|O (q6 c.1) J<|q9 J<|q9 J<|qn ?_
 obtain rfl:=qc a
 exact finD (.inr J) (v:=.tup [.hs 0 6 0 c.2.length,q6 c.1]) J (q9d (Ji (Z9 J J) (Ji J J))) (.refl _)
theorem quu (f : List qg) (j : qg→Option Bool) (p1F : FuncId) (p1C : List DV) (p1Ok : ∀ (c : qg) (r : Bool),j c = some r→Pure Tryz.prog tab p1F ([.agg [G c.Lo.X,G c.Lo.Y,G c.Lo.Z,G c.Hi.X,G c.Hi.Y,G c.Hi.Z]] ++ p1C) (.bool r)) (r : Int) (g : q82 f j = some r) : Pure Tryz.prog tab 117 [.sl 6 (f.map qw),.fn p1F p1C] (G r):=by
 unfold q82 at g
 refine Qc Tryz.func117 J (by kernel_rfl) (by kernel_rfl) J<|qb<|q9 J<|q8<|qe<|qb<|U J<|Qg J<|U J<|q8 ?_
 obtain ⟨l,m,g⟩:=q7 g
 refine Qb (fun k=>.inl k = l) (fun (k : Unit)=>⟨[],[],0⟩) (by simp) ?_ ?_
 ·refine Q7 (U8 f j) (fun (h : Int)=>⟨[(0,.d (.sl 6 (f.map qw))),(1,.d (.fn p1F p1C)),(7,q6 (f.length : Int)),(8,q6 h)],[],0⟩) 0 l m (wkA [] [] []) ?_
  intro h q a
  unfold U8 at a
  refine qb<|O (.d (.bool (decide (h < (f.length : Int))))) J<|q8<|qe ?_
  refine qk J a (fun _ a=>?_) (fun _ a=>?_)
  ·refine ql<|qe<|qu<|qb<|U J<|q9 J<|qp<|U J<|U J<|U J ?_
   obtain ⟨b,n,a⟩:=q7 a
   refine Q5 (enc:=qw) n J<|O (.d (.agg [G b.Lo.X,G b.Lo.Y,G b.Lo.Z,G b.Hi.X,G b.Hi.Y,G b.Hi.Z])) J ?_
   obtain ⟨o,p,a⟩:=q7 a
   refine Kz [.d (.agg [G b.Lo.X,G b.Lo.Y,G b.Lo.Z,G b.Hi.X,G b.Hi.Y,G b.Hi.Z])] (p1Ok b o p) J J J (.inl J)<|q8 ?_
   refine qk J a (fun _ a=>?_) (fun _ a=>?_)
   ·refine qb<|U J<|q9 J<|qn ?_
    refine ⟨_,(Option.some.inj a).symm,fun hm=>?_⟩
    subst hm
    obtain rfl:=qc g
    exact qv (q6 h) J
   refine ql<|Qa<|Q9<|qs<|O (.d (G (w64 (h + 1)))) J<|U J<|qr ?_
   exact ⟨_,(Option.some.inj a).symm,wkA [] [] []⟩
  refine Q1 ?_
  refine ⟨_,(Option.some.inj a).symm,fun hm=>?_⟩
  subst hm
  exact ⟨_,J,wkA [] [] []⟩
 intro k hb
 subst hb
 refine qb<|q9 J<|qn ?_
 obtain rfl:=qc g
 exact qv (q6 (-1)) J
theorem qjz (c : List qg) (f : qg→Option Bool) (p1F : FuncId) (p1C : List DV) (p1Ok : ∀ (a : qg) (r : Bool),f a = some r→Pure Tryz.prog tab p1F ([.agg [G a.Lo.X,G a.Lo.Y,G a.Lo.Z,G a.Hi.X,G a.Hi.Y,G a.Hi.Z]] ++ p1C) (.bool r)) (r : Bool) (b : q3i c f = some r) : Pure Tryz.prog tab 72 [.sl 6 (c.map qw),.fn p1F p1C] (.bool r):=by
 unfold q3i at b
 refine Qc Tryz.func72 J (by kernel_rfl) (by kernel_rfl) J<|qb<|q9 J<|qp<|U J<|U J ?_
 obtain ⟨g,h,b⟩:=q7 b
 refine qt (quu c f p1F p1C p1Ok g h) J<|O (.d (.bool (decide (g ≥ 0)))) J<|q9 J<|qn ?_
 obtain rfl:=qc b
 exact qv (.d (.bool (decide (g ≥ 0)))) J
theorem qkb (a : qi) (r : Bool) (c : q6d a = some r) : Pure Tryz.prog tab 140 [.agg [G a.X,G a.Y,G a.Z]] (.bool r):=by
 unfold q6d at c
 refine Qc Tryz.func140 J (by kernel_rfl) (by kernel_rfl) J<|qb<|Qh (.ref 0 3 0 0) (.dat 3 [[G a.X,G a.Y,G a.Z]]) J<|q9 J<|qp<|O (.ref 0 3 0 0) J<|O (q6 a.X) J<|O (.ref 0 3 0 1) J<|O (q6 a.Y) J<|O (.ref 0 3 0 2) J<|O (q6 a.Z) J<|qdg (r:=min (min a.X a.Y) a.Z) J J (by simp only [qd6];rfl)<|O (.d (.bool (decide ((min (min a.X a.Y) a.Z) ≥ (-1000000))))) J ?_
 obtain ⟨f,b,c⟩:=q7 c
 refine Q0 10 (fun A st=>∃ (g h j k l m n o p : V),st = A [(20,qd f),(19,p),(18,o),(17,n),(16,m),(15,l),(14,k),(13,j),(12,h),(11,g)]) ?_ ?_
 ·refine qy J J b (fun b=>?_) (fun b=>?_)
  ·refine O (.ref 0 3 0 0) J<|O (q6 a.X) J<|O (.ref 0 3 0 1) J<|O (q6 a.Y) J<|O (.ref 0 3 0 2) J<|O (q6 a.Z) J<|qdf (r:=max (max a.X a.Y) a.Z) J J (by simp only [qd5];rfl)<|O (.d (.bool (decide ((max (max a.X a.Y) a.Z)≤1000000)))) J<|O (.d (.bool (decide ((max (max a.X a.Y) a.Z)≤1000000)))) J<|q8 ?_
   obtain rfl:=qc b
   exact ⟨_,_,_,_,_,_,_,_,_,J⟩
  refine qa J<|qa J<|qa J<|qa J<|qa J<|qa J<|qa J<|qa J<|O (qd false) J<|q8 ?_
  obtain rfl:=qc b
  exact ⟨_,_,_,_,_,_,_,_,_,J⟩
 rintro _ ⟨g,h,j,k,l,m,n,o,p,rfl⟩
 refine q9 J<|qn ?_
 obtain rfl:=qc c
 exact qv (qd f) J
theorem qxv (a : qg) (r : Bool) (b : q8x a = some r) : Pure Tryz.prog tab 100 [.agg [G a.Lo.X,G a.Lo.Y,G a.Lo.Z,G a.Hi.X,G a.Hi.Y,G a.Hi.Z]] (.bool r):=by
 unfold q8x at b
 refine Qc Tryz.func100 J (by kernel_rfl) (by kernel_rfl) J<|qb<|Qh (.ref 0 6 0 0) (.dat 6 [[G a.Lo.X,G a.Lo.Y,G a.Lo.Z,G a.Hi.X,G a.Hi.Y,G a.Hi.Z]]) J<|q9 J<|qp<|O (.ref 0 6 0 0) J<|O (.ref 0 6 0 0) J<|O (q6 a.Lo.X) J<|O (.ref 0 6 0 3) J<|O (.ref 0 6 0 3) J<|O (q6 a.Hi.X) J<|O (.d (.bool (decide (a.Lo.X < a.Hi.X)))) J ?_
 obtain ⟨c1,g,b⟩:=q7 b
 refine Q0 9 (fun A st=>∃ (j k l m n o p q : V),st = A [(18,qd c1),(17,q),(16,p),(15,o),(14,n),(13,m),(12,l),(11,k),(10,j)]) ?_ ?_
 ·refine qy J J g (fun g=>?_) (fun g=>?_)
  ·refine O (.ref 0 6 0 0) J<|O (.ref 0 6 0 1) J<|O (q6 a.Lo.Y) J<|O (.ref 0 6 0 3) J<|O (.ref 0 6 0 4) J<|O (q6 a.Hi.Y) J<|O (.d (.bool (decide (a.Lo.Y < a.Hi.Y)))) J<|O (.d (.bool (decide (a.Lo.Y < a.Hi.Y)))) J<|q8 ?_
   obtain rfl:=qc g
   exact ⟨_,_,_,_,_,_,_,_,J⟩
  refine qa J<|qa J<|qa J<|qa J<|qa J<|qa J<|qa J<|O (qd false) J<|q8 ?_
  obtain rfl:=qc g
  exact ⟨_,_,_,_,_,_,_,_,J⟩
 rintro _ ⟨j,k,l,m,n,o,p,q,rfl⟩
 obtain ⟨am,h,b⟩:=q7 b
 refine Q0 9 (fun A st=>∃ (s t u v w x y z : V),st = A [(27,qd am),(26,z),(25,y),(24,x),(23,w),(22,v),(21,u),(20,t),(19,s)]) ?_ ?_
 ·refine qy J J h (fun h=>?_) (fun h=>?_)
  ·refine O (.ref 0 6 0 0) J<|O (.ref 0 6 0 2) J<|O (q6 a.Lo.Z) J<|O (.ref 0 6 0 3) J<|O (.ref 0 6 0 5) J<|O (q6 a.Hi.Z) J<|O (.d (.bool (decide (a.Lo.Z < a.Hi.Z)))) J<|O (.d (.bool (decide (a.Lo.Z < a.Hi.Z)))) J<|q8 ?_
   obtain rfl:=qc h
   exact ⟨_,_,_,_,_,_,_,_,J⟩
  refine qa J<|qa J<|qa J<|qa J<|qa J<|qa J<|qa J<|O (qd false) J<|q8 ?_
  obtain rfl:=qc h
  exact ⟨_,_,_,_,_,_,_,_,J⟩
 rintro _ ⟨s,t,u,v,w,x,y,z,rfl⟩
 obtain ⟨an,c,b⟩:=q7 b
 refine Q0 5 (fun A st=>∃ (aa ab ac ad : V),st = A [(32,qd an),(31,ad),(30,ac),(29,ab),(28,aa)]) ?_ ?_
 ·refine qy J J c (fun c=>?_) (fun c=>?_)
  ·refine O (.ref 0 6 0 0) J<|O (.d (.agg [G a.Lo.X,G a.Lo.Y,G a.Lo.Z])) J ?_
   obtain ⟨ae,ao,c⟩:=q7 c
   refine qt (qkb a.Lo ae ao) J<|O (qd ae) J<|q8 ?_
   obtain rfl:=qc c
   exact ⟨_,_,_,_,J⟩
  refine qa J<|qa J<|qa J<|O (qd false) J<|q8 ?_
  obtain rfl:=qc c
  exact ⟨_,_,_,_,J⟩
 rintro _ ⟨aa,ab,ac,ad,rfl⟩
 obtain ⟨af,f,b⟩:=q7 b
 refine Q0 5 (fun A st=>∃ (ag ah ai aj : V),st = A [(37,qd af),(36,aj),(35,ai),(34,ah),(33,ag)]) ?_ ?_
 ·refine qy J J f (fun f=>?_) (fun f=>?_)
  ·refine O (.ref 0 6 0 3) J<|O (.d (.agg [G a.Hi.X,G a.Hi.Y,G a.Hi.Z])) J ?_
   obtain ⟨ak,ap,f⟩:=q7 f
   refine qt (qkb a.Hi ak ap) J<|O (qd ak) J<|q8 ?_
   obtain rfl:=qc f
   exact ⟨_,_,_,_,J⟩
  refine qa J<|qa J<|qa J<|O (qd false) J<|q8 ?_
  obtain rfl:=qc f
  exact ⟨_,_,_,_,J⟩
 rintro _ ⟨ag,ah,ai,aj,rfl⟩
 refine q9 J<|qn ?_
 obtain rfl:=qc b
 exact qv (qd af) J
theorem qxk (a : qg) (r : Bool) (b : q23 a = some r) : Pure Tryz.prog tab 99 [.agg [G a.Lo.X,G a.Lo.Y,G a.Lo.Z,G a.Hi.X,G a.Hi.Y,G a.Hi.Z]] (.bool r):=by
 unfold q23 at b
 refine Qc Tryz.func99 J (by kernel_rfl) (by kernel_rfl) J<|qb<|Qh (.ref 0 6 0 0) (.dat 6 [[G a.Lo.X,G a.Lo.Y,G a.Lo.Z,G a.Hi.X,G a.Hi.Y,G a.Hi.Z]]) J<|q9 J<|qp<|O (.d (.agg [G a.Lo.X,G a.Lo.Y,G a.Lo.Z,G a.Hi.X,G a.Hi.Y,G a.Hi.Z])) J ?_
 obtain ⟨c,f,b⟩:=q7 b
 refine qt (qxv a c f) J<|O (qd (!c)) J<|q9 J<|qn ?_
 obtain rfl:=qc b
 exact qv (qd (!c)) J
theorem qus (c : List qf) (j : qf→Option Bool) (p1F : FuncId) (p1C : List DV) (p1Ok : ∀ (f : qf) (r : Bool),j f = some r→Pure Tryz.prog tab p1F ([.agg [G f.X0,G f.Y0,G f.X1,G f.Y1]] ++ p1C) (.bool r)) (r : Int) (g : qb5 c j = some r) : Pure Tryz.prog tab 112 [.sl 4 (c.map qm),.fn p1F p1C] (G r):=by
 unfold qb5 at g
 refine Qc Tryz.func112 J (by kernel_rfl) (by kernel_rfl) J<|qb<|q9 J<|q8<|qe<|qb<|U J<|Qg J<|U J<|q8 ?_
 obtain ⟨l,m,g⟩:=q7 g
 refine Qb (fun k=>.inl k = l) (fun (k : Unit)=>⟨[],[],0⟩) (by simp) ?_ ?_
 ·refine Q7 (q3j c j) (fun (h : Int)=>⟨[(0,.d (.sl 4 (c.map qm))),(1,.d (.fn p1F p1C)),(7,q6 (c.length : Int)),(8,q6 h)],[],0⟩) 0 l m (wkA [] [] []) ?_
  intro h q a
  unfold q3j at a
  refine qb<|O (.d (.bool (decide (h < (c.length : Int))))) J<|q8<|qe ?_
  refine qk J a (fun _ a=>?_) (fun _ a=>?_)
  ·refine ql<|qe<|qu<|qb<|U J<|q9 J<|qp<|U J<|U J<|U J ?_
   obtain ⟨b,n,a⟩:=q7 a
   refine Q5 (enc:=qm) n J<|O (.d (.agg [G b.X0,G b.Y0,G b.X1,G b.Y1])) J ?_
   obtain ⟨o,p,a⟩:=q7 a
   refine Kz [.d (.agg [G b.X0,G b.Y0,G b.X1,G b.Y1])] (p1Ok b o p) J J J (.inl J)<|q8 ?_
   refine qk J a (fun _ a=>?_) (fun _ a=>?_)
   ·refine qb<|U J<|q9 J<|qn ?_
    refine ⟨_,(Option.some.inj a).symm,fun hm=>?_⟩
    subst hm
    obtain rfl:=qc g
    exact qv (q6 h) J
   refine ql<|Qa<|Q9<|qs<|O (.d (G (w64 (h + 1)))) J<|U J<|qr ?_
   exact ⟨_,(Option.some.inj a).symm,wkA [] [] []⟩
  refine Q1 ?_
  refine ⟨_,(Option.some.inj a).symm,fun hm=>?_⟩
  subst hm
  exact ⟨_,J,wkA [] [] []⟩
 intro k hb
 subst hb
 refine qb<|q9 J<|qn ?_
 obtain rfl:=qc g
 exact qv (q6 (-1)) J
theorem qul (c : List qf) (f : qf→Option Bool) (p1F : FuncId) (p1C : List DV) (p1Ok : ∀ (a : qf) (r : Bool),f a = some r→Pure Tryz.prog tab p1F ([.agg [G a.X0,G a.Y0,G a.X1,G a.Y1]] ++ p1C) (.bool r)) (r : Bool) (b : q7x c f = some r) : Pure Tryz.prog tab 104 [.sl 4 (c.map qm),.fn p1F p1C] (.bool r):=by
 unfold q7x at b
 refine Qc Tryz.func104 J (by kernel_rfl) (by kernel_rfl) J<|qb<|q9 J<|qp<|U J<|U J ?_
 obtain ⟨g,h,b⟩:=q7 b
 refine qt (qus c f p1F p1C p1Ok g h) J<|O (.d (.bool (decide (g ≥ 0)))) J<|q9 J<|qn ?_
 obtain rfl:=qc b
 exact qv (.d (.bool (decide (g ≥ 0)))) J
theorem qsr (a : qf) (r : Bool) (b : q1s a = some r) : Pure Tryz.prog tab 105 [.agg [G a.X0,G a.Y0,G a.X1,G a.Y1]] (.bool r):=by
 unfold q1s at b
 refine Qc Tryz.func105 J (by kernel_rfl) (by kernel_rfl) J<|qb<|Qh (.ref 0 4 0 0) (.dat 4 [[G a.X0,G a.Y0,G a.X1,G a.Y1]]) J<|q9 J<|qp<|O (.d (.agg [G a.X0,G a.Y0,G a.X1,G a.Y1])) J ?_
 obtain ⟨c,f,b⟩:=q7 b
 refine qt (qjd a c f) J<|O (qd (!c)) J<|q9 J<|qn ?_
 obtain rfl:=qc b
 exact qv (qd (!c)) J
theorem qjb (b : List qf) (r : List qf × Int) (a : q3f b = some r) : Pure Tryz.prog tab 57 [.sl 4 (b.map qm)] (.tup [.sl 4 (r.1.map qm),G r.2]):=by
 unfold q3f at a
 refine Qc Tryz.func57 J (by kernel_rfl) (by kernel_rfl) J<|qb<|q9 J<|q9 J<|q8<|qe<|qb<|U J<|Qg J<|O (.d (.bool (decide ((b.length : Int) > 400)))) J<|q8 ?_
 refine qk J a (fun _ a=>?_) (fun _ a=>?_)
 ·refine qb<|q9 J<|q9 J<|qn ?_
  obtain rfl:=qc a
  exact finD (.inr J) (v:=.d (.tup [.nilsl,G 4])) J J (Ys (.cons (.nil _) (.cons (.refl _) .nil)))
 refine ql<|qe<|qb<|U J ?_
 obtain ⟨g,h,a⟩:=q7 a
 refine qt (qul b (fun f=>q1s f) 105 [] (fun f r hr=>qsr f r hr) g h) J<|q8 ?_
 refine qk J a (fun _ a=>?_) (fun _ a=>?_)
 ·refine qb<|q9 J<|q9 J<|qn ?_
  obtain rfl:=qc a
  exact finD (.inr J) (v:=.d (.tup [.nilsl,G 8])) J J (Ys (.cons (.nil _) (.cons (.refl _) .nil)))
 refine ql<|qb<|U J ?_
 obtain ⟨c,j,a⟩:=q7 a
 refine qt (qjc b c j) J<|O (.d (.sl 4 (c.1.map qm))) J<|O (q6 c.2) J<|q9 J<|q9 J<|qn ?_
 obtain rfl:=qc a
 exact qv (.d (.tup [.sl 4 (c.1.map qm),G c.2])) J
theorem qxq (c : List qg) (m : List qf) (p : Int) (l : Int) (g : Int) (b : Int) (h : List qf) (r : List qf × Int × Int × List qg) (f : q8w  c m p l g b h = some r) : Qq Tryz.prog tab 142 [.ref 0 4 0 0,q6 g,q6 b,.d (.sl 4 (h.map qm))] [(0,.cel 4 [[.hs 1 6 0 c.length,.d (.sl 4 (m.map qm)),q6 p,q6 l]]),(1,.dat 6 (c.map qw))] 2 (.d (.tup [])) [(0,.cel 4 [[.hs 2 6 0 r.2.2.2.length,.d (.sl 4 (r.1.map qm)),q6 r.2.1,q6 r.2.2.1]]),(2,.dat 6 (r.2.2.2.map qw))] 3:=by
 unfold q8w at f
 refine Qx Tryz.func142 J (by kernel_rfl) (by kernel_rfl) J<|qe<|qb<|U J<|Qg J<|O (.d (.bool (decide ((h.length : Int) > 0)))) J ?_
 obtain ⟨am,t,f⟩:=q7 f
 refine Q0 8 (fun A st=>∃ (v w x y z aa ab : V),st = A [(21,qd am),(20,ab),(19,aa),(18,z),(17,y),(16,x),(15,w),(14,v)]) ?_ ?_
 ·refine qy J J t (fun t=>?_) (fun t=>?_)
  ·refine U J<|O (.ref 0 4 0 0) J<|O (.ref 0 4 0 3) J<|O (q6 l) J<|U J<|O (qd (l == g)) J<|O (qd (l == g)) J<|q8 ?_
   obtain rfl:=qc t
   exact ⟨_,_,_,_,_,_,_,J⟩
  refine qa J<|qa J<|qa J<|qa J<|qa J<|qa J<|O (qd false) J<|q8 ?_
  obtain rfl:=qc t
  exact ⟨_,_,_,_,_,_,_,J⟩
 rintro _ ⟨v,w,x,y,z,aa,ab,rfl⟩
 obtain ⟨an,q,f⟩:=q7 f
 refine Q0 8 (fun A st=>∃ (ac ad ae af ag ah ai : V),st = A [(29,qd an),(28,ai),(27,ah),(26,ag),(25,af),(24,ae),(23,ad),(22,ac)]) ?_ ?_
 ·refine qy J J q (fun q=>?_) (fun q=>?_)
  ·refine U J<|O (.ref 0 4 0 0) J<|O (.ref 0 4 0 1) J<|O (.d (.sl 4 (m.map qm))) J<|U J ?_
   obtain ⟨aj,ao,q⟩:=q7 q
   refine qt (qb2 m h aj ao) J<|O (qd aj) J<|q8 ?_
   obtain rfl:=qc q
   exact ⟨_,_,_,_,_,_,_,J⟩
  refine qa J<|qa J<|qa J<|qa J<|qa J<|qa J<|O (qd false) J<|q8 ?_
  obtain rfl:=qc q
  exact ⟨_,_,_,_,_,_,_,J⟩
 rintro _ ⟨ac,ad,ae,af,ag,ah,ai,rfl⟩
 refine q8 ?_
 refine qk J f (fun _ f=>?_) (fun _ f=>?_)
 ·refine qe<|qb<|U J<|O (.ref 0 4 0 0) J<|O (.ref 0 4 0 2) J<|O (q6 p) J<|q9 J<|q8 ?_
  obtain ⟨ak,ap,f⟩:=q7 f
  refine Qb (fun s=>s = ak) (fun (s : List qg)=>⟨[(0,.ref 0 4 0 0),(2,q6 b)],[(0,.cel 4 [[.hs 1 6 0 s.length,.d (.sl 4 (m.map qm)),q6 p,q6 l]]),(1,.dat 6 (s.map qw))],2⟩) (by simp) ?_ ?_
  ·refine Q7 (q6b b) (fun (j : Int × List qg)=>⟨[(0,.ref 0 4 0 0),(2,q6 b),(8,q6 j.1)],[(0,.cel 4 [[.hs 1 6 0 j.2.length,.d (.sl 4 (m.map qm)),q6 p,q6 l]]),(1,.dat 6 (j.2.map qw))],2⟩) (p,c) ak ap (wkA [] [] []) ?_
   intro j ax n
   unfold q6b at n
   refine qe<|qb<|U J<|U J<|O (.ref 0 4 0 0) J<|O (.ref 0 4 0 0) J<|O (.hs 1 6 0 j.2.length) J<|O (q6 (j.2.length : Int)) J<|O (.d (.bool (decide (j.1 < (j.2.length : Int))))) J<|q8 ?_
   refine qk J n (fun _ n=>?_) (fun _ n=>?_)
   ·refine ql<|qe<|qu<|qs<|U J<|O (.ref 0 4 0 0) J<|O (.ref 0 4 0 0) J<|O (.hs 1 6 0 j.2.length) J<|U J<|U J ?_
    obtain ⟨u,al,n⟩:=q7 n
    refine qq al J J<|O (.ref 1 6 j.1.toNat 3) J<|O (.ref 1 6 j.1.toNat 5) J<|Qk (ds:=[G b]) ({Lo:=u.Lo,Hi:=({X:=u.Hi.X,Y:=u.Hi.Y,Z:=b} : qi)} : qg) al J J J J J J J J (leb J) J<|qr<|Q9<|qs<|U J<|O (.d (G (w64 (j.1 + 1)))) J<|q9 J<|qr ?_
    exact ⟨_,(Option.some.inj n).symm,wkE [] [] [] J ⟨⟨_,J,.ref J (by decide) (ltd J)⟩,⟨_,J,.d (.refl _)⟩,⟨_,J,.d (.refl _)⟩,trivial⟩ ⟨⟨ltd J,.inr ⟨by decide,_,J,Jk (.cons (Qp (by simp) J (by decide) (ltd J)) J (.cons (.d (.refl _)) J (.cons (.d (.refl _)) J (.cons (.d (.refl _)) J .nil))))⟩⟩,⟨ltd J,.inr ⟨by decide,_,J,.dat _ _⟩⟩,trivial⟩⟩
   refine Q1 ?_
   refine ⟨_,(Option.some.inj n).symm,fun hm=>?_⟩
   subst hm
   exact ⟨_,J,wkA [] [] []⟩
  intro s hb
  subst hb
  refine qb<|U J<|U J<|O (.ref 0 4 0 0) J<|O (.ref 0 4 0 3) J<|Q8 0 (.cel 4 [[.hs 1 6 0 s.length,.d (.sl 4 (m.map qm)),q6 p,q6 b]]) J<|qn ?_
  obtain rfl:=qc f
  exact ⟨.inr J,_,J,wkA [(2,1)] [] []⟩
 refine ql<|qb<|U J<|U J<|U J<|U J<|O (.ref 0 4 0 0) J<|O (.ref 0 4 0 0) J<|O (.hs 1 6 0 c.length) J<|O (q6 (c.length : Int)) J<|U J<|U J<|O (.ref 0 4 0 0) J<|O (.ref 0 4 0 2) J<|Q8 0 (.cel 4 [[.hs 1 6 0 c.length,.d (.sl 4 (m.map qm)),q6 (c.length : Int),q6 l]]) J<|O (.ref 0 4 0 0) J<|O (.ref 0 4 0 1) J<|Q8 0 (.cel 4 [[.hs 1 6 0 c.length,.d (.sl 4 (h.map qm)),q6 (c.length : Int),q6 l]]) J<|O (.ref 0 4 0 0) J<|O (.ref 0 4 0 3) J<|Q8 0 (.cel 4 [[.hs 1 6 0 c.length,.d (.sl 4 (h.map qm)),q6 (c.length : Int),q6 b]]) J<|qp<|U J<|Qg J<|U J<|q8 ?_
 obtain ⟨aq,ar,f⟩:=q7 f
 refine qu<|Q7 (q6c h g b c) (fun (o : Int × List qg)=>⟨[(0,.ref 0 4 0 0),(1,q6 g),(2,q6 b),(72,.d (.sl 4 (h.map qm))),(73,q6 (h.length : Int)),(74,q6 o.1)],[(0,.cel 4 [[.hs 2 6 0 o.2.length,.d (.sl 4 (h.map qm)),q6 (c.length : Int),q6 b]]),(2,.dat 6 (o.2.map qw))],3⟩) (0,c) aq ar (wkA [(2,1)] [] []) ?_
 intro o ay k
 unfold q6c at k
 refine qb<|O (.d (.bool (decide (o.1 < (h.length : Int))))) J<|q8<|qe ?_
 refine qk J k (fun _ k=>?_) (fun _ k=>?_)
 ·refine ql<|qe<|qu<|qb ?_
  obtain ⟨a,au,k⟩:=q7 k
  refine Q5 (enc:=qm) au J<|O (.d (.agg [G a.X0,G a.Y0,G a.X1,G a.Y1])) J<|Qo J J<|Q8 3 (.dat 4 [[G a.X0,G a.Y0,G a.X1,G a.Y1]]) J<|q8<|Q4 [Qd 0,q0,q0,(some [2,4],[2,5]),(some [],[4]),q0,q0,q0,qo 3,q0,qo 3,q0,q0,q0,qo 3,q0,qo 3,q0,qo 0,q0,q0,q0,q0] (by kernel_rfl)<|U J<|U J<|O (.ref 0 4 0 0) J<|O (.ref 0 4 0 0) J<|O (.hs 2 6 0 o.2.length) J<|O (.ref 3 4 0 0) J<|O (q6 a.X0) J<|O (.ref 3 4 0 1) J<|O (q6 a.Y0) J<|U J<|O (.d (.agg [G a.X0,G a.Y0,G g])) J<|O (.ref 3 4 0 2) J<|O (q6 a.X1) J<|O (.ref 3 4 0 3) J<|O (q6 a.Y1) J<|U J<|O (.d (.agg [G a.X1,G a.Y1,G b])) J<|O (.d (.agg [G a.X0,G a.Y0,G g,G a.X1,G a.Y1,G b])) J<|Qh (.hs 4 6 0 [({Lo:=({X:=a.X0,Y:=a.Y0,Z:=g} : qi),Hi:=({X:=a.X1,Y:=a.Y1,Z:=b} : qi)} : qg)].length) (.dat 6 ([({Lo:=({X:=a.X0,Y:=a.Y0,Z:=g} : qi),Hi:=({X:=a.X1,Y:=a.Y1,Z:=b} : qi)} : qg)].map qw)) J ?_
  obtain ⟨av,aw,k⟩:=q7 k
  refine Ko (xs:=o.2) (ys:=[({Lo:=({X:=a.X0,Y:=a.Y0,Z:=g} : qi),Hi:=({X:=a.X1,Y:=a.Y1,Z:=b} : qi)} : qg)]) (enc:=qw) (.hs 4 6 0 [({Lo:=({X:=a.X0,Y:=a.Y0,Z:=g} : qi),Hi:=({X:=a.X1,Y:=a.Y1,Z:=b} : qi)} : qg)].length) aw J J J J J J J (Kl J J) J J J J<|O (.ref 0 4 0 0) J<|O (.ref 0 4 0 0) J<|Q8 0 (.cel 4 [[.hs 5 6 0 av.length,.d (.sl 4 (h.map qm)),q6 (c.length : Int),q6 b]]) J<|qr<|Q9<|qs<|O (.d (G (w64 (o.1 + 1)))) J<|U J<|qr ?_
  exact ⟨_,(Option.some.inj k).symm,wkA [(2,5)] [] []⟩
 refine Q1 ?_
 refine ⟨_,(Option.some.inj k).symm,fun hm=>?_⟩
 subst hm
 obtain rfl:=qc f
 exact ⟨.inl J,_,J,wkA [(2,2)] [] []⟩
theorem qxw (c : List qg) (r : List qg × Int) (o : q8y c = some r) : Pure Tryz.prog tab 101 [.agg [.nilf],.sl 1 ([c].map Ke)] (.tup [.sl 6 (r.1.map qw),G r.2]):=by
 unfold q8y at o
 refine Qc Tryz.func101 J (by kernel_rfl) (by kernel_rfl) J<|qb<|Qh (.ref 0 1 0 0) (.dat 1 [[.nilf]]) J<|Qo J J<|Qo J J<|qp<|Qo J J<|q8<|qe<|qb<|U J ?_
 obtain ⟨ar,m,o⟩:=q7 o
 refine q7b [.d (.sl 1 ([c].map Ke))] (fun h=>h = ar) (fun (h : List Int)=>⟨[(2,.ref 0 1 0 0),(4,.ref 1 1 0 0),(5,.ref 2 1 0 0),(6,.ref 3 4 0 0),(14,.fn 162 [.ref 4 1 0 0,.ref 5 1 0 0])],[(0,.dat 1 [[.nilf]]),(1,.dat 1 [[.nilsl]]),(2,.dat 1 [[G 0]]),(3,.dat 4 [[.nilsl,.nilsl,G 0,G 0]]),(4,.cel 1 [[.d (.sl 1 (h.map (eI .i64)))]]),(5,.dat 1 [[.sl 1 ([c].map Ke)]])],6⟩) J J Tryz.func141 J (by kernel_rfl) (by kernel_rfl) J ?_ ?_
 ·refine qb<|Qh (.ref 4 1 0 0) (.dat 1 [[.sl 1 ([c].map Ke)]]) J<|q9 J<|qp<|Qo J J<|q8<|qe<|qb<|O (.d (.sl 1 ([c].map Ke))) J<|qde 1 J J J J J<|U J<|q8<|qu<|Uu<|qb<|O (qd true) J<|q8<|qe<|q5b J<|ql<|qe ?_
  obtain ⟨au,ad,m⟩:=q7 m
  refine Qb (fun n=>n = au) (fun (n : List Int)=>⟨[(1,.ref 4 1 0 0),(3,.ref 5 1 0 0),(8,.d (.sl 1 ([c].map Ke))),(9,q6 1),(10,q6 0)],[(0,.dat 1 [[.nilf]]),(1,.dat 1 [[.nilsl]]),(2,.dat 1 [[G 0]]),(3,.dat 4 [[.nilsl,.nilsl,G 0,G 0]]),(4,.dat 1 [[.sl 1 ([c].map Ke)]]),(5,.cel 1 [[.hs 6 1 0 n.length]]),(6,.dat 1 (n.map (eI .i64)))],7⟩) (by simp) ?_ ?_
  ·refine qb ?_
   obtain ⟨ae,av,ad⟩:=q7 ad
   refine Q5 (enc:=Ke) av J<|O (.d (.sl 6 (ae.map qw))) J<|q9 J<|qp<|U J<|Qg J<|U J<|q8 ?_
   obtain ⟨aw,ax,ad⟩:=q7 ad
   refine qu<|Q7 (q3w ae) (fun (w : Int × List Int)=>⟨[(1,.ref 4 1 0 0),(3,.ref 5 1 0 0),(8,.d (.sl 1 ([c].map Ke))),(9,q6 1),(10,q6 0),(14,.d (.sl 6 (ae.map qw))),(15,q6 (ae.length : Int)),(16,q6 w.1)],[(0,.dat 1 [[.nilf]]),(1,.dat 1 [[.nilsl]]),(2,.dat 1 [[G 0]]),(3,.dat 4 [[.nilsl,.nilsl,G 0,G 0]]),(4,.dat 1 [[.sl 1 ([c].map Ke)]]),(5,.cel 1 [[.hs 6 1 0 w.2.length]]),(6,.dat 1 (w.2.map (eI .i64)))],7⟩) (0,[]) aw ax (wkA [(4,4),(5,5)] [] [6]) ?_
   intro w cb q
   unfold q3w at q
   refine qb<|O (.d (.bool (decide (w.1 < (ae.length : Int))))) J<|q8<|qe ?_
   refine qk J q (fun _ q=>?_) (fun _ q=>?_)
   ·refine ql<|qe<|qu<|qb ?_
    obtain ⟨f,ay,q⟩:=q7 q
    refine Q5 (enc:=qw) ay J<|O (.d (.agg [G f.Lo.X,G f.Lo.Y,G f.Lo.Z,G f.Hi.X,G f.Hi.Y,G f.Hi.Z])) J<|Qo J J<|Q8 7 (.dat 6 [[G f.Lo.X,G f.Lo.Y,G f.Lo.Z,G f.Hi.X,G f.Hi.Y,G f.Hi.Z]]) J<|q8<|qs<|O (.hs 6 1 0 w.2.length) J<|O (.ref 7 6 0 0) J<|O (.ref 7 6 0 2) J<|O (q6 f.Lo.Z) J<|O (.ref 7 6 0 3) J<|O (.ref 7 6 0 5) J<|O (q6 f.Hi.Z) J<|Qh (.hs 8 1 0 [f.Lo.Z,f.Hi.Z].length) (.dat 1 ([f.Lo.Z,f.Hi.Z].map (eI .i64))) J ?_
    obtain ⟨az,ba,q⟩:=q7 q
    refine Ko (xs:=w.2) (ys:=[f.Lo.Z,f.Hi.Z]) (enc:=(eI .i64)) (.hs 8 1 0 [f.Lo.Z,f.Hi.Z].length) ba J J J J J J J (Kl J J) J J J J<|Q8 5 (.cel 1 [[.hs 9 1 0 az.length]]) J<|qr<|Q9<|qs<|O (.d (G (w64 (w.1 + 1)))) J<|U J<|qr ?_
    exact ⟨_,(Option.some.inj q).symm,wkA [(4,4),(5,5),(6,9)] [] []⟩
   refine Q1 ?_
   refine ⟨_,(Option.some.inj q).symm,fun hm=>?_⟩
   subst hm
   obtain rfl:=qc ad
   exact ⟨_,J,wkA [(4,4),(5,5),(6,6)] [] []⟩
  intro n hb
  subst hb
  refine qs<|O (q6 1) J<|U J<|q8<|Uu<|qb<|O (qd false) J<|q8<|qe<|U6 J<|Q1<|q2a<|qb<|O (.hs 6 1 0 n.length) J ?_
  obtain ⟨aj,bb,m⟩:=q7 m
  obtain ⟨cc,bc,m⟩:=q7 m
  have bd:=K5 bc
  refine Qr [(0,6)] [(0,1),(1,1),(2,1),(3,1),(4,1),(5,1),(6,0)] [.hs 6 1 0 n.length] (.d (.tup [])) 1 [(6,.dat 1 (aj.map (eI .i64))),(0,.dat 1 [[.nilf]]),(1,.dat 1 [[.nilsl]]),(2,.dat 1 [[G 0]]),(3,.dat 4 [[.nilsl,.nilsl,G 0,G 0]]),(4,.dat 1 [[.sl 1 ([c].map Ke)]]),(5,.cel 1 [[.hs 6 1 0 n.length]])] 7 (qk0 n aj bb)<|qp<|O (.hs 6 1 0 n.length) J ?_
  obtain ⟨aa,be,m⟩:=q7 m
  obtain ⟨cd,bf,m⟩:=q7 m
  have ce:=K5 bf
  obtain ⟨cf,bg,m⟩:=q7 m
  have bh:=ql4 bg
  refine U4 [(0,6)] [(0,1),(1,1),(2,1),(3,1),(4,1),(5,1),(6,0)] [.hs 6 1 0 n.length] (.hs 6 1 aa.1.1 aa.1.2) [(6,.dat 1 (aa.2.map (eI .i64)))] [(6,.dat 1 (aa.2.map (eI .i64))),(0,.dat 1 [[.nilf]]),(1,.dat 1 [[.nilsl]]),(2,.dat 1 [[G 0]]),(3,.dat 4 [[.nilsl,.nilsl,G 0,G 0]]),(4,.dat 1 [[.sl 1 ([c].map Ke)]]),(5,.cel 1 [[.hs 6 1 0 n.length]])] 7 (qjy aj aa be) J J J (Y5 [(0,6)] [] [] J ⟨⟨_,J,Qp (by simp [bd]) J (by decide) (ltd J)⟩,trivial⟩ ⟨⟨ltd J,.inr ⟨by decide,_,J,.dat _ _⟩⟩,trivial⟩) (Y5 [(0,1),(1,1),(2,1),(3,1),(4,1),(5,1),(6,0)] [] [] J ⟨⟨_,J,.hs J (by decide) (ltd J)⟩,trivial⟩ ⟨⟨ltd J,.inr ⟨by decide,_,J,.dat _ _⟩⟩,trivial⟩) J ⟨.inl J,.inr ⟨J,J⟩,.inr ⟨J,J⟩,.inr ⟨J,J⟩,.inr ⟨J,J⟩,.inr ⟨J,J⟩,.inr ⟨J,J⟩,trivial⟩<|Q8 5 (.cel 1 [[.hs 6 1 aa.1.1 aa.1.2]]) J<|qp<|O (.fn 162 [.ref 5 1 0 0,.ref 4 1 0 0]) J<|q9 J<|qn ?_
  refine ⟨.inr J,_,J,?_⟩
  obtain rfl:=qc m
  exact ⟨_,J,wkE [(0,0),(1,1),(2,2),(3,3),(4,5),(5,4)] [6] [] J ⟨⟨_,J,.ref J (by decide) (ltd J)⟩,⟨_,J,.ref J (by decide) (ltd J)⟩,⟨_,J,.ref J (by decide) (ltd J)⟩,⟨_,J,.ref J (by decide) (ltd J)⟩,⟨_,J,(q44 (.cons (.ref J (by decide) (ltd J)) (.cons (.ref J (by decide) (ltd J)) .nil)))⟩,trivial⟩ ⟨⟨ltd J,.inr ⟨by decide,_,J,.dat _ _⟩⟩,⟨ltd J,.inr ⟨by decide,_,J,.dat _ _⟩⟩,⟨ltd J,.inr ⟨by decide,_,J,.dat _ _⟩⟩,⟨ltd J,.inr ⟨by decide,_,J,.dat _ _⟩⟩,⟨ltd J,.inr ⟨by decide,_,J,Jk (.cons (ql8 bh J (by decide)) J .nil)⟩⟩,⟨ltd J,.inr ⟨by decide,_,J,.dat _ _⟩⟩,trivial⟩⟩
 intro h hb
 subst hb
 refine q8<|qu ?_
 obtain ⟨bi,ai,o⟩:=q7 o
 refine qe2 (fun k=>.inl k = bi) (fun (k : List qf × Int × Int × List qg)=>⟨[(4,.ref 0 1 0 0),(5,.ref 1 1 0 0),(6,.ref 2 4 0 0)],[(0,.dat 1 [[.nilsl]]),(1,.dat 1 [[G 0]]),(2,.cel 4 [[.hs 3 6 0 k.2.2.2.length,.d (.sl 4 (k.1.map qm)),q6 k.2.1,q6 k.2.2.1]]),(3,.dat 6 (k.2.2.2.map qw))],4⟩) ?_ ?_
 ·refine Yj (st':=⟨[(2,.ref 0 1 0 0),(4,.ref 1 1 0 0),(5,.ref 2 1 0 0),(6,.ref 3 4 0 0),(14,.fn 162 [.ref 4 1 0 0,.ref 5 1 0 0])],[(0,.dat 1 [[.nilf]]),(1,.dat 1 [[.nilsl]]),(2,.dat 1 [[G 0]]),(3,.dat 4 [[.nilsl,.nilsl,G 0,G 0]]),(4,.cel 1 [[.d (.sl 1 (h.map (eI .i64)))]]),(5,.dat 1 [[.sl 1 ([c].map Ke)]])],6⟩) (wkA [(0,0),(1,1),(2,2),(3,3),(4,4),(5,5)] [] []) ?_ (by simp)
  refine qe3 [.ref 4 1 0 0,.ref 5 1 0 0] (.inl J) Tryz.func162 J (by kernel_rfl) (by kernel_rfl) J ?_
  intro A879 B880 hA879 hB880
  refine qb<|q9 J<|q8 ?_
  obtain ⟨bj,bk,ai⟩:=q7 ai
  refine qu<|Q7 (q3x h c) (fun (b : Int × List qf × Int × Int × List qg)=>⟨[(0,.yld 6),(1,.ref 4 1 0 0),(2,.ref 5 1 0 0),(4,q6 b.1)],[(0,.dat 1 [[.nilf]]),(1,.dat 1 [[.nilsl]]),(2,.dat 1 [[G 0]]),(3,.cel 4 [[.hs 7 6 0 b.2.2.2.2.length,.d (.sl 4 (b.2.1.map qm)),q6 b.2.2.1,q6 b.2.2.2.1]]),(4,.cel 1 [[.d (.sl 1 (h.map (eI .i64)))]]),(5,.dat 1 [[.sl 1 ([c].map Ke)]]),(6,.loop [(2,.ref 0 1 0 0),(4,.ref 1 1 0 0),(5,.ref 2 1 0 0),(6,.ref 3 4 0 0),(14,.fn 162 [.ref 4 1 0 0,.ref 5 1 0 0])] [15] A879 B880 .ready none),(7,.dat 6 (b.2.2.2.2.map qw))],8⟩) (1,[],0,0,[]) bj bk (wkA [] [] [7]) ?_
  intro b cg j
  unfold q3x at j
  refine qe<|qb<|U J<|O (.d (.sl 1 (h.map (eI .i64)))) J<|Qg J<|O (.d (.bool (decide (b.1 < (h.length : Int))))) J<|q8 ?_
  refine qk J j (fun _ j=>?_) (fun _ j=>?_)
  ·refine ql<|qe<|qu<|qe<|Q4 [Qd 9,(some [],[9]),q0,(some [],[8]),q0,qo 5,q0,q0,q0,qo 4,q0,q0,q0,q0,qo 4] (by kernel_rfl)<|O (.d (.sl 1 (h.map (eI .i64)))) J<|U J<|O (.d (G (w64 (b.1 - 1)))) J ?_
   obtain ⟨g,bl,j⟩:=q7 j
   refine Q5 (enc:=(eI .i64)) bl J<|O (q6 g) J<|O (.d (.sl 1 (h.map (eI .i64)))) J<|U J ?_
   obtain ⟨l,bm,j⟩:=q7 j
   refine Q5 (enc:=(eI .i64)) bm J<|O (q6 l) J<|O (.d (.sl 1 ([c].map Ke))) J<|qde 1 J J J J J<|Qh (.hs 8 1 0 1) (.dat 1 [[.nilsl]]) J<|O (.agg [q6 g,q6 l,.hs 8 1 0 1]) J<|Qo J J<|Q8 9 (.cel 3 [[q6 g,q6 l,.hs 8 1 0 1]]) J<|q8<|qe<|qb<|O (.d (.sl 1 ([c].map Ke))) J<|qde 1 J J J J J<|U J<|q8<|qu<|Uu<|qb<|O (qd true) J<|q8<|qe<|q5b J<|ql<|qe ?_
   obtain ⟨bn,af,j⟩:=q7 j
   refine Qb (fun s=>s = bn) (fun (s : List qf)=>⟨[(0,.yld 6),(1,.ref 4 1 0 0),(2,.ref 5 1 0 0),(4,q6 b.1),(5,.ref 7 3 0 0),(29,.d (.sl 1 ([c].map Ke))),(30,q6 1),(31,q6 0)],[(0,.dat 1 [[.nilf]]),(1,.dat 1 [[.nilsl]]),(2,.dat 1 [[G 0]]),(3,.cel 4 [[.hs 8 6 0 b.2.2.2.2.length,.d (.sl 4 (b.2.1.map qm)),q6 b.2.2.1,q6 b.2.2.2.1]]),(4,.cel 1 [[.d (.sl 1 (h.map (eI .i64)))]]),(5,.dat 1 [[.sl 1 ([c].map Ke)]]),(6,.loop [(2,.ref 0 1 0 0),(4,.ref 1 1 0 0),(5,.ref 2 1 0 0),(6,.ref 3 4 0 0),(14,.fn 162 [.ref 4 1 0 0,.ref 5 1 0 0])] [15] A879 B880 .ready none),(7,.cel 3 [[q6 g,q6 l,.hs 9 1 0 1]]),(8,.dat 6 (b.2.2.2.2.map qw)),(9,.cel 1 [[.hs 10 4 0 s.length]]),(10,.dat 4 (s.map qm))],11⟩) (by simp) ?_ ?_
   ·refine qb<|U J ?_
    obtain ⟨ab,bo,af⟩:=q7 af
    refine Q5 (enc:=Ke) bo J<|O (.d (.sl 6 (ab.map qw))) J<|q9 J<|q9 J<|qp<|U J<|Qg J<|U J<|q8 ?_
    obtain ⟨bp,bq,af⟩:=q7 af
    refine qu<|Q7 (q3y ab g) (fun (t : Int × List qf)=>⟨[(0,.yld 6),(1,.ref 4 1 0 0),(2,.ref 5 1 0 0),(4,q6 b.1),(5,.ref 7 3 0 0),(6,q6 0),(29,.d (.sl 1 ([c].map Ke))),(30,q6 1),(31,q6 0),(36,.d (.sl 6 (ab.map qw))),(37,q6 (ab.length : Int)),(38,q6 t.1)],[(0,.dat 1 [[.nilf]]),(1,.dat 1 [[.nilsl]]),(2,.dat 1 [[G 0]]),(3,.cel 4 [[.hs 8 6 0 b.2.2.2.2.length,.d (.sl 4 (b.2.1.map qm)),q6 b.2.2.1,q6 b.2.2.2.1]]),(4,.cel 1 [[.d (.sl 1 (h.map (eI .i64)))]]),(5,.dat 1 [[.sl 1 ([c].map Ke)]]),(6,.loop [(2,.ref 0 1 0 0),(4,.ref 1 1 0 0),(5,.ref 2 1 0 0),(6,.ref 3 4 0 0),(14,.fn 162 [.ref 4 1 0 0,.ref 5 1 0 0])] [15] A879 B880 .ready none),(7,.cel 3 [[q6 g,q6 l,.hs 9 1 0 1]]),(8,.dat 6 (b.2.2.2.2.map qw)),(9,.cel 1 [[.hs 10 4 0 t.2.length]]),(10,.dat 4 (t.2.map qm))],11⟩) (0,[]) bp bq (wkA [(7,9),(8,7),(9,8)] [] [10]) ?_
    intro t ch x
    unfold q3y at x
    refine qb<|O (.d (.bool (decide (t.1 < (ab.length : Int))))) J<|q8<|qe ?_
    refine qk J x (fun _ x=>?_) (fun _ x=>?_)
    ·refine ql<|qe ?_
     obtain ⟨br,p,x⟩:=q7 x
     refine Qb (fun ag=>ag = br) (fun (ag : List qf)=>⟨[(0,.yld 6),(1,.ref 4 1 0 0),(2,.ref 5 1 0 0),(4,q6 b.1),(5,.ref 7 3 0 0),(6,q6 0),(29,.d (.sl 1 ([c].map Ke))),(30,q6 1),(31,q6 0),(36,.d (.sl 6 (ab.map qw))),(37,q6 (ab.length : Int)),(38,q6 t.1)],[(0,.dat 1 [[.nilf]]),(1,.dat 1 [[.nilsl]]),(2,.dat 1 [[G 0]]),(3,.cel 4 [[.hs 8 6 0 b.2.2.2.2.length,.d (.sl 4 (b.2.1.map qm)),q6 b.2.2.1,q6 b.2.2.2.1]]),(4,.cel 1 [[.d (.sl 1 (h.map (eI .i64)))]]),(5,.dat 1 [[.sl 1 ([c].map Ke)]]),(6,.loop [(2,.ref 0 1 0 0),(4,.ref 1 1 0 0),(5,.ref 2 1 0 0),(6,.ref 3 4 0 0),(14,.fn 162 [.ref 4 1 0 0,.ref 5 1 0 0])] [15] A879 B880 .ready none),(7,.cel 3 [[q6 g,q6 l,.hs 9 1 0 1]]),(8,.dat 6 (b.2.2.2.2.map qw)),(9,.cel 1 [[.hs 10 4 0 ag.length]]),(10,.dat 4 (ag.map qm))],11⟩) (by simp) ?_ ?_
     ·refine qb ?_
      obtain ⟨a,bs,p⟩:=q7 p
      refine Q5 (enc:=qw) bs J<|O (.d (.agg [G a.Lo.X,G a.Lo.Y,G a.Lo.Z,G a.Hi.X,G a.Hi.Y,G a.Hi.Z])) J<|Qo J J<|Q8 11 (.dat 6 [[G a.Lo.X,G a.Lo.Y,G a.Lo.Z,G a.Hi.X,G a.Hi.Y,G a.Hi.Z]]) J<|qp<|O (.ref 11 6 0 0) J<|O (.ref 11 6 0 2) J<|O (q6 a.Lo.Z) J<|O (.ref 7 3 0 0) J<|O (q6 g) J<|O (.d (.bool (decide (a.Lo.Z≤g)))) J ?_
      obtain ⟨bt,ah,p⟩:=q7 p
      refine Q0 8 (fun A st=>∃ (ak al am an ao ap aq : V),st = A [(55,qd bt),(54,aq),(53,ap),(52,ao),(51,an),(50,am),(49,al),(48,ak)]) ?_ ?_
      ·refine qy J J ah (fun ah=>?_) (fun ah=>?_)
       ·refine O (.ref 7 3 0 0) J<|O (q6 g) J<|O (.ref 11 6 0 3) J<|O (.ref 11 6 0 5) J<|O (q6 a.Hi.Z) J<|O (.d (.bool (decide (g < a.Hi.Z)))) J<|O (.d (.bool (decide (g < a.Hi.Z)))) J<|q8 ?_
        obtain rfl:=qc ah
        exact ⟨_,_,_,_,_,_,_,J⟩
       refine qa J<|qa J<|qa J<|qa J<|qa J<|qa J<|O (qd false) J<|q8 ?_
       obtain rfl:=qc ah
       exact ⟨_,_,_,_,_,_,_,J⟩
      rintro _ ⟨ak,al,am,an,ao,ap,aq,rfl⟩
      refine q8 ?_
      refine qk J p (fun _ p=>?_) (fun _ p=>?_)
      ·refine Q4 [Qd 9,q0,(some [10,12],[10,13]),(some [],[12]),q0,qo 11,q0,q0,qo 11,q0,q0,qo 11,q0,q0,qo 11,q0,q0,qo 9,q0,q0,qo 7,q0,q0,qo 7,q0] (by kernel_rfl)<|O (.ref 7 3 0 2) J<|O (.hs 9 1 0 1) J<|U J<|O (.ref 7 3 0 2) J<|O (.hs 9 1 0 1) J<|U J<|O (.ref 9 1 0 0) J<|O (.hs 10 4 0 t.2.length) J<|O (.ref 11 6 0 0) J<|O (.ref 11 6 0 0) J<|O (q6 a.Lo.X) J<|O (.ref 11 6 0 0) J<|O (.ref 11 6 0 1) J<|O (q6 a.Lo.Y) J<|O (.ref 11 6 0 3) J<|O (.ref 11 6 0 3) J<|O (q6 a.Hi.X) J<|O (.ref 11 6 0 3) J<|O (.ref 11 6 0 4) J<|O (q6 a.Hi.Y) J<|O (.d (.agg [G a.Lo.X,G a.Lo.Y,G a.Hi.X,G a.Hi.Y])) J<|Qh (.hs 12 4 0 [({X0:=a.Lo.X,Y0:=a.Lo.Y,X1:=a.Hi.X,Y1:=a.Hi.Y} : qf)].length) (.dat 4 ([({X0:=a.Lo.X,Y0:=a.Lo.Y,X1:=a.Hi.X,Y1:=a.Hi.Y} : qf)].map qm)) J ?_
       obtain ⟨bu,bv,p⟩:=q7 p
       refine Ko (xs:=t.2) (ys:=[({X0:=a.Lo.X,Y0:=a.Lo.Y,X1:=a.Hi.X,Y1:=a.Hi.Y} : qf)]) (enc:=qm) (.hs 12 4 0 [({X0:=a.Lo.X,Y0:=a.Lo.Y,X1:=a.Hi.X,Y1:=a.Hi.Y} : qf)].length) bv J J J J J J J (Kl J J) J J J J<|O (.ref 9 1 0 0) J<|Q8 9 (.cel 1 [[.hs 13 4 0 bu.length]]) J<|qr ?_
       obtain rfl:=qc p
       exact ⟨_,J,wkA [(7,7),(8,8),(9,9),(10,13)] [] []⟩
      refine ql<|Qa ?_
      obtain rfl:=qc p
      exact ⟨_,J,wkA [(7,7),(8,8),(9,9),(10,10)] [] []⟩
     intro ag hb
     subst hb
     refine qs<|O (.d (G (w64 (t.1 + 1)))) J<|U J<|qr ?_
     exact ⟨_,(Option.some.inj x).symm,wkA [(7,7),(8,8),(9,9),(10,10)] [] []⟩
    refine Q1 ?_
    refine ⟨_,(Option.some.inj x).symm,fun hm=>?_⟩
    subst hm
    obtain rfl:=qc af
    exact ⟨_,J,wkA [(7,7),(8,8),(9,9),(10,10)] [] []⟩
   intro s hb
   subst hb
   refine qs<|O (q6 1) J<|U J<|q8<|Uu<|qb<|O (qd false) J<|q8<|qe<|U6 J<|Q1<|q2a<|qe ?_
   refine Yj (st':=⟨[(0,.yld 6),(1,.ref 4 1 0 0),(2,.ref 5 1 0 0),(4,q6 b.1),(5,.ref 7 3 0 0)],[(0,.dat 1 [[.nilf]]),(1,.dat 1 [[.nilsl]]),(2,.dat 1 [[G 0]]),(3,.cel 4 [[.hs 8 6 0 b.2.2.2.2.length,.d (.sl 4 (b.2.1.map qm)),q6 b.2.2.1,q6 b.2.2.2.1]]),(4,.cel 1 [[.d (.sl 1 (h.map (eI .i64)))]]),(5,.dat 1 [[.sl 1 ([c].map Ke)]]),(6,.loop [(2,.ref 0 1 0 0),(4,.ref 1 1 0 0),(5,.ref 2 1 0 0),(6,.ref 3 4 0 0),(14,.fn 162 [.ref 4 1 0 0,.ref 5 1 0 0])] [15] A879 B880 .ready none),(7,.cel 3 [[q6 g,q6 l,.hs 9 1 0 1]]),(8,.dat 6 (b.2.2.2.2.map qw)),(9,.cel 1 [[.d (.sl 4 (s.map qm))]])],10⟩) (wkA [(7,7),(8,8),(9,9)] [10] []) ?_ (by simp)
   refine qs<|U J<|O (.agg [q6 g,q6 l,.hs 9 1 0 1]) J ?_
   obtain ⟨bw,u,j⟩:=q7 j
   refine qdj (fun y=>.inl y = bw) (fun (y : List qf × Int × Int × List qg)=>⟨[(0,.yld 6),(1,.ref 4 1 0 0),(2,.ref 5 1 0 0),(4,q6 b.1),(84,qd true)],[(0,.dat 1 [[.nilf]]),(1,.dat 1 [[.nilsl]]),(2,.dat 1 [[G 0]]),(3,.cel 4 [[.hs 7 6 0 y.2.2.2.length,.d (.sl 4 (y.1.map qm)),q6 y.2.1,q6 y.2.2.1]]),(4,.cel 1 [[.d (.sl 1 (h.map (eI .i64)))]]),(5,.dat 1 [[.sl 1 ([c].map Ke)]]),(6,.loop [(2,.ref 0 1 0 0),(4,.ref 1 1 0 0),(5,.ref 2 1 0 0),(6,.ref 3 4 0 0),(14,.fn 162 [.ref 4 1 0 0,.ref 5 1 0 0])] [15] A879 B880 .ready none),(7,.dat 6 (y.2.2.2.map qw))],8⟩) hA879 hB880 J J J J J J ?_ ?_
   ·refine qs<|Qo J J<|Q8 10 (.cel 3 [[q6 g,q6 l,.hs 9 1 0 1]]) J<|qr ?_
    refine ⟨J,_,J,?_⟩
    refine qu<|qb<|O (.ref 10 3 0 2) J<|O (.hs 9 1 0 1) J<|O (.ref 9 1 0 0) J<|O (.d (.sl 4 (s.map qm))) J ?_
    obtain ⟨z,bz,u⟩:=q7 u
    refine qt (qjb s z bz) J<|U J<|O (.d (.sl 4 (z.1.map qm))) J<|O (q6 z.2) J<|q9 J<|q9 J<|q8<|qe<|qb<|O (.ref 10 3 0 2) J<|O (.hs 9 1 0 1) J<|O (.hs 9 1 1 0) J<|O (q6 0) J<|U J<|q8<|qu<|Uu<|qb<|O (qd false) J<|q8<|qe<|U6 J<|Q1<|q2a<|qe<|qb<|U J<|O (qd (z.2 != 0)) J<|q8 ?_
    refine qk J u (fun _ u=>?_) (fun _ u=>?_)
    ·refine qb<|U J<|Q8 1 (.dat 1 [[.nilsl]]) J<|Q8 2 (.dat 1 [[G z.2]]) J<|qn ?_
     obtain rfl:=qc u
     refine ⟨_,J,?_⟩
     refine O (qd true) J<|q8<|q5b J<|q3h ?_
     refine ⟨_,(Option.some.inj j).symm,fun hm=>?_⟩
     subst hm
     refine ⟨.inr J,_,J,_,_,.ret,J,by decide,?_⟩
     refine qlg ?_
     obtain rfl:=qc ai
     obtain rfl:=qc o
     exact finD (.inr J) (v:=.d (.tup [.nilsl,G z.2])) J J (Ys (.cons (.nil _) (.cons (.refl _) .nil)))
    refine ql<|qs<|O (.ref 10 3 0 0) J<|O (q6 g) J<|O (.ref 10 3 0 1) J<|O (q6 l) J<|U J ?_
    obtain ⟨ac,ca,u⟩:=q7 u
    refine Qr [(0,3),(1,8)] [(0,3),(1,3),(2,3),(3,0),(4,3),(5,3),(6,3),(7,3),(8,1),(9,3),(10,3),(11,2)] [.ref 3 4 0 0,q6 g,q6 l,.d (.sl 4 (z.1.map qm))] (.d (.tup [])) 2 [(3,.cel 4 [[.hs 11 6 0 ac.2.2.2.length,.d (.sl 4 (ac.1.map qm)),q6 ac.2.1,q6 ac.2.2.1]]),(11,.dat 6 (ac.2.2.2.map qw)),(0,.dat 1 [[.nilf]]),(1,.dat 1 [[.nilsl]]),(2,.dat 1 [[G 0]]),(4,.cel 1 [[.d (.sl 1 (h.map (eI .i64)))]]),(5,.dat 1 [[.sl 1 ([c].map Ke)]]),(6,.loop [(2,.ref 0 1 0 0),(4,.ref 1 1 0 0),(5,.ref 2 1 0 0),(6,.ref 3 4 0 0),(14,.fn 162 [.ref 4 1 0 0,.ref 5 1 0 0])] [15] A879 B880 .busy none),(7,.cel 3 [[q6 g,q6 l,.hs 9 1 0 1]]),(9,.cel 1 [[.d (.sl 4 (s.map qm))]]),(10,.cel 3 [[q6 g,q6 l,.hs 9 1 0 1]])] 12 (qxq b.2.2.2.2 b.2.1 b.2.2.1 b.2.2.2.1 g l z.1 ac ca)<|qr<|Q9<|Qa ?_
    refine ⟨_,J,?_⟩
    obtain rfl:=qc u
    exact ⟨_,J,wkA [(7,11)] [] []⟩
   intro y hb
   subst hb
   refine O (qd false) J<|q8<|U6 J<|ql<|Qa<|Q9<|qs<|U J<|O (.d (G (w64 (b.1 + 1)))) J<|q9 J<|qr ?_
   exact ⟨_,(Option.some.inj j).symm,wkA [(7,7)] [] []⟩
  refine Q1 ?_
  refine ⟨_,(Option.some.inj j).symm,fun hm=>?_⟩
  subst hm
  refine ⟨.inl J,_,J,_,_,.nor,J,by decide,?_⟩
  refine qbs<|Qa ?_
  obtain rfl:=qc ai
  exact ⟨_,J,wkA [(0,1),(1,2),(2,3),(3,7)] [] []⟩
 intro k st hb hw
 subst hb
 refine Yj hw ?_ (by simp)
 refine qe<|qb<|O (.ref 2 4 0 0) J<|O (.hs 3 6 0 k.2.2.2.length) J<|O (q6 (k.2.2.2.length : Int)) J<|O (.d (.bool (decide ((k.2.2.2.length : Int) > 400)))) J<|q8 ?_
 refine qk J o (fun _ o=>?_) (fun _ o=>?_)
 ·refine qb<|Q8 0 (.dat 1 [[.nilsl]]) J<|Q8 1 (.dat 1 [[G 4]]) J<|qn ?_
  obtain rfl:=qc o
  exact finD (.inr J) (v:=.d (.tup [.nilsl,G 4])) J J (Ys (.cons (.nil _) (.cons (.refl _) .nil)))
 refine ql<|qb<|O (.ref 2 4 0 0) J<|O (.hs 3 6 0 k.2.2.2.length) J<|Q8 0 (.cel 1 [[.hs 3 6 0 k.2.2.2.length]]) J<|Q8 1 (.dat 1 [[G 0]]) J<|qn ?_
 obtain rfl:=qc o
 exact finD (.inr J) (v:=.tup [.hs 3 6 0 k.2.2.2.length,q6 0]) J (q9d (Ji (Z9 J J) (Ji J J))) (.refl _)
theorem quq (g : List qg) (h : List qg) (r : Bool) (f : qb3 g h = some r) : Pure Tryz.prog tab 102 [.sl 6 (g.map qw),.sl 6 (h.map qw)] (.bool r):=by
 unfold qb3 at f
 refine Qc Tryz.func102 J (by kernel_rfl) (by kernel_rfl) J<|qb<|q9 J<|q8<|qe<|qb<|U J<|Qg J<|U J<|Qg J<|O (.d (.bool ((g.length : Int) != (h.length : Int)))) J<|q8 ?_
 refine qk J f (fun _ f=>?_) (fun _ f=>?_)
 ·refine qb<|q9 J<|qn ?_
  obtain rfl:=qc f
  exact qv (qd false) J
 refine ql<|qe<|qb<|U J<|Qg J<|U J<|q8 ?_
 obtain ⟨l,m,f⟩:=q7 f
 refine Qb (fun k=>.inl k = l) (fun (k : Unit)=>⟨[],[],0⟩) (by simp) ?_ ?_
 ·refine Q7 (qeb g h) (fun (j : Int)=>⟨[(0,.d (.sl 6 (g.map qw))),(1,.d (.sl 6 (h.map qw))),(12,q6 (g.length : Int)),(13,q6 j)],[],0⟩) 0 l m (wkA [] [] []) ?_
  intro j p a
  unfold qeb at a
  refine qb<|O (.d (.bool (decide (j < (g.length : Int))))) J<|q8<|qe ?_
  refine qk J a (fun _ a=>?_) (fun _ a=>?_)
  ·refine ql<|qe<|qu<|qb<|U J<|q9 J<|q8<|qe<|Q4 [q0,q0,q0,q0,q0,q0,q0,q0,q0] (by kernel_rfl)<|U J<|U J ?_
   obtain ⟨b,n,a⟩:=q7 a
   refine Q5 (enc:=qw) n J<|O (.d (.agg [G b.Lo.X,G b.Lo.Y,G b.Lo.Z,G b.Hi.X,G b.Hi.Y,G b.Hi.Z])) J<|U J<|U J ?_
   obtain ⟨c,o,a⟩:=q7 a
   refine Q5 (enc:=qw) o J<|O (.d (.agg [G c.Lo.X,G c.Lo.Y,G c.Lo.Z,G c.Hi.X,G c.Hi.Y,G c.Hi.Z])) J<|O (.d (.bool (!((b.Lo.X == c.Lo.X) && ((b.Lo.Y == c.Lo.Y) && ((b.Lo.Z == c.Lo.Z) && ((b.Hi.X == c.Hi.X) && ((b.Hi.Y == c.Hi.Y) && ((b.Hi.Z == c.Hi.Z) && true))))))))) J<|q8 ?_
   refine qk J a (fun _ a=>?_) (fun _ a=>?_)
   ·refine qb<|q9 J<|qn ?_
    refine ⟨_,(Option.some.inj a).symm,fun hm=>?_⟩
    subst hm
    obtain rfl:=qc f
    exact qv (qd false) J
   refine ql<|Qa<|Q9<|qs<|O (.d (G (w64 (j + 1)))) J<|U J<|qr ?_
   exact ⟨_,(Option.some.inj a).symm,wkA [] [] []⟩
  refine Q1 ?_
  refine ⟨_,(Option.some.inj a).symm,fun hm=>?_⟩
  subst hm
  exact ⟨_,J,wkA [] [] []⟩
 intro k hb
 subst hb
 refine qb<|q9 J<|qn ?_
 obtain rfl:=qc f
 exact qv (qd true) J
theorem qeh (b : List qg) (r : Int) (a : q3u b = some r) : Pure Tryz.prog tab 55 [.sl 6 (b.map qw)] (G r):=by
 unfold q3u at a
 refine Qc Tryz.func55 J (by kernel_rfl) (by kernel_rfl) J<|qb<|q9 J<|q8<|qe<|qb<|U J<|Qg J<|O (.d (.bool (decide ((b.length : Int) > 400)))) J<|q8 ?_
 refine qk J a (fun _ a=>?_) (fun _ a=>?_)
 ·refine qb<|q9 J<|qn ?_
  obtain rfl:=qc a
  exact qv (q6 4) J
 refine ql<|qe<|qb<|U J ?_
 obtain ⟨o,p,a⟩:=q7 a
 refine qt (qjz b (fun g=>q23 g) 99 [] (fun g r hr=>qxk g r hr) o p) J<|q8 ?_
 refine qk J a (fun _ a=>?_) (fun _ a=>?_)
 ·refine qb<|q9 J<|qn ?_
  obtain rfl:=qc a
  exact qv (q6 8) J
 refine ql<|qe<|qb<|O (.d (.agg [.nilf])) J<|U J<|qik (es:=1) ([b].map Ke) J J J J J ?_
 obtain ⟨f,q,a⟩:=q7 a
 refine qt (qxw b f q) J<|U J<|O (.d (.sl 6 (f.1.map qw))) J<|O (q6 f.2) J<|q9 J<|q9 J<|qp<|U J<|O (qd (f.2 != 0)) J ?_
 obtain ⟨s,c,a⟩:=q7 a
 refine Q0 6 (fun A st=>∃ (j k l m n : V),st = A [(24,qd s),(23,n),(22,m),(21,l),(20,k),(19,j)]) ?_ ?_
 ·refine qy J J c (fun c=>?_) (fun c=>?_)
  ·refine qa J<|qa J<|qa J<|qa J<|O (qd true) J<|q8 ?_
   obtain rfl:=qc c
   exact ⟨_,_,_,_,_,J⟩
  refine U J<|U J ?_
  obtain ⟨h,t,c⟩:=q7 c
  refine qt (quq f.1 b h t) J<|O (qd (!h)) J<|O (qd (!h)) J<|q8 ?_
  obtain rfl:=qc c
  exact ⟨_,_,_,_,_,J⟩
 rintro _ ⟨j,k,l,m,n,rfl⟩
 refine q8 ?_
 refine qk J a (fun _ a=>?_) (fun _ a=>?_)
 ·refine qb<|q9 J<|qn ?_
  obtain rfl:=qc a
  exact qv (q6 8) J
 refine ql<|qb<|q9 J<|qn ?_
 obtain rfl:=qc a
 exact qv (q6 0) J
theorem qxt (a : qg) (r : Int × Int × Int) (b : qba a = some r) : Pure Tryz.prog tab 86 [.agg [G a.Lo.X,G a.Lo.Y,G a.Lo.Z,G a.Hi.X,G a.Hi.Y,G a.Hi.Z]] (.tup [G r.1,G r.2.1,G r.2.2]):=by
 unfold qba at b
 refine Qc Tryz.func86 J (by kernel_rfl) (by kernel_rfl) J<|qb<|Qh (.ref 0 6 0 0) (.dat 6 [[G a.Lo.X,G a.Lo.Y,G a.Lo.Z,G a.Hi.X,G a.Hi.Y,G a.Hi.Z]]) J<|q9 J<|q9 J<|q9 J<|q8<|qe<|Q4 [q0,q0,q0,q0,qo 0,q0,q0,qo 0,q0,q0,q0,qo 0,q0,q0,qo 0,q0,q0,q0,qo 0,q0,q0,qo 0,q0,q0] (by kernel_rfl)<|O (.ref 0 6 0 3) J<|O (.ref 0 6 0 3) J<|O (q6 a.Hi.X) J<|O (.ref 0 6 0 0) J<|O (.ref 0 6 0 0) J<|O (q6 a.Lo.X) J<|O (.d (G (w64 (a.Hi.X - a.Lo.X)))) J<|O (.ref 0 6 0 3) J<|O (.ref 0 6 0 4) J<|O (q6 a.Hi.Y) J<|O (.ref 0 6 0 0) J<|O (.ref 0 6 0 1) J<|O (q6 a.Lo.Y) J<|O (.d (G (w64 (a.Hi.Y - a.Lo.Y)))) J<|O (.ref 0 6 0 3) J<|O (.ref 0 6 0 5) J<|O (q6 a.Hi.Z) J<|O (.ref 0 6 0 0) J<|O (.ref 0 6 0 2) J<|O (q6 a.Lo.Z) J<|O (.d (G (w64 (a.Hi.Z - a.Lo.Z)))) J<|q9 J<|q9 J<|q9 J<|qn ?_
 obtain rfl:=qc b
 exact qv (.d (.tup [G (w64 (a.Hi.X - a.Lo.X)),G (w64 (a.Hi.Y - a.Lo.Y)),G (w64 (a.Hi.Z - a.Lo.Z))])) J
theorem qei (g : List qg) (r : Int × Int) (c : q3v g = some r) : Pure Tryz.prog tab 40 [.sl 6 (g.map qw)] (.tup [G r.1,G r.2]):=by
 unfold q3v at c
 refine Qc Tryz.func40 J (by kernel_rfl) (by kernel_rfl) J<|qb<|q9 J<|q9 J<|q8<|qe<|qb<|U J ?_
 obtain ⟨k,m,c⟩:=q7 c
 refine qt (qeh g k m) J<|q9 J<|qp<|U J<|O (qd (k != 0)) J<|q8 ?_
 refine qk J c (fun _ c=>?_) (fun _ c=>?_)
 ·refine qb<|U J<|q9 J<|q9 J<|qn ?_
  obtain rfl:=qc c
  exact qv (.d (.tup [G 0,G k])) J
 refine ql<|qb<|q9 J<|q8<|qe<|qb<|U J<|Qg J<|U J<|q8 ?_
 obtain ⟨l,n,c⟩:=q7 c
 refine Qb (fun j=>j = l) (fun (j : Int)=>⟨[(5,q6 j)],[],0⟩) (by simp) ?_ ?_
 ·refine Q7 (q6a g) (fun (h : Int × Int)=>⟨[(5,q6 h.1),(16,.d (.sl 6 (g.map qw))),(17,q6 (g.length : Int)),(18,q6 h.2)],[],0⟩) (0,0) l n (wkA [] [] []) ?_
  intro h q f
  unfold q6a at f
  refine qb<|O (.d (.bool (decide (h.2 < (g.length : Int))))) J<|q8<|qe ?_
  refine qk J f (fun _ f=>?_) (fun _ f=>?_)
  ·refine ql<|qe<|qu<|qb ?_
   obtain ⟨a,o,f⟩:=q7 f
   refine Q5 (enc:=qw) o J<|O (.d (.agg [G a.Lo.X,G a.Lo.Y,G a.Lo.Z,G a.Hi.X,G a.Hi.Y,G a.Hi.Z])) J<|Qo J J<|Q8 0 (.dat 6 [[G a.Lo.X,G a.Lo.Y,G a.Lo.Z,G a.Hi.X,G a.Hi.Y,G a.Hi.Z]]) J<|qp<|O (.d (.agg [G a.Lo.X,G a.Lo.Y,G a.Lo.Z,G a.Hi.X,G a.Hi.Y,G a.Hi.Z])) J ?_
   obtain ⟨b,p,f⟩:=q7 f
   refine qt (qxt a b p) J<|U J<|O (q6 b.1) J<|O (q6 b.2.1) J<|O (q6 b.2.2) J<|q9 J<|q9 J<|q9 J<|q8<|qs<|U J<|U J<|U J<|O (.d (G (w64 (b.1 * b.2.1)))) J<|U J<|O (.d (G (w64 ((w64 (b.1 * b.2.1)) * b.2.2)))) J<|O (.d (G (w64 (h.1 + (w64 ((w64 (b.1 * b.2.1)) * b.2.2)))))) J<|q9 J<|qr<|Q9<|qs<|O (.d (G (w64 (h.2 + 1)))) J<|U J<|qr ?_
   exact ⟨_,(Option.some.inj f).symm,wkA [] [] []⟩
  refine Q1 ?_
  refine ⟨_,(Option.some.inj f).symm,fun hm=>?_⟩
  subst hm
  exact ⟨_,J,wkA [] [] []⟩
 intro j hb
 subst hb
 refine qb<|U J<|q9 J<|q9 J<|qn ?_
 obtain rfl:=qc c
 exact qv (.d (.tup [G j,G 0])) J
theorem quw (b : List Qt) (h : Qt→Option Bool) (p1F : FuncId) (p1C : List DV) (p1Ok : ∀ (j : Qt) (r : Bool),h j = some r→Pure Tryz.prog tab p1F ([.agg [.sl 4 (j.Region.map qm),G j.Height]] ++ p1C) (.bool r)) (r : Int) (c : qb7 b h = some r) : Pure Tryz.prog tab 98 [.sl 2 (b.map Zx),.fn p1F p1C] (G r):=by
 unfold qb7 at c
 refine Qc Tryz.func98 J (by kernel_rfl) (by kernel_rfl) J<|qb<|q9 J<|q8<|qe<|qb<|U J<|Qg J<|U J<|q8 ?_
 obtain ⟨l,m,c⟩:=q7 c
 refine Qb (fun k=>.inl k = l) (fun (k : Unit)=>⟨[],[],0⟩) (by simp) ?_ ?_
 ·refine Q7 (q3l b h) (fun (f : Int)=>⟨[(0,.d (.sl 2 (b.map Zx))),(1,.d (.fn p1F p1C)),(7,q6 (b.length : Int)),(8,q6 f)],[],0⟩) 0 l m (wkA [] [] []) ?_
  intro f q a
  unfold q3l at a
  refine qb<|O (.d (.bool (decide (f < (b.length : Int))))) J<|q8<|qe ?_
  refine qk J a (fun _ a=>?_) (fun _ a=>?_)
  ·refine ql<|qe<|qu<|qb<|U J<|q9 J<|qp<|U J<|U J<|U J ?_
   obtain ⟨g,n,a⟩:=q7 a
   refine Q5 (enc:=Zx) n J<|O (.d (.agg [.sl 4 (g.Region.map qm),G g.Height])) J ?_
   obtain ⟨o,p,a⟩:=q7 a
   refine Kz [.d (.agg [.sl 4 (g.Region.map qm),G g.Height])] (p1Ok g o p) J J J (.inl J)<|q8 ?_
   refine qk J a (fun _ a=>?_) (fun _ a=>?_)
   ·refine qb<|U J<|q9 J<|qn ?_
    refine ⟨_,(Option.some.inj a).symm,fun hm=>?_⟩
    subst hm
    obtain rfl:=qc c
    exact qv (q6 f) J
   refine ql<|Qa<|Q9<|qs<|O (.d (G (w64 (f + 1)))) J<|U J<|qr ?_
   exact ⟨_,(Option.some.inj a).symm,wkA [] [] []⟩
  refine Q1 ?_
  refine ⟨_,(Option.some.inj a).symm,fun hm=>?_⟩
  subst hm
  exact ⟨_,J,wkA [] [] []⟩
 intro k hb
 subst hb
 refine qb<|q9 J<|qn ?_
 obtain rfl:=qc c
 exact qv (q6 (-1)) J
theorem qup (b : List Qt) (c : Qt→Option Bool) (p1F : FuncId) (p1C : List DV) (p1Ok : ∀ (f : Qt) (r : Bool),c f = some r→Pure Tryz.prog tab p1F ([.agg [.sl 4 (f.Region.map qm),G f.Height]] ++ p1C) (.bool r)) (r : Bool) (a : q80 b c = some r) : Pure Tryz.prog tab 53 [.sl 2 (b.map Zx),.fn p1F p1C] (.bool r):=by
 unfold q80 at a
 refine Qc Tryz.func53 J (by kernel_rfl) (by kernel_rfl) J<|qb<|q9 J<|qp<|U J<|U J ?_
 obtain ⟨g,h,a⟩:=q7 a
 refine qt (quw b c p1F p1C p1Ok g h) J<|O (.d (.bool (decide (g ≥ 0)))) J<|q9 J<|qn ?_
 obtain rfl:=qc a
 exact qv (.d (.bool (decide (g ≥ 0)))) J
theorem qsh (a : Qt) (r : Bool) (c : Ut a = some r) : Pure Tryz.prog tab 54 [.agg [.sl 4 (a.Region.map qm),G a.Height]] (.bool r):=by
 unfold Ut at c
 refine Qc Tryz.func54 J (by kernel_rfl) (by kernel_rfl) J<|qb<|Qh (.ref 0 2 0 0) (.dat 2 [[.sl 4 (a.Region.map qm),G a.Height]]) J<|q9 J<|qp<|O (.ref 0 2 0 1) J<|O (q6 a.Height) J<|O (.d (.bool (decide (a.Height < 1)))) J ?_
 obtain ⟨f,b,c⟩:=q7 c
 refine Q0 5 (fun A st=>∃ (g h j k : V),st = A [(10,qd f),(9,k),(8,j),(7,h),(6,g)]) ?_ ?_
 ·refine qy J J b (fun b=>?_) (fun b=>?_)
  ·refine qa J<|qa J<|qa J<|O (qd true) J<|q8 ?_
   obtain rfl:=qc b
   exact ⟨_,_,_,_,J⟩
  refine O (.ref 0 2 0 1) J<|O (q6 a.Height) J<|O (.d (.bool (decide (a.Height > 1000000)))) J<|O (.d (.bool (decide (a.Height > 1000000)))) J<|q8 ?_
  obtain rfl:=qc b
  exact ⟨_,_,_,_,J⟩
 rintro _ ⟨g,h,j,k,rfl⟩
 refine q9 J<|qn ?_
 obtain rfl:=qc c
 exact qv (qd f) J
end Go.Proofs.YtlchefooafpdlaaGreat
