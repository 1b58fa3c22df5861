/- W_Allb -/
import Derived.Test.YtjjmcdlnadkjbaaGreatK15
namespace Go.Proofs.YtjjmcdlnadkjbaaGreat
open Go Go.Am Go.Sh
set_option maxHeartbeats 8000000
set_option maxRecDepth 100000
theorem qv7 (q1 : qh→qh→Option Int) (q1F : FuncId) (q1C : List DV) (q1Ok : ∀ (x0 : qh) (x1 : qh) (r : Int),q1 x0 x1 = some r→Pure Tryz.prog tab q1F ([.agg [G x0.at_,G x0.list_,G x0.by_],.agg [G x1.at_,G x1.list_,G x1.by_]] ++ q1C) (G r)) (j : List qh) (b : Int) (s : Int) (k : Int) (r : Int × Bool × List qh) (a : q8m q1 j b s k = some r) : Qt Tryz.prog tab 177 [.hs 0 3 0 j.length,q6 b,q6 s,q6 k,.d (.fn q1F q1C)] [(0,.dat 3 (j.map Q4))] 1 (.d (.tup [G r.1,.bool r.2.1])) [(0,.dat 3 (r.2.2.map Q4))] 1:=by
 unfold q8m at a
 refine K3 Tryz.func177 J (by kernel_rfl) (by kernel_rfl) J<|qb<|q9 J<|q9 J<|q8<|qf<|Q5 [Qd 0,q0,Qd 0,q0,qo 0,q0,q0,q0,qo 0,q0,q0,q0,q0,q0,q0,q0] (by kernel_rfl)<|U J<|U J<|U J<|U J<|U J<|U J ?_
 obtain ⟨f,bd,a⟩:=q7 a
 refine qq bd J J<|Q0 (.d (.agg [G f.at_,G f.list_,G f.by_])) bd J<|U J<|U J ?_
 obtain ⟨g,be,a⟩:=q7 a
 refine qq be J J<|Q0 (.d (.agg [G g.at_,G g.list_,G g.by_])) be J ?_
 obtain ⟨gd,bf,a⟩:=q7 a
 refine qq bf J J<|Qk (ds:=[G f.at_,G f.list_,G f.by_]) f bf J J J J J J J J (leb J) J ?_
 obtain ⟨ge,bg,a⟩:=q7 a
 refine qq bg (by simp) J<|Qk (ds:=[G g.at_,G g.list_,G g.by_]) g bg J J J J J J J J (leb J) J<|qp<|U J<|O (.d (G (w64 (b + 1)))) J<|U J<|O (.d (G (w64 (s - 1)))) J<|q9 J<|q9 J<|q8<|qf ?_
 obtain ⟨bh,fq,a⟩:=q7 a
 refine Qh (fun l=>l = bh) (fun (l : Int)=>⟨[(0,.hs 0 3 0 ((j.set b.toNat f).set k.toNat g).length),(1,q6 b),(4,.d (.fn q1F q1C)),(12,q6 l),(13,.d (G (w64 (s - 1))))],[(0,.dat 3 (((j.set b.toNat f).set k.toNat g).map Q4))],1⟩) (by simp) ?_ ?_
 ·refine Q7 (q8n s j b f k g q1) (fun (av : Int)=>⟨[(0,.hs 0 3 0 ((j.set b.toNat f).set k.toNat g).length),(1,q6 b),(4,.d (.fn q1F q1C)),(12,q6 av),(13,.d (G (w64 (s - 1))))],[(0,.dat 3 (((j.set b.toNat f).set k.toNat g).map Q4))],1⟩) (w64 (b + 1)) bh fq (wkE [] [] [] J ⟨⟨_,J,Qp (by simp) J (by decide) (ltd J)⟩,⟨_,J,.d (.refl _)⟩,⟨_,J,.d (.refl _)⟩,⟨_,J,.d (.refl _)⟩,⟨_,J,.d (.refl _)⟩,trivial⟩ ⟨⟨ltd J,.inr ⟨by decide,_,J,.dat _ _⟩⟩,trivial⟩) ?_
  intro av gf t
  unfold q8n at t
  refine qf<|qf<|Q5 [q0,q0,q0,qo 0,q0,q0,q0,qo 0,q0,q0,q0,q0,q0,q0,q0,q0] (by kernel_rfl)<|U J<|U J<|O (.d (.bool (decide (av≤(w64 (s - 1)))))) J ?_
  obtain ⟨fr,m,t⟩:=q7 t
  refine Q3 13 (fun A st=>∃ (bi bj bk bl bm bn bo bp bq br bs bt : V),st = A [(47,qe fr),(46,bt),(45,bs),(44,br),(43,bq),(42,bp),(41,bo),(40,bn),(39,bm),(38,bl),(37,bk),(36,bj),(35,bi)]) ?_ ?_
  ·refine Q2 J J m (fun m=>?_) (fun m=>?_)
   ·refine U J<|U J<|U J ?_
    obtain ⟨ab,bu,m⟩:=q7 m
    refine qq bu J J<|Q0 (.d (.agg [G ab.at_,G ab.list_,G ab.by_])) bu J<|U J<|U J ?_
    obtain ⟨ac,bv,m⟩:=q7 m
    refine qq bv J J<|Q0 (.d (.agg [G ac.at_,G ac.list_,G ac.by_])) bv J ?_
    obtain ⟨bb,fs,m⟩:=q7 m
    refine Ye [.d (.agg [G ab.at_,G ab.list_,G ab.by_]),.d (.agg [G ac.at_,G ac.list_,G ac.by_])] (q1Ok ab ac bb fs) J J J (.inl J)<|O (.d (.bool (decide (bb < 0)))) J<|O (.d (.bool (decide (bb < 0)))) J<|q8 ?_
    obtain rfl:=qd m
    exact ⟨_,_,_,_,_,_,_,_,_,_,_,_,J⟩
   refine qa J<|qa J<|qa J<|qa J<|qa J<|qa J<|qa J<|qa J<|qa J<|qa J<|qa J<|O (qe false) J<|q8 ?_
   obtain rfl:=qd m
   exact ⟨_,_,_,_,_,_,_,_,_,_,_,_,J⟩
  rintro _ ⟨bi,bj,bk,bl,bm,bn,bo,bp,bq,br,bs,bt,rfl⟩
  refine q8 ?_
  refine qm J t (fun _ t=>?_) (fun _ t=>?_)
  ·refine qn<|Q1<|qw<|U J<|O (.d (G (w64 (av + 1)))) J<|q9 J<|qs<|Qc<|Qa ?_
   exact ⟨_,(Option.some.inj t).symm,wkA [] [] []⟩
  refine Q6 ?_
  refine ⟨_,(Option.some.inj t).symm,fun hm=>?_⟩
  subst hm
  exact ⟨_,J,wkA [] [] []⟩
 intro l hb
 subst hb
 refine qf ?_
 obtain ⟨bw,ft,a⟩:=q7 a
 refine Qh (fun u=>u = bw) (fun (u : Int)=>⟨[(0,.hs 0 3 0 ((j.set b.toNat f).set k.toNat g).length),(1,q6 b),(4,.d (.fn q1F q1C)),(12,q6 l),(13,q6 u)],[(0,.dat 3 (((j.set b.toNat f).set k.toNat g).map Q4))],1⟩) (by simp) ?_ ?_
 ·refine Q7 (q8o l j b f k g q1) (fun (aw : Int)=>⟨[(0,.hs 0 3 0 ((j.set b.toNat f).set k.toNat g).length),(1,q6 b),(4,.d (.fn q1F q1C)),(12,q6 l),(13,q6 aw)],[(0,.dat 3 (((j.set b.toNat f).set k.toNat g).map Q4))],1⟩) (w64 (s - 1)) bw ft (wkA [] [] []) ?_
  intro aw gg v
  unfold q8o at v
  refine qf<|qf<|Q5 [q0,q0,q0,q0,qo 0,q0,q0,q0,qo 0,q0,q0,q0,q0,q0,q0,q0,q0] (by kernel_rfl)<|U J<|U J<|O (.d (.bool (decide (l≤aw)))) J ?_
  obtain ⟨fu,n,v⟩:=q7 v
  refine Q3 14 (fun A st=>∃ (bz ca cb cc cd ce cf cg ch ci cj ck cl : V),st = A [(66,qe fu),(65,cl),(64,ck),(63,cj),(62,ci),(61,ch),(60,cg),(59,cf),(58,ce),(57,cd),(56,cc),(55,cb),(54,ca),(53,bz)]) ?_ ?_
  ·refine Q2 J J n (fun n=>?_) (fun n=>?_)
   ·refine U J<|U J<|U J ?_
    obtain ⟨ad,cm,n⟩:=q7 n
    refine qq cm J J<|Q0 (.d (.agg [G ad.at_,G ad.list_,G ad.by_])) cm J<|U J<|U J ?_
    obtain ⟨ae,cn,n⟩:=q7 n
    refine qq cn J J<|Q0 (.d (.agg [G ae.at_,G ae.list_,G ae.by_])) cn J ?_
    obtain ⟨ax,fv,n⟩:=q7 n
    refine Ye [.d (.agg [G ad.at_,G ad.list_,G ad.by_]),.d (.agg [G ae.at_,G ae.list_,G ae.by_])] (q1Ok ad ae ax fv) J J J (.inl J)<|O (.d (.bool (decide (ax < 0)))) J<|O (.d (.bool (!(decide (ax < 0))))) J<|O (.d (.bool (!(decide (ax < 0))))) J<|q8 ?_
    obtain rfl:=qd n
    exact ⟨_,_,_,_,_,_,_,_,_,_,_,_,_,J⟩
   refine qa J<|qa J<|qa J<|qa J<|qa J<|qa J<|qa J<|qa J<|qa J<|qa J<|qa J<|qa J<|O (qe false) J<|q8 ?_
   obtain rfl:=qd n
   exact ⟨_,_,_,_,_,_,_,_,_,_,_,_,_,J⟩
  rintro _ ⟨bz,ca,cb,cc,cd,ce,cf,cg,ch,ci,cj,ck,cl,rfl⟩
  refine q8 ?_
  refine qm J v (fun _ v=>?_) (fun _ v=>?_)
  ·refine qn<|Q1<|qw<|U J<|O (.d (G (w64 (aw - 1)))) J<|q9 J<|qs<|Qc<|Qa ?_
   exact ⟨_,(Option.some.inj v).symm,wkA [] [] []⟩
  refine Q6 ?_
  refine ⟨_,(Option.some.inj v).symm,fun hm=>?_⟩
  subst hm
  exact ⟨_,J,wkA [] [] []⟩
 intro u hb
 subst hb
 refine qf<|qb<|U J<|U J<|O (.d (.bool (decide (l > u)))) J<|q8 ?_
 refine qm J a (fun _ a=>?_) (fun _ a=>?_)
 ·refine qf<|Q5 [Qd 0,q0,Qd 0,q0,qo 0,q0,q0,q0,qo 0,q0,q0,q0,q0,q0,q0,q0] (by kernel_rfl)<|U J<|U J<|U J<|U J<|U J<|U J ?_
  obtain ⟨af,co,a⟩:=q7 a
  refine qq co J J<|Q0 (.d (.agg [G af.at_,G af.list_,G af.by_])) co J<|U J<|U J ?_
  obtain ⟨ag,cp,a⟩:=q7 a
  refine qq cp J J<|Q0 (.d (.agg [G ag.at_,G ag.list_,G ag.by_])) cp J ?_
  obtain ⟨gh,cq,a⟩:=q7 a
  refine qq cq J J<|Qk (ds:=[G af.at_,G af.list_,G af.by_]) af cq J J J J J J J J (leb J) J ?_
  obtain ⟨gi,cr,a⟩:=q7 a
  refine qq cr (by simp) J<|Qk (ds:=[G ag.at_,G ag.list_,G ag.by_]) ag cr J J J J J J J J (leb J) J<|qp<|U J<|q9 J<|q9 J<|qr ?_
  obtain rfl:=qd a
  exact ⟨.inr J,_,J,wkA [] [] []⟩
 refine qn<|qf<|Q5 [Qd 0,q0,Qd 0,q0,qo 0,q0,q0,q0,qo 0,q0,q0,q0,q0,q0,q0,q0] (by kernel_rfl)<|U J<|U J<|U J<|U J<|U J<|U J ?_
 obtain ⟨w,cs,a⟩:=q7 a
 refine qq cs J J<|Q0 (.d (.agg [G w.at_,G w.list_,G w.by_])) cs J<|U J<|U J ?_
 obtain ⟨x,ct,a⟩:=q7 a
 refine qq ct J J<|Q0 (.d (.agg [G x.at_,G x.list_,G x.by_])) ct J ?_
 obtain ⟨gj,cu,a⟩:=q7 a
 refine qq cu J J<|Qk (ds:=[G w.at_,G w.list_,G w.by_]) w cu J J J J J J J J (leb J) J ?_
 obtain ⟨gk,cv,a⟩:=q7 a
 refine qq cv (by simp) J<|Qk (ds:=[G x.at_,G x.list_,G x.by_]) x cv J J J J J J J J (leb J) J<|qp<|U J<|O (.d (G (w64 (l + 1)))) J<|q9 J<|qp<|U J<|O (.d (G (w64 (u - 1)))) J<|q9 J<|q8<|qf ?_
 obtain ⟨cw,fw,a⟩:=q7 a
 refine Qh (fun ap=>ap = cw) (fun (ap : Int × List qh)=>⟨[(0,.hs 0 3 0 ap.2.length),(1,q6 b),(13,q6 ap.1)],[(0,.dat 3 (ap.2.map Q4))],1⟩) (by simp) ?_ ?_
 ·refine Q7 (q8p b q1) (fun (c : Int × Int × List qh)=>⟨[(0,.hs 0 3 0 c.2.2.length),(1,q6 b),(4,.d (.fn q1F q1C)),(12,q6 c.1),(13,q6 c.2.1)],[(0,.dat 3 (c.2.2.map Q4))],1⟩) (w64 (l + 1),w64 (u - 1),(((j.set b.toNat f).set k.toNat g).set l.toNat w).set u.toNat x) cw fw (wkE [] [] [] J ⟨⟨_,J,Qp (by simp) J (by decide) (ltd J)⟩,⟨_,J,.d (.refl _)⟩,⟨_,J,.d (.refl _)⟩,⟨_,J,.d (.refl _)⟩,⟨_,J,.d (.refl _)⟩,trivial⟩ ⟨⟨ltd J,.inr ⟨by decide,_,J,.dat _ _⟩⟩,trivial⟩) ?_
  intro c gl h
  unfold q8p at h
  refine Q1<|qf ?_
  obtain ⟨cx,fx,h⟩:=q7 h
  refine Qh (fun q=>q = cx) (fun (q : Int)=>⟨[(0,.hs 0 3 0 c.2.2.length),(1,q6 b),(4,.d (.fn q1F q1C)),(12,q6 q),(13,q6 c.2.1)],[(0,.dat 3 (c.2.2.map Q4))],1⟩) (by simp) ?_ ?_
  ·refine Q7 (q8q c b q1) (fun (ay : Int)=>⟨[(0,.hs 0 3 0 c.2.2.length),(1,q6 b),(4,.d (.fn q1F q1C)),(12,q6 ay),(13,q6 c.2.1)],[(0,.dat 3 (c.2.2.map Q4))],1⟩) c.1 cx fx (wkA [] [] []) ?_
   intro ay gm y
   unfold q8q at y
   refine qf<|qf<|Q5 [q0,q0,q0,qo 0,q0,q0,q0,qo 0,q0,q0,q0,q0,q0,q0,q0,q0] (by kernel_rfl)<|U J<|U J<|O (.d (.bool (decide (ay≤c.2.1)))) J ?_
   obtain ⟨fy,o,y⟩:=q7 y
   refine Q3 13 (fun A st=>∃ (cy cz da dc dd de df dg dh dj dk dl : V),st = A [(120,qe fy),(119,dl),(118,dk),(117,dj),(116,dh),(115,dg),(114,df),(113,de),(112,dd),(111,dc),(110,da),(109,cz),(108,cy)]) ?_ ?_
   ·refine Q2 J J o (fun o=>?_) (fun o=>?_)
    ·refine U J<|U J<|U J ?_
     obtain ⟨ah,dm,o⟩:=q7 o
     refine qq dm J J<|Q0 (.d (.agg [G ah.at_,G ah.list_,G ah.by_])) dm J<|U J<|U J ?_
     obtain ⟨ai,dn,o⟩:=q7 o
     refine qq dn J J<|Q0 (.d (.agg [G ai.at_,G ai.list_,G ai.by_])) dn J ?_
     obtain ⟨bc,fz,o⟩:=q7 o
     refine Ye [.d (.agg [G ah.at_,G ah.list_,G ah.by_]),.d (.agg [G ai.at_,G ai.list_,G ai.by_])] (q1Ok ah ai bc fz) J J J (.inl J)<|O (.d (.bool (decide (bc < 0)))) J<|O (.d (.bool (decide (bc < 0)))) J<|q8 ?_
     obtain rfl:=qd o
     exact ⟨_,_,_,_,_,_,_,_,_,_,_,_,J⟩
    refine qa J<|qa J<|qa J<|qa J<|qa J<|qa J<|qa J<|qa J<|qa J<|qa J<|qa J<|O (qe false) J<|q8 ?_
    obtain rfl:=qd o
    exact ⟨_,_,_,_,_,_,_,_,_,_,_,_,J⟩
   rintro _ ⟨cy,cz,da,dc,dd,de,df,dg,dh,dj,dk,dl,rfl⟩
   refine q8 ?_
   refine qm J y (fun _ y=>?_) (fun _ y=>?_)
   ·refine qn<|Q1<|qw<|U J<|O (.d (G (w64 (ay + 1)))) J<|q9 J<|qs<|Qc<|Qa ?_
    exact ⟨_,(Option.some.inj y).symm,wkA [] [] []⟩
   refine Q6 ?_
   refine ⟨_,(Option.some.inj y).symm,fun hm=>?_⟩
   subst hm
   exact ⟨_,J,wkA [] [] []⟩
  intro q hb
  subst hb
  refine qf ?_
  obtain ⟨dp,ga,h⟩:=q7 h
  refine Qh (fun aq=>aq = dp) (fun (aq : Int)=>⟨[(0,.hs 0 3 0 c.2.2.length),(1,q6 b),(4,.d (.fn q1F q1C)),(12,q6 q),(13,q6 aq)],[(0,.dat 3 (c.2.2.map Q4))],1⟩) (by simp) ?_ ?_
  ·refine Q7 (q8r q c b q1) (fun (az : Int)=>⟨[(0,.hs 0 3 0 c.2.2.length),(1,q6 b),(4,.d (.fn q1F q1C)),(12,q6 q),(13,q6 az)],[(0,.dat 3 (c.2.2.map Q4))],1⟩) c.2.1 dp ga (wkA [] [] []) ?_
   intro az gn z
   unfold q8r at z
   refine qf<|qf<|Q5 [q0,q0,q0,q0,qo 0,q0,q0,q0,qo 0,q0,q0,q0,q0,q0,q0,q0,q0] (by kernel_rfl)<|U J<|U J<|O (.d (.bool (decide (q≤az)))) J ?_
   obtain ⟨gb,p,z⟩:=q7 z
   refine Q3 14 (fun A st=>∃ (dq dr dt du dv dw dx dy dz fa fb fc fd : V),st = A [(139,qe gb),(138,fd),(137,fc),(136,fb),(135,fa),(134,dz),(133,dy),(132,dx),(131,dw),(130,dv),(129,du),(128,dt),(127,dr),(126,dq)]) ?_ ?_
   ·refine Q2 J J p (fun p=>?_) (fun p=>?_)
    ·refine U J<|U J<|U J ?_
     obtain ⟨aj,fe,p⟩:=q7 p
     refine qq fe J J<|Q0 (.d (.agg [G aj.at_,G aj.list_,G aj.by_])) fe J<|U J<|U J ?_
     obtain ⟨ak,ff,p⟩:=q7 p
     refine qq ff J J<|Q0 (.d (.agg [G ak.at_,G ak.list_,G ak.by_])) ff J ?_
     obtain ⟨ba,gc,p⟩:=q7 p
     refine Ye [.d (.agg [G aj.at_,G aj.list_,G aj.by_]),.d (.agg [G ak.at_,G ak.list_,G ak.by_])] (q1Ok aj ak ba gc) J J J (.inl J)<|O (.d (.bool (decide (ba < 0)))) J<|O (.d (.bool (!(decide (ba < 0))))) J<|O (.d (.bool (!(decide (ba < 0))))) J<|q8 ?_
     obtain rfl:=qd p
     exact ⟨_,_,_,_,_,_,_,_,_,_,_,_,_,J⟩
    refine qa J<|qa J<|qa J<|qa J<|qa J<|qa J<|qa J<|qa J<|qa J<|qa J<|qa J<|qa J<|O (qe false) J<|q8 ?_
    obtain rfl:=qd p
    exact ⟨_,_,_,_,_,_,_,_,_,_,_,_,_,J⟩
   rintro _ ⟨dq,dr,dt,du,dv,dw,dx,dy,dz,fa,fb,fc,fd,rfl⟩
   refine q8 ?_
   refine qm J z (fun _ z=>?_) (fun _ z=>?_)
   ·refine qn<|Q1<|qw<|U J<|O (.d (G (w64 (az - 1)))) J<|q9 J<|qs<|Qc<|Qa ?_
    exact ⟨_,(Option.some.inj z).symm,wkA [] [] []⟩
   refine Q6 ?_
   refine ⟨_,(Option.some.inj z).symm,fun hm=>?_⟩
   subst hm
   exact ⟨_,J,wkA [] [] []⟩
  intro aq hb
  subst hb
  refine qf<|qb<|U J<|U J<|O (.d (.bool (decide (q > aq)))) J<|q8 ?_
  refine qm J h (fun _ h=>?_) (fun _ h=>?_)
  ·refine Q6 ?_
   refine ⟨_,(Option.some.inj h).symm,fun hm=>?_⟩
   subst hm
   exact ⟨_,J,wkA [] [] []⟩
  refine qn<|qf<|Q5 [Qd 0,q0,Qd 0,q0,qo 0,q0,q0,q0,qo 0,q0,q0,q0,q0,q0,q0,q0] (by kernel_rfl)<|U J<|U J<|U J<|U J<|U J<|U J ?_
  obtain ⟨al,fg,h⟩:=q7 h
  refine qq fg J J<|Q0 (.d (.agg [G al.at_,G al.list_,G al.by_])) fg J<|U J<|U J ?_
  obtain ⟨am,fh,h⟩:=q7 h
  refine qq fh J J<|Q0 (.d (.agg [G am.at_,G am.list_,G am.by_])) fh J ?_
  obtain ⟨go,fi,h⟩:=q7 h
  refine qq fi J J<|Qk (ds:=[G al.at_,G al.list_,G al.by_]) al fi J J J J J J J J (leb J) J ?_
  obtain ⟨gp,fj,h⟩:=q7 h
  refine qq fj (by simp) J<|Qk (ds:=[G am.at_,G am.list_,G am.by_]) am fj J J J J J J J J (leb J) J<|qp<|U J<|O (.d (G (w64 (q + 1)))) J<|q9 J<|q8<|qw<|U J<|O (.d (G (w64 (aq - 1)))) J<|q9 J<|qs<|Qc<|Qa ?_
  exact ⟨_,(Option.some.inj h).symm,wkE [] [] [] J ⟨⟨_,J,Qp (by simp) J (by decide) (ltd J)⟩,⟨_,J,.d (.refl _)⟩,⟨_,J,.d (.refl _)⟩,⟨_,J,.d (.refl _)⟩,⟨_,J,.d (.refl _)⟩,trivial⟩ ⟨⟨ltd J,.inr ⟨by decide,_,J,.dat _ _⟩⟩,trivial⟩⟩
 intro ap hb
 subst hb
 refine qf<|Q5 [Qd 0,q0,Qd 0,q0,qo 0,q0,q0,q0,qo 0,q0,q0,q0,q0,q0,q0,q0] (by kernel_rfl)<|U J<|U J<|U J<|U J<|U J<|U J ?_
 obtain ⟨an,fk,a⟩:=q7 a
 refine qq fk J J<|Q0 (.d (.agg [G an.at_,G an.list_,G an.by_])) fk J<|U J<|U J ?_
 obtain ⟨ao,fl,a⟩:=q7 a
 refine qq fl J J<|Q0 (.d (.agg [G ao.at_,G ao.list_,G ao.by_])) fl J ?_
 obtain ⟨gq,fm,a⟩:=q7 a
 refine qq fm J J<|Qk (ds:=[G an.at_,G an.list_,G an.by_]) an fm J J J J J J J J (leb J) J ?_
 obtain ⟨gr,fo,a⟩:=q7 a
 refine qq fo (by simp) J<|Qk (ds:=[G ao.at_,G ao.list_,G ao.by_]) ao fo J J J J J J J J (leb J) J<|qp<|U J<|q9 J<|q9 J<|qr ?_
 obtain rfl:=qd a
 exact ⟨.inr J,_,J,wkA [] [] []⟩
theorem qux (s : qh→qh→Option Int) (q1F : FuncId) (q1C : List DV) (_q1Ok : ∀ (o : qh) (p : qh) (r : Int),s o p = some r→Pure Tryz.prog tab q1F ([.agg [G o.at_,G o.list_,G o.by_],.agg [G p.at_,G p.list_,G p.by_]] ++ q1C) (G r)) (q : List qh) (a : Int) (b : Int) (r : List qh) (g : q89 s q a b = some r) : Qt Tryz.prog tab 172 [.hs 0 3 0 q.length,q6 a,q6 b,.d (.fn q1F q1C)] [(0,.dat 3 (q.map Q4))] 1 (.d (.tup [])) [(0,.dat 3 (r.map Q4))] 1:=by
 unfold q89 at g
 refine K3 Tryz.func172 J (by kernel_rfl) (by kernel_rfl) J<|qb<|U J<|U J<|O (.d (G (w64 (b - a)))) J<|q9 J<|qp<|U J<|O (.d (.bool (decide ((w64 (b - a)) ≥ 8)))) J<|q8 ?_
 refine qm J g (fun _ g=>?_) (fun _ g=>?_)
 ·refine qb<|U J<|O (.d (.int .u64 (IntKind.wrap .u64 (w64 (b - a))))) J<|Qo J J<|Q8 1 (.dat 1 [[.int .u64 (IntKind.wrap .u64 (w64 (b - a)))]]) J<|qp<|U J ?_
  obtain ⟨h,x,g⟩:=q7 g
  refine qt (qk7 (w64 (b - a)) h x) J<|q9 J<|qp<|U J<|U J<|O (.d (G (w64 (Int.tdiv (w64 (b - a)) 4)))) J<|O (.d (G (w64 ((w64 (Int.tdiv (w64 (b - a)) 4)) * 2)))) J<|O (.d (G (w64 (a + (w64 ((w64 (Int.tdiv (w64 (b - a)) 4)) * 2)))))) J<|O (.d (G (w64 ((w64 (a + (w64 ((w64 (Int.tdiv (w64 (b - a)) 4)) * 2)))) - 1)))) J<|q9 J<|q8 ?_
  obtain ⟨y,z,g⟩:=q7 g
  refine Q1<|Q7 (q8a a b h) (fun (f : Int × List qh × Int)=>⟨[(0,.hs 0 3 0 f.2.1.length),(1,q6 a),(8,.d (G (w64 (b - a)))),(9,.ref 1 1 0 0),(10,.d (.int .u64 h)),(11,q6 f.1)],[(0,.dat 3 (f.2.1.map Q4)),(1,.dat 1 [[.int .u64 f.2.2]])],2⟩) (w64 ((w64 (a + (w64 ((w64 (Int.tdiv (w64 (b - a)) 4)) * 2)))) - 1),q,IntKind.wrap .u64 (w64 (b - a))) y z (wkA [(1,1)] [] []) ?_
  intro f ac c
  unfold q8a at c
  refine qf<|qb<|U J<|U J<|U J<|O (.d (G (w64 (Int.tdiv (w64 (b - a)) 4)))) J<|O (.d (G (w64 ((w64 (Int.tdiv (w64 (b - a)) 4)) * 2)))) J<|O (.d (G (w64 (a + (w64 ((w64 (Int.tdiv (w64 (b - a)) 4)) * 2)))))) J<|O (.d (G (w64 ((w64 (a + (w64 ((w64 (Int.tdiv (w64 (b - a)) 4)) * 2)))) + 1)))) J<|O (.d (.bool (decide (f.1≤(w64 ((w64 (a + (w64 ((w64 (Int.tdiv (w64 (b - a)) 4)) * 2)))) + 1)))))) J<|q8 ?_
  refine qm J c (fun _ c=>?_) (fun _ c=>?_)
  ·refine qn<|qf<|Q1<|qb ?_
   obtain ⟨j,aa,c⟩:=q7 c
   refine Qw [(0,1)] [(0,1),(1,0)] [.ref 1 1 0 0] (.d (.int .u64 j)) 1 [(1,.dat 1 [[.int .u64 j]]),(0,.dat 3 (f.2.1.map Q4))] 2 (qka f.2.2 j aa)<|U J<|O (.d (.int .u64 (IntKind.wrap .u64 (h - 1)))) J<|O (.d (.int .u64 (andI .u64 j (IntKind.wrap .u64 (h - 1))))) J<|O (.d (G (w64 (andI .u64 j (IntKind.wrap .u64 (h - 1)))))) J<|q9 J<|q8<|qf<|qb<|U J<|U J<|O (.d (.bool (decide ((w64 (andI .u64 j (IntKind.wrap .u64 (h - 1)))) ≥ (w64 (b - a)))))) J<|q8 ?_
   obtain ⟨ab,n,c⟩:=q7 c
   refine Y3 (fun m=>m = ab) (fun (m : Int)=>⟨[(0,.hs 0 3 0 f.2.1.length),(1,q6 a),(8,.d (G (w64 (b - a)))),(9,.ref 1 1 0 0),(10,.d (.int .u64 h)),(11,q6 f.1),(12,q6 m)],[(0,.dat 3 (f.2.1.map Q4)),(1,.dat 1 [[.int .u64 j]])],2⟩) (by simp) ?_ ?_
   ·refine qm J n (fun _ n=>?_) (fun _ n=>?_)
    ·refine qw<|U J<|U J<|O (.d (G (w64 ((w64 (andI .u64 j (IntKind.wrap .u64 (h - 1)))) - (w64 (b - a)))))) J<|q9 J<|qs ?_
     obtain rfl:=qd n
     exact ⟨_,J,wkA [(1,1)] [] []⟩
    refine qn<|Qa ?_
    obtain rfl:=qd n
    exact ⟨_,J,wkA [(1,1)] [] []⟩
   intro m hb
   subst hb
   refine Q5 [Qd 0,q0,Qd 0,q0,qo 0,q0,q0,q0,qo 0,q0,q0,q0,q0,q0,q0,q0,q0,q0,q0,q0] (by kernel_rfl)<|U J<|U J<|U J<|U J<|U J<|O (.d (G (w64 (a + m)))) J<|U J<|U J<|U J<|O (.d (G (w64 (a + m)))) J ?_
   obtain ⟨k,t,c⟩:=q7 c
   refine qq t J J<|Q0 (.d (.agg [G k.at_,G k.list_,G k.by_])) t J<|U J<|U J ?_
   obtain ⟨l,u,c⟩:=q7 c
   refine qq u J J<|Q0 (.d (.agg [G l.at_,G l.list_,G l.by_])) u J ?_
   obtain ⟨ad,v,c⟩:=q7 c
   refine qq v J J<|Qk (ds:=[G k.at_,G k.list_,G k.by_]) k v J J J J J J J J (leb J) J ?_
   obtain ⟨ae,w,c⟩:=q7 c
   refine qq w (by simp) J<|Qk (ds:=[G l.at_,G l.list_,G l.by_]) l w J J J J J J J J (leb J) J<|qs<|Qc<|qw<|U J<|O (.d (G (w64 (f.1 + 1)))) J<|q9 J<|qs ?_
   exact ⟨_,(Option.some.inj c).symm,wkE [(1,1)] [] [] J ⟨⟨_,J,Qp (by simp) J (by decide) (ltd J)⟩,⟨_,J,.d (.refl _)⟩,⟨_,J,.d (.refl _)⟩,⟨_,J,.ref J (by decide) (ltd J)⟩,⟨_,J,.d (.refl _)⟩,⟨_,J,.d (.refl _)⟩,trivial⟩ ⟨⟨ltd J,.inr ⟨by decide,_,J,.dat _ _⟩⟩,⟨ltd J,.inr ⟨by decide,_,J,.dat _ _⟩⟩,trivial⟩⟩
  refine Q6 ?_
  refine ⟨_,(Option.some.inj c).symm,fun hm=>?_⟩
  subst hm
  obtain rfl:=qd g
  exact ⟨.inl J,_,J,wkA [] [] []⟩
 refine qn<|Qa ?_
 obtain rfl:=qd g
 exact ⟨.inl J,_,J,wkA [] [] []⟩
theorem qvb (rec : List qh→Int→Int→Int→Option (List qh)) (j : qh→qh→Option Int) (q1F : FuncId) (q1C : List DV) (q1Ok : ∀ (z : qh) (x1 : qh) (r : Int),j z x1 = some r→Pure Tryz.prog tab q1F ([.agg [G z.at_,G z.list_,G z.by_],.agg [G x1.at_,G x1.list_,G x1.by_]] ++ q1C) (G r)) (hrec : ∀ (o : List qh) (s : Int) (t : Int) (u : Int) (r : List qh),rec o s t u = some r→Qt Tryz.prog tab 168 [.hs 0 3 0 o.length,q6 s,q6 t,q6 u,.d (.fn q1F q1C)] [(0,.dat 3 (o.map Q4))] 1 (.d (.tup [])) [(0,.dat 3 (r.map Q4))] 1) (o : List qh) (s : Int) (t : Int) (u : Int) (r : List qh) (v : q67 rec j o s t u = some r) : Qt Tryz.prog tab 168 [.hs 0 3 0 o.length,q6 s,q6 t,q6 u,.d (.fn q1F q1C)] [(0,.dat 3 (o.map Q4))] 1 (.d (.tup [])) [(0,.dat 3 (r.map Q4))] 1:=by
 unfold q67 at v
 refine K3 Tryz.func168 J (by kernel_rfl) (by kernel_rfl) J<|qb<|q9 J<|qp<|q9 J<|q8 ?_
 obtain ⟨bi,bj,v⟩:=q7 v
 refine Q1<|Q7 (q66 j rec) (fun (a : Int × Int × Int × Bool × Bool × List qh)=>⟨[(0,.hs 0 3 0 a.2.2.2.2.2.length),(1,q6 a.1),(2,q6 a.2.1),(3,q6 a.2.2.1),(4,.d (.fn q1F q1C)),(10,qe a.2.2.2.1),(11,qe a.2.2.2.2.1)],[(0,.dat 3 (a.2.2.2.2.2.map Q4))],1⟩) (s,t,u,true,true,o) bi bj (wkA [] [] []) ?_
 intro a cs b
 unfold q66 at b
 refine Q1<|qb<|U J<|U J<|O (.d (G (w64 (a.2.1 - a.1)))) J<|q9 J<|q8<|qf<|qb<|U J<|O (.d (.bool (decide ((w64 (a.2.1 - a.1))≤12)))) J<|q8 ?_
 refine qm J b (fun _ b=>?_) (fun _ b=>?_)
 ·refine qb<|U J<|U J<|U J<|U J ?_
  obtain ⟨ah,bk,b⟩:=q7 b
  obtain ⟨ct,bl,b⟩:=q7 b
  have cu:=K7 bl
  refine Qw [(0,0)] [(0,0)] [.hs 0 3 0 a.2.2.2.2.2.length,q6 a.1,q6 a.2.1,.d (.fn q1F q1C)] (.d (.tup [])) 1 [(0,.dat 3 (ah.map Q4))] 1 (qv3 j q1F q1C q1Ok a.2.2.2.2.2 a.1 a.2.1 ah bk)<|qr ?_
  refine ⟨_,(Option.some.inj b).symm,fun hm=>?_⟩
  subst hm
  obtain rfl:=qd v
  exact ⟨.inr J,_,J,wkA [] [] []⟩
 refine qn<|qf<|qb<|U J<|O (qe (a.2.2.1 == 0)) J<|q8 ?_
 refine qm J b (fun _ b=>?_) (fun _ b=>?_)
 ·refine qb<|U J<|U J<|U J<|U J ?_
  obtain ⟨ai,bm,b⟩:=q7 b
  obtain ⟨cv,bn,b⟩:=q7 b
  have cw:=K7 bn
  refine Qw [(0,0)] [(0,0)] [.hs 0 3 0 a.2.2.2.2.2.length,q6 a.1,q6 a.2.1,.d (.fn q1F q1C)] (.d (.tup [])) 1 [(0,.dat 3 (ai.map Q4))] 1 (qv1 j q1F q1C q1Ok a.2.2.2.2.2 a.1 a.2.1 ai bm)<|qr ?_
  refine ⟨_,(Option.some.inj b).symm,fun hm=>?_⟩
  subst hm
  obtain rfl:=qd v
  exact ⟨.inr J,_,J,wkA [] [] []⟩
 refine qn<|qf<|qb<|U J<|O (qe (!a.2.2.2.1)) J<|q8 ?_
 obtain ⟨bo,m,b⟩:=q7 b
 refine Y3 (fun f=>f = bo) (fun (f : Int × List qh)=>⟨[(0,.hs 0 3 0 f.2.length),(1,q6 a.1),(2,q6 a.2.1),(3,q6 f.1),(4,.d (.fn q1F q1C)),(10,qe a.2.2.2.1),(11,qe a.2.2.2.2.1),(12,.d (G (w64 (a.2.1 - a.1))))],[(0,.dat 3 (f.2.map Q4))],1⟩) (by simp) ?_ ?_
 ·refine qm J m (fun _ m=>?_) (fun _ m=>?_)
  ·refine qb<|U J<|U J<|U J<|U J ?_
   obtain ⟨aj,bp,m⟩:=q7 m
   obtain ⟨cx,bq,m⟩:=q7 m
   have br:=K7 bq
   refine Qw [(0,0)] [(0,0)] [.hs 0 3 0 a.2.2.2.2.2.length,q6 a.1,q6 a.2.1,.d (.fn q1F q1C)] (.d (.tup [])) 1 [(0,.dat 3 (aj.map Q4))] 1 (qux j q1F q1C q1Ok a.2.2.2.2.2 a.1 a.2.1 aj bp)<|q8<|qw<|U J<|O (.d (G (w64 (a.2.2.1 - 1)))) J<|q9 J<|qs ?_
   obtain rfl:=qd m
   exact ⟨_,J,wkE [] [] [] J ⟨⟨_,J,Qp (by simp [br]) J (by decide) (ltd J)⟩,⟨_,J,.d (.refl _)⟩,⟨_,J,.d (.refl _)⟩,⟨_,J,.d (.refl _)⟩,⟨_,J,.d (.refl _)⟩,⟨_,J,.d (.refl _)⟩,⟨_,J,.d (.refl _)⟩,⟨_,J,.d (.refl _)⟩,trivial⟩ ⟨⟨ltd J,.inr ⟨by decide,_,J,.dat _ _⟩⟩,trivial⟩⟩
  refine qn<|Qa ?_
  obtain rfl:=qd m
  exact ⟨_,J,wkA [] [] []⟩
 intro f hb
 subst hb
 refine qb<|U J<|U J<|U J<|U J ?_
 obtain ⟨w,bs,b⟩:=q7 b
 refine q7d [.hs 0 3 0 f.2.length,q6 a.1,q6 a.2.1,.d (.fn q1F q1C)] (quz f.2 a.1 a.2.1 j q1F q1C q1Ok w bs) J J (J5 (J2 J J) (J5 J (J5 J (J5 J J)))) (.inr J)<|U J<|O (q6 w.1) J<|O (q6 w.2) J<|q9 J<|q9 J<|q8<|qf<|qb<|U J<|O (qe (w.2 == 2)) J<|q8 ?_
 obtain ⟨bt,n,b⟩:=q7 b
 refine Y3 (fun g=>g = bt) (fun (g : Int × Int × List qh)=>⟨[(0,.hs 0 3 0 g.2.2.length),(1,q6 a.1),(2,q6 a.2.1),(3,q6 f.1),(4,.d (.fn q1F q1C)),(10,qe a.2.2.2.1),(11,qe a.2.2.2.2.1),(12,.d (G (w64 (a.2.1 - a.1)))),(13,q6 g.1),(14,q6 g.2.1)],[(0,.dat 3 (g.2.2.map Q4))],1⟩) (by simp) ?_ ?_
 ·refine qm J n (fun _ n=>?_) (fun _ n=>?_)
  ·refine qb<|U J<|U J<|U J<|U J ?_
   obtain ⟨ak,bu,n⟩:=q7 n
   obtain ⟨cy,bv,n⟩:=q7 n
   have bw:=K7 bv
   refine Qw [(0,0)] [(0,0)] [.hs 0 3 0 f.2.length,q6 a.1,q6 a.2.1,.d (.fn q1F q1C)] (.d (.tup [])) 1 [(0,.dat 3 (ak.map Q4))] 1 (qvf j q1F q1C q1Ok f.2 a.1 a.2.1 ak bu)<|qp<|U J<|O (.d (G (w64 (a.2.1 - 1)))) J<|U J<|U J<|O (.d (G (w64 (w.1 - a.1)))) J<|O (.d (G (w64 ((w64 (a.2.1 - 1)) - (w64 (w.1 - a.1)))))) J<|q9 J<|q8<|qw<|q9 J<|qs ?_
   obtain rfl:=qd n
   exact ⟨_,J,wkE [] [] [] J ⟨⟨_,J,Qp (by simp [bw]) J (by decide) (ltd J)⟩,⟨_,J,.d (.refl _)⟩,⟨_,J,.d (.refl _)⟩,⟨_,J,.d (.refl _)⟩,⟨_,J,.d (.refl _)⟩,⟨_,J,.d (.refl _)⟩,⟨_,J,.d (.refl _)⟩,⟨_,J,.d (.refl _)⟩,⟨_,J,.d (.refl _)⟩,⟨_,J,.d (.refl _)⟩,trivial⟩ ⟨⟨ltd J,.inr ⟨by decide,_,J,.dat _ _⟩⟩,trivial⟩⟩
  refine qn<|Qa ?_
  obtain rfl:=qd n
  exact ⟨_,J,wkA [] [] []⟩
 intro g hb
 subst hb
 refine qf<|qb<|U J ?_
 obtain ⟨bz,x,b⟩:=q7 b
 refine Q3 3 (fun A st=>∃ (al am : V),st = A [(71,qe bz),(70,am),(69,al)]) ?_ ?_
 ·refine Q2 J J x (fun x=>?_) (fun x=>?_)
  ·refine U J<|O (qe a.2.2.2.2.1) J<|q8 ?_
   obtain rfl:=qd x
   exact ⟨_,_,J⟩
  refine qa J<|O (qe false) J<|q8 ?_
  obtain rfl:=qd x
  exact ⟨_,_,J⟩
 rintro _ ⟨al,am,rfl⟩
 obtain ⟨ca,y,b⟩:=q7 b
 refine Q3 4 (fun A st=>∃ (an ao ap : V),st = A [(75,qe ca),(74,ap),(73,ao),(72,an)]) ?_ ?_
 ·refine Q2 J J y (fun y=>?_) (fun y=>?_)
  ·refine U J<|O (qe (g.2.1 == 1)) J<|O (qe (g.2.1 == 1)) J<|q8 ?_
   obtain rfl:=qd y
   exact ⟨_,_,_,J⟩
  refine qa J<|qa J<|O (qe false) J<|q8 ?_
  obtain rfl:=qd y
  exact ⟨_,_,_,J⟩
 rintro _ ⟨an,ao,ap,rfl⟩
 refine q8 ?_
 obtain ⟨cb,h,b⟩:=q7 b
 refine Y3 (fun k=>.inl k = cb) (fun (k : List qh)=>⟨[(0,.hs 0 3 0 k.length),(1,q6 a.1),(2,q6 a.2.1),(3,q6 f.1),(4,.d (.fn q1F q1C)),(10,qe a.2.2.2.1),(11,qe a.2.2.2.2.1),(12,.d (G (w64 (a.2.1 - a.1)))),(13,q6 g.1)],[(0,.dat 3 (k.map Q4))],1⟩) (by simp) ?_ ?_
 ·refine qm J h (fun _ h=>?_) (fun _ h=>?_)
  ·refine qb<|U J<|U J<|U J<|U J ?_
   obtain ⟨ad,cc,h⟩:=q7 h
   obtain ⟨cz,cd,h⟩:=q7 h
   have ce:=K7 cd
   refine Qw [(0,0)] [(0,0)] [.hs 0 3 0 g.2.2.length,q6 a.1,q6 a.2.1,.d (.fn q1F q1C)] (qe ad.1) 1 [(0,.dat 3 (ad.2.map Q4))] 1 (qv5 j q1F q1C q1Ok g.2.2 a.1 a.2.1 ad cc)<|q8 ?_
   refine qm J h (fun _ h=>?_) (fun _ h=>?_)
   ·refine q39 ?_
    obtain rfl:=qd h
    refine ⟨_,(Option.some.inj b).symm,fun hm=>?_⟩
    subst hm
    obtain rfl:=qd v
    exact ⟨.inr J,_,J,wkA [] [] []⟩
   refine qn<|Qa ?_
   obtain rfl:=qd h
   exact ⟨_,J,wkE [] [] [] J ⟨⟨_,J,Qp (by simp [ce]) J (by decide) (ltd J)⟩,⟨_,J,.d (.refl _)⟩,⟨_,J,.d (.refl _)⟩,⟨_,J,.d (.refl _)⟩,⟨_,J,.d (.refl _)⟩,⟨_,J,.d (.refl _)⟩,⟨_,J,.d (.refl _)⟩,⟨_,J,.d (.refl _)⟩,⟨_,J,.d (.refl _)⟩,trivial⟩ ⟨⟨ltd J,.inr ⟨by decide,_,J,.dat _ _⟩⟩,trivial⟩⟩
  refine qn<|Qa ?_
  obtain rfl:=qd h
  exact ⟨_,J,wkA [] [] []⟩
 intro k hb
 subst hb
 refine qf<|qf<|Q5 [q0,q0,q0,q0,qo 0,q0,q0,q0,qo 0,q0,q0,q0,q0,q0,q0,q0,q0] (by kernel_rfl)<|U J<|O (.d (.bool (decide (a.1 > 0)))) J ?_
 obtain ⟨cf,l,b⟩:=q7 b
 refine Q3 15 (fun A st=>∃ (aq ar au av aw ax ay az ba bb bc bd be bf : V),st = A [(97,qe cf),(96,bf),(95,be),(94,bd),(93,bc),(92,bb),(91,ba),(90,az),(89,ay),(88,ax),(87,aw),(86,av),(85,au),(84,ar),(83,aq)]) ?_ ?_
 ·refine Q2 J J l (fun l=>?_) (fun l=>?_)
  ·refine U J<|U J<|U J<|O (.d (G (w64 (a.1 - 1)))) J ?_
   obtain ⟨p,bg,l⟩:=q7 l
   refine qq bg J J<|Q0 (.d (.agg [G p.at_,G p.list_,G p.by_])) bg J<|U J<|U J ?_
   obtain ⟨q,bh,l⟩:=q7 l
   refine qq bh J J<|Q0 (.d (.agg [G q.at_,G q.list_,G q.by_])) bh J ?_
   obtain ⟨ab,cg,l⟩:=q7 l
   refine Ye [.d (.agg [G p.at_,G p.list_,G p.by_]),.d (.agg [G q.at_,G q.list_,G q.by_])] (q1Ok p q ab cg) J J J (.inl J)<|O (.d (.bool (decide (ab < 0)))) J<|O (.d (.bool (!(decide (ab < 0))))) J<|O (.d (.bool (!(decide (ab < 0))))) J<|q8 ?_
   obtain rfl:=qd l
   exact ⟨_,_,_,_,_,_,_,_,_,_,_,_,_,_,J⟩
  refine qa J<|qa J<|qa J<|qa J<|qa J<|qa J<|qa J<|qa J<|qa J<|qa J<|qa J<|qa J<|qa J<|O (qe false) J<|q8 ?_
  obtain rfl:=qd l
  exact ⟨_,_,_,_,_,_,_,_,_,_,_,_,_,_,J⟩
 rintro _ ⟨aq,ar,au,av,aw,ax,ay,az,ba,bb,bc,bd,be,bf,rfl⟩
 refine q8 ?_
 refine qm J b (fun _ b=>?_) (fun _ b=>?_)
 ·refine qb<|U J<|U J<|U J<|U J<|U J ?_
  obtain ⟨ae,ch,b⟩:=q7 b
  obtain ⟨da,ci,b⟩:=q7 b
  have cj:=K7 ci
  refine Qw [(0,0)] [(0,0)] [.hs 0 3 0 k.length,q6 a.1,q6 a.2.1,q6 g.1,.d (.fn q1F q1C)] (q6 ae.1) 1 [(0,.dat 3 (ae.2.map Q4))] 1 (qv8 j q1F q1C q1Ok k a.1 a.2.1 g.1 ae ch)<|q9 J<|qp<|U J<|q9 J<|q8<|Q6<|q2b<|Qa ?_
  exact ⟨_,(Option.some.inj b).symm,wkE [] [] [] J ⟨⟨_,J,Qp (by simp [cj]) J (by decide) (ltd J)⟩,⟨_,J,.d (.refl _)⟩,⟨_,J,.d (.refl _)⟩,⟨_,J,.d (.refl _)⟩,⟨_,J,.d (.refl _)⟩,⟨_,J,.d (.refl _)⟩,⟨_,J,.d (.refl _)⟩,trivial⟩ ⟨⟨ltd J,.inr ⟨by decide,_,J,.dat _ _⟩⟩,trivial⟩⟩
 refine qn<|qb<|U J<|U J<|U J<|U J<|U J ?_
 obtain ⟨c,ck,b⟩:=q7 b
 obtain ⟨dc,cl,b⟩:=q7 b
 have ac:=K7 cl
 refine Qw [(0,0)] [(0,0)] [.hs 0 3 0 k.length,q6 a.1,q6 a.2.1,q6 g.1,.d (.fn q1F q1C)] (.d (.tup [G c.1,.bool c.2.1])) 1 [(0,.dat 3 (c.2.2.map Q4))] 1 (qv7 j q1F q1C q1Ok k a.1 a.2.1 g.1 c ck)<|U J<|O (q6 c.1) J<|O (qe c.2.1) J<|q9 J<|q9 J<|qp<|U J<|q9 J<|qp<|U J<|U J<|O (.d (G (w64 (c.1 - a.1)))) J<|U J<|U J<|O (.d (G (w64 (a.2.1 - c.1)))) J<|q9 J<|q9 J<|qp<|U J<|O (.d (G (w64 (Int.tdiv (w64 (a.2.1 - a.1)) 8)))) J<|q9 J<|qp<|U J<|U J<|O (.d (.bool (decide ((w64 (c.1 - a.1)) < (w64 (a.2.1 - c.1)))))) J<|q8 ?_
 refine qm J b (fun _ b=>?_) (fun _ b=>?_)
 ·refine qb<|U J<|U J<|O (.d (.bool (decide ((w64 (c.1 - a.1)) ≥ (w64 (Int.tdiv (w64 (a.2.1 - a.1)) 8)))))) J<|q9 J<|qp<|U J<|U J<|U J<|U J<|U J ?_
  obtain ⟨af,cm,b⟩:=q7 b
  obtain ⟨dd,cn,b⟩:=q7 b
  have co:=K7 cn
  refine U3 [(0,0)] [(0,0)] [.hs 0 3 0 k.length,q6 a.1,q6 c.1,q6 f.1,.d (.fn q1F q1C)] (.d (.tup [])) [(0,.dat 3 (af.map Q4))] [(0,.dat 3 (af.map Q4))] 1 (hrec c.2.2 a.1 c.1 f.1 af cm) J J J (Y7 [(0,0)] [] [] J ⟨⟨_,J,Qp (by simp [ac]) J (by decide) (ltd J)⟩,⟨_,J,.d (.refl _)⟩,⟨_,J,.d (.refl _)⟩,⟨_,J,.d (.refl _)⟩,⟨_,J,.d (.refl _)⟩,trivial⟩ ⟨⟨ltd J,.inr ⟨by decide,_,J,.dat _ _⟩⟩,trivial⟩) (Y7 [(0,0)] [] [] J ⟨⟨_,J,.d (.refl _)⟩,trivial⟩ ⟨⟨ltd J,.inr ⟨by decide,_,J,.dat _ _⟩⟩,trivial⟩) J ⟨.inl J,trivial⟩<|q8<|qw<|U J<|O (.d (G (w64 (c.1 + 1)))) J<|q9 J<|qs<|Qc<|Qa ?_
  exact ⟨_,(Option.some.inj b).symm,wkE [] [] [] J ⟨⟨_,J,Qp (by simp [ac,co]) J (by decide) (ltd J)⟩,⟨_,J,.d (.refl _)⟩,⟨_,J,.d (.refl _)⟩,⟨_,J,.d (.refl _)⟩,⟨_,J,.d (.refl _)⟩,⟨_,J,.d (.refl _)⟩,⟨_,J,.d (.refl _)⟩,trivial⟩ ⟨⟨ltd J,.inr ⟨by decide,_,J,.dat _ _⟩⟩,trivial⟩⟩
 refine qb<|U J<|U J<|O (.d (.bool (decide ((w64 (a.2.1 - c.1)) ≥ (w64 (Int.tdiv (w64 (a.2.1 - a.1)) 8)))))) J<|q9 J<|qp<|U J<|U J<|O (.d (G (w64 (c.1 + 1)))) J<|U J<|U J<|U J ?_
 obtain ⟨ag,cp,b⟩:=q7 b
 obtain ⟨de,cq,b⟩:=q7 b
 have cr:=K7 cq
 refine U3 [(0,0)] [(0,0)] [.hs 0 3 0 k.length,.d (G (w64 (c.1 + 1))),q6 a.2.1,q6 f.1,.d (.fn q1F q1C)] (.d (.tup [])) [(0,.dat 3 (ag.map Q4))] [(0,.dat 3 (ag.map Q4))] 1 (hrec c.2.2 (w64 (c.1 + 1)) a.2.1 f.1 ag cp) J J J (Y7 [(0,0)] [] [] J ⟨⟨_,J,Qp (by simp [ac]) J (by decide) (ltd J)⟩,⟨_,J,.d (.refl _)⟩,⟨_,J,.d (.refl _)⟩,⟨_,J,.d (.refl _)⟩,⟨_,J,.d (.refl _)⟩,trivial⟩ ⟨⟨ltd J,.inr ⟨by decide,_,J,.dat _ _⟩⟩,trivial⟩) (Y7 [(0,0)] [] [] J ⟨⟨_,J,.d (.refl _)⟩,trivial⟩ ⟨⟨ltd J,.inr ⟨by decide,_,J,.dat _ _⟩⟩,trivial⟩) J ⟨.inl J,trivial⟩<|q8<|qw<|U J<|q9 J<|qs<|Qc<|Qa ?_
 exact ⟨_,(Option.some.inj b).symm,wkE [] [] [] J ⟨⟨_,J,Qp (by simp [ac,cr]) J (by decide) (ltd J)⟩,⟨_,J,.d (.refl _)⟩,⟨_,J,.d (.refl _)⟩,⟨_,J,.d (.refl _)⟩,⟨_,J,.d (.refl _)⟩,⟨_,J,.d (.refl _)⟩,⟨_,J,.d (.refl _)⟩,trivial⟩ ⟨⟨ltd J,.inr ⟨by decide,_,J,.dat _ _⟩⟩,trivial⟩⟩
theorem qvc (n : Nat) (g : qh→qh→Option Int) (q1F : FuncId) (q1C : List DV) (q1Ok : ∀ (h : qh) (j : qh) (r : Int),g h j = some r→Pure Tryz.prog tab q1F ([.agg [G h.at_,G h.list_,G h.by_],.agg [G j.at_,G j.list_,G j.by_]] ++ q1C) (G r)) : ∀ (a : List qh) (b : Int) (c : Int) (f : Int) (r : List qh),q65 n g a b c f = some r→Qt Tryz.prog tab 168 [.hs 0 3 0 a.length,q6 b,q6 c,q6 f,.d (.fn q1F q1C)] [(0,.dat 3 (a.map Q4))] 1 (.d (.tup [])) [(0,.dat 3 (r.map Q4))] 1:=by
 induction n with
 | zero=>intro a b c f r k;cases k
 | succ n ih=>intro a b c f r k;exact qvb (q65 n g) g q1F q1C q1Ok ih a b c f r k
theorem quv (g : qh→qh→Option Int) (q1F : FuncId) (q1C : List DV) (q1Ok : ∀ (c : qh) (f : qh) (r : Int),g c f = some r→Pure Tryz.prog tab q1F ([.agg [G c.at_,G c.list_,G c.by_],.agg [G f.at_,G f.list_,G f.by_]] ++ q1C) (G r)) (a : List qh) (r : List qh) (b : q5g g a = some r) : Qt Tryz.prog tab 164 [.hs 0 3 0 a.length,.d (.fn q1F q1C)] [(0,.dat 3 (a.map Q4))] 1 (.d (.tup [])) [(0,.dat 3 (r.map Q4))] 1:=by
 unfold q5g at b
 refine K3 Tryz.func164 J (by kernel_rfl) (by kernel_rfl) J<|qb<|U J<|O (q6 (a.length : Int)) J<|q9 J<|q8<|qw<|U J<|U J<|U J<|O (.d (.int .u64 (IntKind.wrap .u64 (a.length : Int)))) J ?_
 obtain ⟨h,l,b⟩:=q7 b
 refine qt (qd4 (IntKind.wrap .u64 (a.length : Int)) h l) J<|U J ?_
 obtain ⟨k,j,b⟩:=q7 b
 obtain ⟨o,m,b⟩:=q7 b
 have p:=K7 m
 obtain ⟨n,j⟩:=qd0 j
 refine Qw [(0,0)] [(0,0)] [.hs 0 3 0 a.length,q6 0,q6 (a.length : Int),q6 h,.d (.fn q1F q1C)] (.d (.tup [])) 1 [(0,.dat 3 (k.map Q4))] 1 (qvc n g q1F q1C q1Ok a 0 (a.length : Int) h k j)<|qs ?_
 obtain rfl:=qd b
 exact ⟨.inl J,_,J,wkA [] [] []⟩
theorem quw (a : List qh) (r : List qh) (b : qb6  a = some r) : Qt Tryz.prog tab 166 [.hs 0 3 0 a.length] [(0,.dat 3 (a.map Q4))] 1 (.fn 169 [.ref 1 1 0 0]) [(0,.dat 3 (r.map Q4)),(1,.cel 1 [[.hs 0 3 0 r.length]])] 2:=by
 unfold qb6 at b
 refine K3 Tryz.func166 J (by kernel_rfl) (by kernel_rfl) J<|qb<|Qg (.ref 1 1 0 0) (.cel 1 [[.hs 0 3 0 a.length]]) J<|q9 J<|qp<|O (.fn 169 [.ref 1 1 0 0]) J<|q9 J<|qr ?_
 obtain rfl:=qd b
 exact ⟨.inr J,_,J,wkA [(1,1)] [] []⟩
theorem qy1 (b : List (List qk)) (r : List (List qk) × List qh) (f : q95  b = some r) : Qt Tryz.prog tab 156 [.hs 0 1 0 b.length] [(0,.dat 1 (b.map Jp))] 1 (.fn 169 [.ref 1 1 0 0]) [(0,.dat 1 (r.1.map Jp)),(1,.cel 1 [[.hs 2 3 0 r.2.length]]),(2,.dat 3 (r.2.map Q4))] 3:=by
 unfold q95 at f
 refine K3 Tryz.func156 J (by kernel_rfl) (by kernel_rfl) J<|qb<|q9 J<|qp<|q9 J<|q8<|qf<|qb<|U J<|O (q6 (b.length : Int)) J<|U J<|q8 ?_
 obtain ⟨t,v,f⟩:=q7 f
 refine Qh (fun h=>h = t) (fun (h : List qh)=>⟨[(3,.hs 1 3 0 h.length)],[(0,.dat 1 (b.map Jp)),(1,.dat 3 (h.map Q4))],2⟩) (by simp) ?_ ?_
 ·refine Q7 (Ua b) (fun (a : Int × List qh)=>⟨[(3,.hs 1 3 0 a.2.length),(8,.hs 0 1 0 b.length),(9,q6 (b.length : Int)),(10,q6 a.1)],[(0,.dat 1 (b.map Jp)),(1,.dat 3 (a.2.map Q4))],2⟩) (0,[]) t v (wkA [] [] [1]) ?_
  intro a ag j
  unfold Ua at j
  refine qb<|O (.d (.bool (decide (a.1 < (b.length : Int))))) J<|q8<|qf ?_
  refine qm J j (fun _ j=>?_) (fun _ j=>?_)
  ·refine qn<|qf ?_
   obtain ⟨w,l,j⟩:=q7 j
   refine Qh (fun m=>m = w) (fun (m : List qh)=>⟨[(3,.hs 1 3 0 m.length),(8,.hs 0 1 0 b.length),(9,q6 (b.length : Int)),(10,q6 a.1)],[(0,.dat 1 (b.map Jp)),(1,.dat 3 (m.map Q4))],2⟩) (by simp) ?_ ?_
   ·refine qb<|U J ?_
    obtain ⟨n,u,l⟩:=q7 l
    refine qq u J J<|Q0 (.d (.sl 2 (n.map Qe))) u J<|q9 J<|q9 J<|qp<|U J<|Qn J<|U J<|q8 ?_
    obtain ⟨x,y,l⟩:=q7 l
    refine Q1<|Q7 (q3x n a) (fun (k : Int × List qh)=>⟨[(3,.hs 1 3 0 k.2.length),(4,q6 a.1),(8,.hs 0 1 0 b.length),(9,q6 (b.length : Int)),(10,q6 a.1),(15,.d (.sl 2 (n.map Qe))),(16,q6 (n.length : Int)),(17,q6 k.1)],[(0,.dat 1 (b.map Jp)),(1,.dat 3 (k.2.map Q4))],2⟩) (0,a.2) x y (wkA [(1,1)] [] []) ?_
    intro k ah g
    unfold q3x at g
    refine qb<|O (.d (.bool (decide (k.1 < (n.length : Int))))) J<|q8<|qf ?_
    refine qm J g (fun _ g=>?_) (fun _ g=>?_)
    ·refine qn<|qf<|Q1<|qb ?_
     obtain ⟨c,z,g⟩:=q7 g
     refine Q9 (enc:=Qe) z J<|O (.d (.agg [G c.Lo,G c.Hi])) J<|Qo J J<|Q8 2 (.dat 2 [[G c.Lo,G c.Hi]]) J<|q8<|qw<|U J<|O (.ref 2 2 0 0) J<|O (q6 c.Lo) J<|U J<|O (.d (.agg [G c.Lo,G a.1,G 1])) J<|O (.ref 2 2 0 1) J<|O (q6 c.Hi) J<|U J<|O (.d (.agg [G c.Hi,G a.1,G (-1)])) J<|Qg (.hs 3 3 0 [({at_:=c.Lo,list_:=a.1,by_:=1} : qh),({at_:=c.Hi,list_:=a.1,by_:=(-1)} : qh)].length) (.dat 3 ([({at_:=c.Lo,list_:=a.1,by_:=1} : qh),({at_:=c.Hi,list_:=a.1,by_:=(-1)} : qh)].map Q4)) J ?_
     obtain ⟨ai,aa,g⟩:=q7 g
     refine Kx (xs:=k.2) (ys:=[({at_:=c.Lo,list_:=a.1,by_:=1} : qh),({at_:=c.Hi,list_:=a.1,by_:=(-1)} : qh)]) (enc:=Q4) (.hs 3 3 0 [({at_:=c.Lo,list_:=a.1,by_:=1} : qh),({at_:=c.Hi,list_:=a.1,by_:=(-1)} : qh)].length) aa J J J J J J J (Kv J J) J J J J<|q9 J<|qs<|Qc<|qw<|O (.d (G (w64 (k.1 + 1)))) J<|U J<|qs ?_
     exact ⟨_,(Option.some.inj g).symm,wkA [(1,4)] [] []⟩
    refine Q6 ?_
    refine ⟨_,(Option.some.inj g).symm,fun hm=>?_⟩
    subst hm
    obtain rfl:=qd l
    exact ⟨_,J,wkA [(1,1)] [] []⟩
   intro m hb
   subst hb
   refine qw<|O (.d (G (w64 (a.1 + 1)))) J<|U J<|qs ?_
   exact ⟨_,(Option.some.inj j).symm,wkA [(1,1)] [] []⟩
  refine Q6 ?_
  refine ⟨_,(Option.some.inj j).symm,fun hm=>?_⟩
  subst hm
  exact ⟨_,J,wkA [(1,1)] [] []⟩
 intro h hb
 subst hb
 refine qb<|U J ?_
 obtain ⟨p,ab,f⟩:=q7 f
 obtain ⟨aj,ac,f⟩:=q7 f
 have ad:=K7 ac
 refine Qw [(0,1)] [(0,1),(1,0)] [.hs 1 3 0 h.length,.d (.fn 165 [])] (.d (.tup [])) 1 [(1,.dat 3 (p.map Q4)),(0,.dat 1 (b.map Jp))] 2 (quv (fun q s=>q94 q s) 165 [] (fun q s r hr=>qy0 q s r hr) h p ab)<|qp<|U J ?_
 obtain ⟨o,ae,f⟩:=q7 f
 obtain ⟨ak,af,f⟩:=q7 f
 have al:=K7 af
 refine U3 [(0,1)] [(0,2),(1,0),(2,1)] [.hs 1 3 0 h.length] (.fn 169 [.ref 2 1 0 0]) [(1,.dat 3 (o.map Q4)),(2,.cel 1 [[.hs 1 3 0 o.length]])] [(1,.dat 3 (o.map Q4)),(2,.cel 1 [[.hs 1 3 0 o.length]]),(0,.dat 1 (b.map Jp))] 3 (quw p o ae) J J J (Y7 [(0,1)] [] [] J ⟨⟨_,J,Qp (by simp [ad]) J (by decide) (ltd J)⟩,trivial⟩ ⟨⟨ltd J,.inr ⟨by decide,_,J,.dat _ _⟩⟩,trivial⟩) (Y7 [(0,2),(1,0),(2,1)] [] [] J ⟨⟨_,J,(q41 (.cons (.ref J (by decide) (ltd J)) .nil))⟩,trivial⟩ ⟨⟨ltd J,.inr ⟨by decide,_,J,.dat _ _⟩⟩,⟨ltd J,.inr ⟨by decide,_,J,Uc (.cons (.hs J (by decide) (ltd J)) J .nil)⟩⟩,trivial⟩) J ⟨.inl J,.inl J,.inr ⟨J,J⟩,trivial⟩<|q9 J<|qr ?_
 obtain rfl:=qd f
 exact ⟨.inr J,_,J,wkA [(1,2),(2,1)] [] []⟩
theorem qy2 (f : Int) (j : Bool) (b : Int) (c : List qk) (r : Bool × Int × List qk) (a : q96  f j b c = some r) : Qt Tryz.prog tab 155 [q6 f,.ref 0 1 0 0,.ref 1 1 0 0,.ref 2 1 0 0] [(0,.dat 1 [[.bool j]]),(1,.dat 1 [[G b]]),(2,.cel 1 [[.hs 3 2 0 c.length]]),(3,.dat 2 (c.map Qe))] 4 (.d (.tup [])) [(0,.dat 1 [[.bool r.1]]),(1,.dat 1 [[G r.2.1]]),(2,.cel 1 [[.hs 4 2 0 r.2.2.length]]),(4,.dat 2 (r.2.2.map Qe))] 5:=by
 unfold q96 at a
 refine K3 Tryz.func155 J (by kernel_rfl) (by kernel_rfl) J<|qf<|qb<|O (qe j) J<|O (qe (!j)) J ?_
 obtain ⟨ab,h,a⟩:=q7 a
 refine Q3 5 (fun A st=>∃ (l m n o : V),st = A [(12,qe ab),(11,o),(10,n),(9,m),(8,l)]) ?_ ?_
 ·refine Q2 J J h (fun h=>?_) (fun h=>?_)
  ·refine qa J<|qa J<|qa J<|O (qe true) J<|q8 ?_
   obtain rfl:=qd h
   exact ⟨_,_,_,_,J⟩
  refine O (q6 b) J<|U J<|O (qe (b == f)) J<|O (qe (b == f)) J<|q8 ?_
  obtain rfl:=qd h
  exact ⟨_,_,_,_,J⟩
 rintro _ ⟨l,m,n,o,rfl⟩
 refine q8 ?_
 refine qm J a (fun _ a=>?_) (fun _ a=>?_)
 ·refine q39 ?_
  obtain rfl:=qd a
  exact ⟨.inr J,_,J,wkA [(4,3)] [] []⟩
 refine qn<|qb<|O (.hs 3 2 0 c.length) J<|O (q6 (c.length : Int)) J<|q9 J<|q8<|qf<|Q5 [q0,q0,qo 1,qo 3,q0,q0,q0,q0,qo 2,q0,q0,q0] (by kernel_rfl)<|U J<|O (.d (.bool (decide ((c.length : Int) > 0)))) J ?_
 obtain ⟨ac,g,a⟩:=q7 a
 refine Q3 10 (fun A st=>∃ (p q s t u v w x y : V),st = A [(26,qe ac),(25,y),(24,x),(23,w),(22,v),(21,u),(20,t),(19,s),(18,q),(17,p)]) ?_ ?_
 ·refine Q2 J J g (fun g=>?_) (fun g=>?_)
  ·refine O (.hs 3 2 0 c.length) J<|U J<|O (.d (G (w64 ((c.length : Int) - 1)))) J ?_
   obtain ⟨k,z,g⟩:=q7 g
   refine qq z J J<|O (.ref 3 2 (w64 ((c.length : Int) - 1)).toNat 1) J<|Q0 (q6 k.Hi) z J<|O (q6 b) J<|O (qe (k.Hi == b)) J<|O (qe (k.Hi == b)) J<|q8 ?_
   obtain rfl:=qd g
   exact ⟨_,_,_,_,_,_,_,_,_,J⟩
  refine qa J<|qa J<|qa J<|qa J<|qa J<|qa J<|qa J<|qa J<|O (qe false) J<|q8 ?_
  obtain rfl:=qd g
  exact ⟨_,_,_,_,_,_,_,_,_,J⟩
 rintro _ ⟨p,q,s,t,u,v,w,x,y,rfl⟩
 refine q8 ?_
 refine qm J a (fun _ a=>?_) (fun _ a=>?_)
 ·refine qw<|O (.hs 3 2 0 c.length) J<|U J<|O (.d (G (w64 ((c.length : Int) - 1)))) J<|U J ?_
  obtain ⟨ad,aa,a⟩:=q7 a
  refine qq aa J J<|O (.ref 3 2 (w64 ((c.length : Int) - 1)).toNat 1) J<|Qk (ds:=[G f]) ({Lo:=ad.Lo,Hi:=f} : qk) aa J J J J J J J J (leb J) J<|qs ?_
  obtain rfl:=qd a
  exact ⟨.inl J,_,J,wkE [(4,3)] [] [] J ⟨⟨_,J,.d (.refl _)⟩,trivial⟩ ⟨⟨ltd J,.inr ⟨by decide,_,J,.dat _ _⟩⟩,⟨ltd J,.inr ⟨by decide,_,J,.dat _ _⟩⟩,⟨ltd J,.inr ⟨by decide,_,J,Uc (.cons (Qp (by simp) J (by decide) (ltd J)) J .nil)⟩⟩,⟨ltd J,.inr ⟨by decide,_,J,.dat _ _⟩⟩,trivial⟩⟩
 refine qw<|O (.hs 3 2 0 c.length) J<|O (q6 b) J<|U J<|O (.d (.agg [G b,G f])) J<|Qg (.hs 4 2 0 [({Lo:=b,Hi:=f} : qk)].length) (.dat 2 ([({Lo:=b,Hi:=f} : qk)].map Qe)) J ?_
 obtain ⟨ae,af,a⟩:=q7 a
 refine Kx (xs:=c) (ys:=[({Lo:=b,Hi:=f} : qk)]) (enc:=Qe) (.hs 4 2 0 [({Lo:=b,Hi:=f} : qk)].length) af J J J J J J J (Kv J J) J J J J<|Q8 2 (.cel 1 [[.hs 5 2 0 ae.length]]) J<|qs ?_
 obtain rfl:=qd a
 exact ⟨.inl J,_,J,wkA [(4,5)] [] []⟩
theorem qy3 (l : List qk) (m : List qk) (q : Bool→Bool→Option Bool) (p2F : FuncId) (p2C : List DV) (p2Ok : ∀ (u : Bool) (w : Bool) (r : Bool),q u w = some r→Pure Tryz.prog tab p2F ([.bool u,.bool w] ++ p2C) (.bool r)) (r : List qk) (h : q6m l m q = some r) : Pure Tryz.prog tab 138 [.sl 2 (l.map Qe),.sl 2 (m.map Qe),.fn p2F p2C] (.sl 2 (r.map Qe)):=by
 unfold q6m at h
 refine Qb Tryz.func138 J (by kernel_rfl) (by kernel_rfl) J<|qb<|Qg (.ref 0 1 0 0) (.dat 1 [[.fn p2F p2C]]) J<|q9 J<|qp<|Qo J J<|qp<|Qo J J<|qp<|Qo J J<|Qo J J<|Q8 3 (.dat 1 [[G 0]]) J<|Q8 4 (.dat 1 [[.bool false]]) J<|qp<|O (.fn 155 [.ref 4 1 0 0,.ref 3 1 0 0,.ref 2 1 0 0]) J<|Qo J J<|Q8 5 (.cel 1 [[.fn 155 [.ref 4 1 0 0,.ref 3 1 0 0,.ref 2 1 0 0]]]) J<|q8<|qf<|qb<|U J<|U J<|Qg (.hs 6 1 0 [l,m].length) (.dat 1 ([l,m].map Jp)) J ?_
 obtain ⟨b,h2,h⟩:=q7 h
 obtain ⟨u3,h4,h⟩:=q7 h
 have h5:=K7 h4
 refine Qw [(0,6)] [(0,3),(1,3),(2,3),(3,3),(4,3),(5,3),(6,0),(7,1),(8,2)] [.hs 6 1 0 [l,m].length] (.fn 169 [.ref 7 1 0 0]) 3 [(6,.dat 1 (b.1.map Jp)),(7,.cel 1 [[.hs 8 3 0 b.2.length]]),(8,.dat 3 (b.2.map Q4)),(0,.dat 1 [[.fn p2F p2C]]),(1,.dat 2 [[0,0].flatMap (eI .i64)]),(2,.dat 1 [[.nilsl]]),(3,.dat 1 [[G 0]]),(4,.dat 1 [[.bool false]]),(5,.cel 1 [[.fn 155 [.ref 4 1 0 0,.ref 3 1 0 0,.ref 2 1 0 0]]])] 9 (qy1 [l,m] b h2)<|q8<|Q1 ?_
 obtain ⟨af,s,h⟩:=q7 h
 refine qdx (fun j=>j = af) (fun (j : List qk)=>⟨[(8,.ref 0 1 0 0)],[(0,.cel 1 [[.hs 1 2 0 j.length]]),(1,.dat 2 (j.map Qe))],2⟩) ?_ ?_
 ·refine Yr (st':=⟨[(5,.ref 0 1 0 0),(6,.d (.nilsl)),(7,.ref 1 2 0 0),(8,.ref 2 1 0 0),(9,.ref 3 1 0 0),(10,.ref 4 1 0 0),(11,.ref 5 1 0 0),(17,.fn 169 [.ref 6 1 0 0])],[(0,.dat 1 [[.fn p2F p2C]]),(1,.dat 2 [[0,0].flatMap (eI .i64)]),(2,.dat 1 [[.nilsl]]),(3,.dat 1 [[G 0]]),(4,.dat 1 [[.bool false]]),(5,.cel 1 [[.fn 155 [.ref 4 1 0 0,.ref 3 1 0 0,.ref 2 1 0 0]]]),(6,.cel 1 [[.hs 7 3 0 b.2.length]]),(7,.dat 3 (b.2.map Q4))],8⟩) (wkA [(0,0),(1,1),(2,2),(3,3),(4,4),(5,5),(6,7),(7,8)] [] []) ?_ (by simp)
  refine qdy [.ref 6 1 0 0] (.inl J) Tryz.func169 J (by kernel_rfl) (by kernel_rfl) J ?_
  intro A154 B155 hA154 hB155
  refine qb<|O (.hs 7 3 0 b.2.length) J<|O (q6 (b.2.length : Int)) J<|U J<|q8 ?_
  obtain ⟨ag,ah,s⟩:=q7 s
  refine Q1<|Q7 (q3y b q) (fun (c : Int × List Int × Int × Bool × List qk)=>⟨[(0,.yld 8),(5,.hs 7 3 0 b.2.length),(6,q6 (b.2.length : Int)),(7,q6 c.1)],[(0,.dat 1 [[.fn p2F p2C]]),(1,.dat 2 [c.2.1.flatMap (eI .i64)]),(2,.cel 1 [[.hs 9 2 0 c.2.2.2.2.length]]),(3,.dat 1 [[G c.2.2.1]]),(4,.dat 1 [[.bool c.2.2.2.1]]),(5,.cel 1 [[.fn 155 [.ref 4 1 0 0,.ref 3 1 0 0,.ref 2 1 0 0]]]),(6,.cel 1 [[.hs 7 3 0 b.2.length]]),(7,.dat 3 (b.2.map Q4)),(8,.loop [(5,.ref 0 1 0 0),(6,.d (.nilsl)),(7,.ref 1 2 0 0),(8,.ref 2 1 0 0),(9,.ref 3 1 0 0),(10,.ref 4 1 0 0),(11,.ref 5 1 0 0),(17,.fn 169 [.ref 6 1 0 0])] [18] A154 B155 .ready none),(9,.dat 2 (c.2.2.2.2.map Qe))],10⟩) (0,[0,0],0,false,[]) ag ah (wkA [] [] [9]) ?_
  intro c an g
  unfold q3y at g
  refine qb<|O (.d (.bool (decide (c.1 < (b.2.length : Int))))) J<|q8<|qf ?_
  refine qm J g (fun _ g=>?_) (fun _ g=>?_)
  ·refine qn<|qf<|Q1<|qb ?_
   obtain ⟨a,x,g⟩:=q7 g
   refine qq x J J<|Q0 (.d (.agg [G a.at_,G a.list_,G a.by_])) x J<|Qo J J<|Q8 10 (.dat 3 [[G a.at_,G a.list_,G a.by_]]) J<|qp<|U J<|O (.d (.agg [G a.at_,G a.list_,G a.by_])) J ?_
   obtain ⟨ai,f,g⟩:=q7 g
   refine qdk (fun k=>k = ai) (fun (k : List Int × Bool × List qk)=>⟨[(0,.yld 8),(5,.hs 7 3 0 b.2.length),(6,q6 (b.2.length : Int)),(7,q6 c.1),(13,qe true)],[(0,.dat 1 [[.fn p2F p2C]]),(1,.dat 2 [k.1.flatMap (eI .i64)]),(2,.cel 1 [[.hs 9 2 0 k.2.2.length]]),(3,.dat 1 [[G a.at_]]),(4,.dat 1 [[.bool k.2.1]]),(5,.cel 1 [[.fn 155 [.ref 4 1 0 0,.ref 3 1 0 0,.ref 2 1 0 0]]]),(6,.cel 1 [[.hs 7 3 0 b.2.length]]),(7,.dat 3 (b.2.map Q4)),(8,.loop [(5,.ref 0 1 0 0),(6,.d (.nilsl)),(7,.ref 1 2 0 0),(8,.ref 2 1 0 0),(9,.ref 3 1 0 0),(10,.ref 4 1 0 0),(11,.ref 5 1 0 0),(17,.fn 169 [.ref 6 1 0 0])] [18] A154 B155 .ready none),(9,.dat 2 (k.2.2.map Qe))],10⟩) hA154 hB155 J J J J J J ?_ ?_
   ·refine qw<|Qo J J<|Q8 11 (.dat 3 [[G a.at_,G a.list_,G a.by_]]) J<|qs ?_
    refine ⟨J,_,J,?_⟩
    refine Q1<|qb<|O (.fn 155 [.ref 4 1 0 0,.ref 3 1 0 0,.ref 2 1 0 0]) J<|O (.ref 11 3 0 0) J<|O (q6 a.at_) J ?_
    obtain ⟨n,aj,f⟩:=q7 f
    refine Qw [(0,4),(1,3),(2,2),(3,9)] [(0,5),(1,5),(2,2),(3,1),(4,0),(5,5),(6,5),(7,5),(8,5),(9,3),(10,5),(11,5),(12,4)] [q6 a.at_,.ref 4 1 0 0,.ref 3 1 0 0,.ref 2 1 0 0] (.d (.tup [])) 4 [(2,.cel 1 [[.hs 12 2 0 n.2.2.length]]),(3,.dat 1 [[G n.2.1]]),(4,.dat 1 [[.bool n.1]]),(12,.dat 2 (n.2.2.map Qe)),(0,.dat 1 [[.fn p2F p2C]]),(1,.dat 2 [c.2.1.flatMap (eI .i64)]),(5,.cel 1 [[.fn 155 [.ref 4 1 0 0,.ref 3 1 0 0,.ref 2 1 0 0]]]),(6,.cel 1 [[.hs 7 3 0 b.2.length]]),(7,.dat 3 (b.2.map Q4)),(8,.loop [(5,.ref 0 1 0 0),(6,.d (.nilsl)),(7,.ref 1 2 0 0),(8,.ref 2 1 0 0),(9,.ref 3 1 0 0),(10,.ref 4 1 0 0),(11,.ref 5 1 0 0),(17,.fn 169 [.ref 6 1 0 0])] [18] A154 B155 .busy none),(10,.dat 3 [[G a.at_,G a.list_,G a.by_]]),(11,.dat 3 [[G a.at_,G a.list_,G a.by_]])] 13 (qy2 a.at_ c.2.2.2.1 c.2.2.1 c.2.2.2.2 n aj)<|q8<|qf<|Q5 [Qd 1,q0,q0,qo 11,q0,qo 1,q0,qo 11,q0] (by kernel_rfl)<|O (.ref 11 3 0 1) J<|O (q6 a.list_) J ?_
    obtain ⟨t,y,f⟩:=q7 f
    refine q4w y J J J J J<|qag (enc:=(eI .i64)) (q6 t) y (fun _=>rfl) J J J J J J<|O (.ref 11 3 0 2) J<|O (q6 a.by_) J<|O (.d (G (w64 (t + a.by_)))) J ?_
    obtain ⟨ao,z,f⟩:=q7 f
    refine q4w z J J J J J<|qin (enc:=(eI .i64)) (w64 (t + a.by_)) z (fun _=>rfl) J J J J J J J J<|q8<|Q5 [Qd 4,Qd 3,q0,q0,qo 1,q0,q0,qo 1,q0,qo 0,qo 11,q0] (by kernel_rfl)<|O (.ref 11 3 0 0) J<|O (q6 a.at_) J<|O (.d (.fn p2F p2C)) J ?_
    obtain ⟨o,aa,f⟩:=q7 f
    refine q4w aa J J J J J<|qag (enc:=(eI .i64)) (q6 o) aa (fun _=>rfl) J J J J J J<|O (.d (.bool (decide (o > 0)))) J ?_
    obtain ⟨p,ab,f⟩:=q7 f
    refine q4w ab J J J J J<|qag (enc:=(eI .i64)) (q6 p) ab (fun _=>rfl) J J J J J J<|O (.d (.bool (decide (p > 0)))) J ?_
    obtain ⟨ac,ak,f⟩:=q7 f
    refine Ye [.d (.bool (decide (o > 0))),.d (.bool (decide (p > 0)))] (p2Ok (decide (o > 0)) (decide (p > 0)) ac ak) J J J (.inl J)<|Q8 3 (.dat 1 [[G a.at_]]) J<|Q8 4 (.dat 1 [[.bool ac]]) J<|qs<|Qc<|Qa ?_
    refine ⟨_,J,?_⟩
    obtain rfl:=qd f
    exact ⟨_,J,wkA [(9,12)] [] []⟩
   intro k hb
   subst hb
   refine O (qe false) J<|q8<|U7 J<|qn<|Qa<|Qc<|qw<|O (.d (G (w64 (c.1 + 1)))) J<|U J<|qs ?_
   exact ⟨_,(Option.some.inj g).symm,wkA [(9,9)] [] []⟩
  refine Q6 ?_
  refine ⟨_,(Option.some.inj g).symm,fun hm=>?_⟩
  subst hm
  refine ⟨.inl J,_,J,_,_,.nor,J,by decide,?_⟩
  refine qbr<|Qa ?_
  obtain rfl:=qd s
  exact ⟨_,J,wkA [(0,2),(1,9)] [] []⟩
 intro j st hb hw
 subst hb
 refine Yr hw ?_ (by simp)
 refine qb<|O (.hs 1 2 0 j.length) J<|q9 J<|qr ?_
 obtain rfl:=qd h
 exact finD (.inr J) (v:=.hs 1 2 0 j.length) J (J2 J J) (.refl _)
theorem qxy (a : Bool) (b : Bool) (r : Bool) (c : q93 a b = some r) : Pure Tryz.prog tab 143 [.bool a,.bool b] (.bool r):=by
 unfold q93 at c
 refine Qb Tryz.func143 J (by kernel_rfl) (by kernel_rfl) J<|qb<|q9 J<|qp<|U J<|q9 J<|qr ?_
 obtain rfl:=qd c
 exact qz (qe a) J
theorem qxz (c : List qk) (r : List qk × Int) (a : q6l c = some r) : Pure Tryz.prog tab 131 [.sl 2 (c.map Qe)] (.tup [.sl 2 (r.1.map Qe),G r.2]):=by
 unfold q6l at a
 refine Qb Tryz.func131 J (by kernel_rfl) (by kernel_rfl) J<|qb<|q9 J<|q9 J<|q8<|qf<|qb<|U J<|Qn J<|O (.d (.bool (decide ((c.length : Int) > 400)))) J<|q8 ?_
 refine qm J a (fun _ a=>?_) (fun _ a=>?_)
 ·refine qb<|q9 J<|q9 J<|qr ?_
  obtain rfl:=qd a
  exact finD (.inr J) (v:=.d (.tup [.nilsl,G 4])) J J (Zv (.cons (.nil _) (.cons (.refl _) .nil)))
 refine qn<|qf<|qb<|U J ?_
 obtain ⟨h,j,a⟩:=q7 a
 refine qt (qum c (fun b=>qba b) 141 [] (fun b r hr=>qxx b r hr) h j) J<|q8 ?_
 refine qm J a (fun _ a=>?_) (fun _ a=>?_)
 ·refine qb<|q9 J<|q9 J<|qr ?_
  obtain rfl:=qd a
  exact finD (.inr J) (v:=.d (.tup [.nilsl,G 8])) J J (Zv (.cons (.nil _) (.cons (.refl _) .nil)))
 refine qn<|qb<|U J ?_
 obtain ⟨g,k,a⟩:=q7 a
 refine qt (q7f (.cons (.refl _) (.cons (.nil _) (.cons (.refl _) .nil))) (qy3 c [] (fun b f=>q93 b f) 143 [] (fun b f r hr=>qxy b f r hr) g k)) J<|q9 J<|q9 J<|qr ?_
 obtain rfl:=qd a
 exact qz (.d (.tup [.sl 2 (g.map Qe),G 0])) J
theorem quq (c : List qk) (f : List qk) (r : Bool) (b : q86 c f = some r) : Pure Tryz.prog tab 136 [.sl 2 (c.map Qe),.sl 2 (f.map Qe)] (.bool r):=by
 unfold q86 at b
 refine Qb Tryz.func136 J (by kernel_rfl) (by kernel_rfl) J<|qb<|q9 J<|q8<|qf<|qb<|U J<|Qn J<|U J<|Qn J<|O (.d (.bool ((c.length : Int) != (f.length : Int)))) J<|q8 ?_
 refine qm J b (fun _ b=>?_) (fun _ b=>?_)
 ·refine qb<|q9 J<|qr ?_
  obtain rfl:=qd b
  exact qz (qe false) J
 refine qn<|qf<|qb<|U J<|Qn J<|U J<|q8 ?_
 obtain ⟨l,m,b⟩:=q7 b
 refine Qh (fun k=>.inl k = l) (fun (k : Unit)=>⟨[],[],0⟩) (by simp) ?_ ?_
 ·refine Q7 (qb3 c f) (fun (g : Int)=>⟨[(0,.d (.sl 2 (c.map Qe))),(1,.d (.sl 2 (f.map Qe))),(12,q6 (c.length : Int)),(13,q6 g)],[],0⟩) 0 l m (wkA [] [] []) ?_
  intro g p a
  unfold qb3 at a
  refine qb<|O (.d (.bool (decide (g < (c.length : Int))))) J<|q8<|qf ?_
  refine qm J a (fun _ a=>?_) (fun _ a=>?_)
  ·refine qn<|qf<|Q1<|qb<|U J<|q9 J<|q8<|qf<|Q5 [q0,q0,q0,q0,q0,q0,q0,q0,q0] (by kernel_rfl)<|U J<|U J ?_
   obtain ⟨h,n,a⟩:=q7 a
   refine Q9 (enc:=Qe) n J<|O (.d (.agg [G h.Lo,G h.Hi])) J<|U J<|U J ?_
   obtain ⟨j,o,a⟩:=q7 a
   refine Q9 (enc:=Qe) o J<|O (.d (.agg [G j.Lo,G j.Hi])) J<|O (.d (.bool (!((h.Lo == j.Lo) && ((h.Hi == j.Hi) && true))))) J<|q8 ?_
   refine qm J a (fun _ a=>?_) (fun _ a=>?_)
   ·refine qb<|q9 J<|qr ?_
    refine ⟨_,(Option.some.inj a).symm,fun hm=>?_⟩
    subst hm
    obtain rfl:=qd b
    exact qz (qe false) J
   refine qn<|Qa<|Qc<|qw<|O (.d (G (w64 (g + 1)))) J<|U J<|qs ?_
   exact ⟨_,(Option.some.inj a).symm,wkA [] [] []⟩
  refine Q6 ?_
  refine ⟨_,(Option.some.inj a).symm,fun hm=>?_⟩
  subst hm
  exact ⟨_,J,wkA [] [] []⟩
 intro k hb
 subst hb
 refine qb<|q9 J<|qr ?_
 obtain rfl:=qd b
 exact qz (qe true) J
theorem qst (b : List qi) (m : List qk) (p : Int) (l : Int) (h : Int) (a : Int) (g : List qk) (r : List qk × Int × Int × List qi) (f : q7v  b m p l h a g = some r) : Qt Tryz.prog tab 118 [.ref 0 4 0 0,q6 h,q6 a,.d (.sl 2 (g.map Qe))] [(0,.cel 4 [[.hs 1 4 0 b.length,.d (.sl 2 (m.map Qe)),q6 p,q6 l]]),(1,.dat 4 (b.map qx))] 2 (.d (.tup [])) [(0,.cel 4 [[.hs 2 4 0 r.2.2.2.length,.d (.sl 2 (r.1.map Qe)),q6 r.2.1,q6 r.2.2.1]]),(2,.dat 4 (r.2.2.2.map qx))] 3:=by
 unfold q7v at f
 refine K3 Tryz.func118 J (by kernel_rfl) (by kernel_rfl) J<|qf<|qb<|U J<|Qn J<|O (.d (.bool (decide ((g.length : Int) > 0)))) J ?_
 obtain ⟨am,t,f⟩:=q7 f
 refine Q3 8 (fun A st=>∃ (v w x y z aa ab : V),st = A [(21,qe am),(20,ab),(19,aa),(18,z),(17,y),(16,x),(15,w),(14,v)]) ?_ ?_
 ·refine Q2 J J t (fun t=>?_) (fun t=>?_)
  ·refine U J<|O (.ref 0 4 0 0) J<|O (.ref 0 4 0 3) J<|O (q6 l) J<|U J<|O (qe (l == h)) J<|O (qe (l == h)) J<|q8 ?_
   obtain rfl:=qd t
   exact ⟨_,_,_,_,_,_,_,J⟩
  refine qa J<|qa J<|qa J<|qa J<|qa J<|qa J<|O (qe false) J<|q8 ?_
  obtain rfl:=qd t
  exact ⟨_,_,_,_,_,_,_,J⟩
 rintro _ ⟨v,w,x,y,z,aa,ab,rfl⟩
 obtain ⟨an,q,f⟩:=q7 f
 refine Q3 8 (fun A st=>∃ (ac ad ae af ag ah ai : V),st = A [(29,qe an),(28,ai),(27,ah),(26,ag),(25,af),(24,ae),(23,ad),(22,ac)]) ?_ ?_
 ·refine Q2 J J q (fun q=>?_) (fun q=>?_)
  ·refine U J<|O (.ref 0 4 0 0) J<|O (.ref 0 4 0 1) J<|O (.d (.sl 2 (m.map Qe))) J<|U J ?_
   obtain ⟨aj,ao,q⟩:=q7 q
   refine qt (quq m g aj ao) J<|O (qe aj) J<|q8 ?_
   obtain rfl:=qd q
   exact ⟨_,_,_,_,_,_,_,J⟩
  refine qa J<|qa J<|qa J<|qa J<|qa J<|qa J<|O (qe false) J<|q8 ?_
  obtain rfl:=qd q
  exact ⟨_,_,_,_,_,_,_,J⟩
 rintro _ ⟨ac,ad,ae,af,ag,ah,ai,rfl⟩
 refine q8 ?_
 refine qm J f (fun _ f=>?_) (fun _ f=>?_)
 ·refine qf<|qb<|U J<|O (.ref 0 4 0 0) J<|O (.ref 0 4 0 2) J<|O (q6 p) J<|q9 J<|q8 ?_
  obtain ⟨ak,ap,f⟩:=q7 f
  refine Qh (fun s=>s = ak) (fun (s : List qi)=>⟨[(0,.ref 0 4 0 0),(2,q6 a)],[(0,.cel 4 [[.hs 1 4 0 s.length,.d (.sl 2 (m.map Qe)),q6 p,q6 l]]),(1,.dat 4 (s.map qx))],2⟩) (by simp) ?_ ?_
  ·refine Q7 (q5a a) (fun (j : Int × List qi)=>⟨[(0,.ref 0 4 0 0),(2,q6 a),(8,q6 j.1)],[(0,.cel 4 [[.hs 1 4 0 j.2.length,.d (.sl 2 (m.map Qe)),q6 p,q6 l]]),(1,.dat 4 (j.2.map qx))],2⟩) (p,b) ak ap (wkA [] [] []) ?_
   intro j ax n
   unfold q5a at n
   refine qf<|qb<|U J<|U J<|O (.ref 0 4 0 0) J<|O (.ref 0 4 0 0) J<|O (.hs 1 4 0 j.2.length) J<|O (q6 (j.2.length : Int)) J<|O (.d (.bool (decide (j.1 < (j.2.length : Int))))) J<|q8 ?_
   refine qm J n (fun _ n=>?_) (fun _ n=>?_)
   ·refine qn<|qf<|Q1<|qw<|U J<|O (.ref 0 4 0 0) J<|O (.ref 0 4 0 0) J<|O (.hs 1 4 0 j.2.length) J<|U J<|U J ?_
    obtain ⟨u,al,n⟩:=q7 n
    refine qq al J J<|O (.ref 1 4 j.1.toNat 2) J<|Qk (ds:=[G a]) ({X0:=u.X0,Y0:=u.Y0,X1:=a,Y1:=u.Y1} : qi) al J J J J J J J J (leb J) J<|qs<|Qc<|qw<|U J<|O (.d (G (w64 (j.1 + 1)))) J<|q9 J<|qs ?_
    exact ⟨_,(Option.some.inj n).symm,wkE [] [] [] J ⟨⟨_,J,.ref J (by decide) (ltd J)⟩,⟨_,J,.d (.refl _)⟩,⟨_,J,.d (.refl _)⟩,trivial⟩ ⟨⟨ltd J,.inr ⟨by decide,_,J,Uc (.cons (Qp (by simp) J (by decide) (ltd J)) J (.cons (.d (.refl _)) J (.cons (.d (.refl _)) J (.cons (.d (.refl _)) J .nil))))⟩⟩,⟨ltd J,.inr ⟨by decide,_,J,.dat _ _⟩⟩,trivial⟩⟩
   refine Q6 ?_
   refine ⟨_,(Option.some.inj n).symm,fun hm=>?_⟩
   subst hm
   exact ⟨_,J,wkA [] [] []⟩
  intro s hb
  subst hb
  refine qb<|U J<|U J<|O (.ref 0 4 0 0) J<|O (.ref 0 4 0 3) J<|Q8 0 (.cel 4 [[.hs 1 4 0 s.length,.d (.sl 2 (m.map Qe)),q6 p,q6 a]]) J<|qr ?_
  obtain rfl:=qd f
  exact ⟨.inr J,_,J,wkA [(2,1)] [] []⟩
 refine qn<|qb<|U J<|U J<|U J<|U J<|O (.ref 0 4 0 0) J<|O (.ref 0 4 0 0) J<|O (.hs 1 4 0 b.length) J<|O (q6 (b.length : Int)) J<|U J<|U J<|O (.ref 0 4 0 0) J<|O (.ref 0 4 0 2) J<|Q8 0 (.cel 4 [[.hs 1 4 0 b.length,.d (.sl 2 (m.map Qe)),q6 (b.length : Int),q6 l]]) J<|O (.ref 0 4 0 0) J<|O (.ref 0 4 0 1) J<|Q8 0 (.cel 4 [[.hs 1 4 0 b.length,.d (.sl 2 (g.map Qe)),q6 (b.length : Int),q6 l]]) J<|O (.ref 0 4 0 0) J<|O (.ref 0 4 0 3) J<|Q8 0 (.cel 4 [[.hs 1 4 0 b.length,.d (.sl 2 (g.map Qe)),q6 (b.length : Int),q6 a]]) J<|qp<|U J<|Qn J<|U J<|q8 ?_
 obtain ⟨aq,ar,f⟩:=q7 f
 refine Q1<|Q7 (q5b g h a b) (fun (o : Int × List qi)=>⟨[(0,.ref 0 4 0 0),(1,q6 h),(2,q6 a),(71,.d (.sl 2 (g.map Qe))),(72,q6 (g.length : Int)),(73,q6 o.1)],[(0,.cel 4 [[.hs 2 4 0 o.2.length,.d (.sl 2 (g.map Qe)),q6 (b.length : Int),q6 a]]),(2,.dat 4 (o.2.map qx))],3⟩) (0,b) aq ar (wkA [(2,1)] [] []) ?_
 intro o ay k
 unfold q5b at k
 refine qb<|O (.d (.bool (decide (o.1 < (g.length : Int))))) J<|q8<|qf ?_
 refine qm J k (fun _ k=>?_) (fun _ k=>?_)
 ·refine qn<|qf<|Q1<|qb ?_
  obtain ⟨c,au,k⟩:=q7 k
  refine Q9 (enc:=Qe) au J<|O (.d (.agg [G c.Lo,G c.Hi])) J<|Qo J J<|Q8 3 (.dat 2 [[G c.Lo,G c.Hi]]) J<|q8<|Q5 [Qd 0,q0,q0,(some [2,4],[2,5]),(some [],[4]),q0,qo 3,q0,q0,qo 3,q0,q0,qo 0,q0,q0,q0,q0] (by kernel_rfl)<|U J<|U J<|O (.ref 0 4 0 0) J<|O (.ref 0 4 0 0) J<|O (.hs 2 4 0 o.2.length) J<|U J<|O (.ref 3 2 0 0) J<|O (q6 c.Lo) J<|U J<|O (.ref 3 2 0 1) J<|O (q6 c.Hi) J<|O (.d (.agg [G h,G c.Lo,G a,G c.Hi])) J<|Qg (.hs 4 4 0 [({X0:=h,Y0:=c.Lo,X1:=a,Y1:=c.Hi} : qi)].length) (.dat 4 ([({X0:=h,Y0:=c.Lo,X1:=a,Y1:=c.Hi} : qi)].map qx)) J ?_
  obtain ⟨av,aw,k⟩:=q7 k
  refine Kx (xs:=o.2) (ys:=[({X0:=h,Y0:=c.Lo,X1:=a,Y1:=c.Hi} : qi)]) (enc:=qx) (.hs 4 4 0 [({X0:=h,Y0:=c.Lo,X1:=a,Y1:=c.Hi} : qi)].length) aw J J J J J J J (Kv J J) J J J J<|O (.ref 0 4 0 0) J<|O (.ref 0 4 0 0) J<|Q8 0 (.cel 4 [[.hs 5 4 0 av.length,.d (.sl 2 (g.map Qe)),q6 (b.length : Int),q6 a]]) J<|qs<|Qc<|qw<|O (.d (G (w64 (o.1 + 1)))) J<|U J<|qs ?_
  exact ⟨_,(Option.some.inj k).symm,wkA [(2,5)] [] []⟩
 refine Q6 ?_
 refine ⟨_,(Option.some.inj k).symm,fun hm=>?_⟩
 subst hm
 obtain rfl:=qd f
 exact ⟨.inl J,_,J,wkA [(2,2)] [] []⟩
theorem qsw (a : List qi) (r : List qi × Int) (u : q7w a = some r) : Pure Tryz.prog tab 108 [.sl 4 (a.map qx)] (.tup [.sl 4 (r.1.map qx),G r.2]):=by
 unfold q7w at u
 refine Qb Tryz.func108 J (by kernel_rfl) (by kernel_rfl) J<|qb<|q9 J<|q9 J<|qp<|Qo J J<|q8<|qf<|qb<|U J<|Qg (.hs 1 1 0 [a].length) (.dat 1 ([a].map Yw)) J ?_
 obtain ⟨aw,l,u⟩:=q7 u
 refine qde [.hs 1 1 0 [a].length] (fun h=>h = aw) (fun (h : List Int)=>⟨[(2,.d (.nilsl)),(3,q6 0),(4,.ref 0 4 0 0),(10,.fn 139 [.ref 1 1 0 0,.ref 2 1 0 0])],[(0,.dat 4 [[.nilsl,.nilsl,G 0,G 0]]),(1,.cel 1 [[.d (.sl 1 (h.map (eI .i64)))]]),(2,.cel 1 [[.hs 3 1 0 [a].length]]),(3,.dat 1 ([a].map Yw))],4⟩) J J Tryz.func130 J (by kernel_rfl) (by kernel_rfl) J ?_ ?_
 ·refine qb<|Qg (.ref 2 1 0 0) (.cel 1 [[.hs 1 1 0 [a].length]]) J<|q9 J<|qp<|Qo J J<|q8<|qf<|qb<|O (.hs 1 1 0 [a].length) J<|O (q6 1) J<|U J<|q8<|Q1<|Ux<|qb<|O (qe true) J<|q8<|qf<|q5e J<|qn<|qf ?_
  obtain ⟨ax,ac,l⟩:=q7 l
  refine Qh (fun m=>m = ax) (fun (m : List Int)=>⟨[(1,.ref 2 1 0 0),(3,.ref 3 1 0 0),(8,.hs 1 1 0 [a].length),(9,q6 1),(10,q6 0)],[(0,.dat 4 [[.nilsl,.nilsl,G 0,G 0]]),(1,.dat 1 ([a].map Yw)),(2,.cel 1 [[.hs 1 1 0 [a].length]]),(3,.cel 1 [[.hs 4 1 0 m.length]]),(4,.dat 1 (m.map (eI .i64)))],5⟩) (by simp) ?_ ?_
  ·refine qb ?_
   obtain ⟨ad,am,ac⟩:=q7 ac
   refine qq am J J<|Q0 (.d (.sl 4 (ad.map qx))) am J<|q9 J<|qp<|U J<|Qn J<|U J<|q8 ?_
   obtain ⟨ay,az,ac⟩:=q7 ac
   refine Q1<|Q7 (q1t ad) (fun (w : Int × List Int)=>⟨[(1,.ref 2 1 0 0),(3,.ref 3 1 0 0),(8,.hs 1 1 0 [a].length),(9,q6 1),(10,q6 0),(14,.d (.sl 4 (ad.map qx))),(15,q6 (ad.length : Int)),(16,q6 w.1)],[(0,.dat 4 [[.nilsl,.nilsl,G 0,G 0]]),(1,.dat 1 ([a].map Yw)),(2,.cel 1 [[.hs 1 1 0 [a].length]]),(3,.cel 1 [[.hs 4 1 0 w.2.length]]),(4,.dat 1 (w.2.map (eI .i64)))],5⟩) (0,[]) ay az (wkA [(2,2),(3,3)] [] [4]) ?_
   intro w cd p
   unfold q1t at p
   refine qb<|O (.d (.bool (decide (w.1 < (ad.length : Int))))) J<|q8<|qf ?_
   refine qm J p (fun _ p=>?_) (fun _ p=>?_)
   ·refine qn<|qf<|Q1<|qb ?_
    obtain ⟨g,ba,p⟩:=q7 p
    refine Q9 (enc:=qx) ba J<|O (.d (.agg [G g.X0,G g.Y0,G g.X1,G g.Y1])) J<|Qo J J<|Q8 5 (.dat 4 [[G g.X0,G g.Y0,G g.X1,G g.Y1]]) J<|q8<|qw<|O (.hs 4 1 0 w.2.length) J<|O (.ref 5 4 0 0) J<|O (q6 g.X0) J<|O (.ref 5 4 0 2) J<|O (q6 g.X1) J<|Qg (.hs 6 1 0 [g.X0,g.X1].length) (.dat 1 ([g.X0,g.X1].map (eI .i64))) J ?_
    obtain ⟨bb,bc,p⟩:=q7 p
    refine Kx (xs:=w.2) (ys:=[g.X0,g.X1]) (enc:=(eI .i64)) (.hs 6 1 0 [g.X0,g.X1].length) bc J J J J J J J (Kv J J) J J J J<|Q8 3 (.cel 1 [[.hs 7 1 0 bb.length]]) J<|qs<|Qc<|qw<|O (.d (G (w64 (w.1 + 1)))) J<|U J<|qs ?_
    exact ⟨_,(Option.some.inj p).symm,wkA [(2,2),(3,3),(4,7)] [] []⟩
   refine Q6 ?_
   refine ⟨_,(Option.some.inj p).symm,fun hm=>?_⟩
   subst hm
   obtain rfl:=qd ac
   exact ⟨_,J,wkA [(2,2),(3,3),(4,4)] [] []⟩
  intro m hb
  subst hb
  refine qw<|O (q6 1) J<|U J<|q8<|Ux<|qb<|O (qe false) J<|q8<|qf<|U7 J<|Q6<|q2b<|qb<|O (.hs 4 1 0 m.length) J ?_
  obtain ⟨ak,bd,l⟩:=q7 l
  obtain ⟨ce,be,l⟩:=q7 l
  have bf:=K7 be
  refine Qw [(0,4)] [(0,1),(1,1),(2,1),(3,1),(4,0)] [.hs 4 1 0 m.length] (.d (.tup [])) 1 [(4,.dat 1 (ak.map (eI .i64))),(0,.dat 4 [[.nilsl,.nilsl,G 0,G 0]]),(1,.dat 1 ([a].map Yw)),(2,.cel 1 [[.hs 1 1 0 [a].length]]),(3,.cel 1 [[.hs 4 1 0 m.length]])] 5 (qk4 m ak bd)<|qp<|O (.hs 4 1 0 m.length) J ?_
  obtain ⟨z,bg,l⟩:=q7 l
  obtain ⟨cf,bh,l⟩:=q7 l
  have cg:=K7 bh
  obtain ⟨ch,bi,l⟩:=q7 l
  have bj:=qln bi
  refine U3 [(0,4)] [(0,1),(1,1),(2,1),(3,1),(4,0)] [.hs 4 1 0 m.length] (.hs 4 1 z.1.1 z.1.2) [(4,.dat 1 (z.2.map (eI .i64)))] [(4,.dat 1 (z.2.map (eI .i64))),(0,.dat 4 [[.nilsl,.nilsl,G 0,G 0]]),(1,.dat 1 ([a].map Yw)),(2,.cel 1 [[.hs 1 1 0 [a].length]]),(3,.cel 1 [[.hs 4 1 0 m.length]])] 5 (qk2 ak z bg) J J J (Y7 [(0,4)] [] [] J ⟨⟨_,J,Qp (by simp [bf]) J (by decide) (ltd J)⟩,trivial⟩ ⟨⟨ltd J,.inr ⟨by decide,_,J,.dat _ _⟩⟩,trivial⟩) (Y7 [(0,1),(1,1),(2,1),(3,1),(4,0)] [] [] J ⟨⟨_,J,.hs J (by decide) (ltd J)⟩,trivial⟩ ⟨⟨ltd J,.inr ⟨by decide,_,J,.dat _ _⟩⟩,trivial⟩) J ⟨.inl J,.inr ⟨J,J⟩,.inr ⟨J,J⟩,.inr ⟨J,J⟩,.inr ⟨J,J⟩,trivial⟩<|Q8 3 (.cel 1 [[.hs 4 1 z.1.1 z.1.2]]) J<|qp<|O (.fn 139 [.ref 3 1 0 0,.ref 2 1 0 0]) J<|q9 J<|qr ?_
  refine ⟨.inr J,_,J,?_⟩
  obtain rfl:=qd l
  exact ⟨_,J,wkE [(0,0),(1,3),(2,2),(3,1)] [4] [] J ⟨⟨_,J,.d (.refl _)⟩,⟨_,J,.d (.refl _)⟩,⟨_,J,.ref J (by decide) (ltd J)⟩,⟨_,J,(q41 (.cons (.ref J (by decide) (ltd J)) (.cons (.ref J (by decide) (ltd J)) .nil)))⟩,trivial⟩ ⟨⟨ltd J,.inr ⟨by decide,_,J,.dat _ _⟩⟩,⟨ltd J,.inr ⟨by decide,_,J,Uc (.cons (qlr bj J (by decide)) J .nil)⟩⟩,⟨ltd J,.inr ⟨by decide,_,J,Uc (.cons (.hs J (by decide) (ltd J)) J .nil)⟩⟩,⟨ltd J,.inr ⟨by decide,_,J,.dat _ _⟩⟩,trivial⟩⟩
 intro h hb
 subst hb
 refine q8<|Q1 ?_
 obtain ⟨bk,al,u⟩:=q7 u
 refine qdx (fun n=>n = bk) (fun (n : List qk × Int × Int × List qi)=>⟨[(4,.ref 0 4 0 0)],[(0,.cel 4 [[.hs 1 4 0 n.2.2.2.length,.d (.sl 2 (n.1.map Qe)),q6 n.2.1,q6 n.2.2.1]]),(1,.dat 4 (n.2.2.2.map qx))],2⟩) ?_ ?_
 ·refine Yr (st':=⟨[(2,.d (.nilsl)),(3,q6 0),(4,.ref 0 4 0 0),(10,.fn 139 [.ref 1 1 0 0,.ref 2 1 0 0])],[(0,.dat 4 [[.nilsl,.nilsl,G 0,G 0]]),(1,.cel 1 [[.d (.sl 1 (h.map (eI .i64)))]]),(2,.cel 1 [[.hs 3 1 0 [a].length]]),(3,.dat 1 ([a].map Yw))],4⟩) (wkA [(0,0),(1,1),(2,2),(3,3)] [] []) ?_ (by simp)
  refine qdy [.ref 1 1 0 0,.ref 2 1 0 0] (.inl J) Tryz.func139 J (by kernel_rfl) (by kernel_rfl) J ?_
  intro A847 B848 hA847 hB848
  refine qb<|q9 J<|q8 ?_
  obtain ⟨bl,bm,al⟩:=q7 al
  refine Q1<|Q7 (q1u h a) (fun (b : Int × List qk × Int × Int × List qi)=>⟨[(0,.yld 4),(1,.ref 1 1 0 0),(2,.ref 2 1 0 0),(4,q6 b.1)],[(0,.cel 4 [[.hs 5 4 0 b.2.2.2.2.length,.d (.sl 2 (b.2.1.map Qe)),q6 b.2.2.1,q6 b.2.2.2.1]]),(1,.cel 1 [[.d (.sl 1 (h.map (eI .i64)))]]),(2,.cel 1 [[.hs 3 1 0 [a].length]]),(3,.dat 1 ([a].map Yw)),(4,.loop [(2,.d (.nilsl)),(3,q6 0),(4,.ref 0 4 0 0),(10,.fn 139 [.ref 1 1 0 0,.ref 2 1 0 0])] [11] A847 B848 .ready none),(5,.dat 4 (b.2.2.2.2.map qx))],6⟩) (1,[],0,0,[]) bl bm (wkA [] [] [5]) ?_
  intro b ci j
  unfold q1u at j
  refine qf<|qb<|U J<|O (.d (.sl 1 (h.map (eI .i64)))) J<|Qn J<|O (.d (.bool (decide (b.1 < (h.length : Int))))) J<|q8 ?_
  refine qm J j (fun _ j=>?_) (fun _ j=>?_)
  ·refine qn<|qf<|Q1<|qf<|Q5 [Qd 7,(some [],[7]),q0,(some [],[6]),q0,qo 2,q0,q0,q0,qo 1,q0,q0,q0,q0,qo 1] (by kernel_rfl)<|O (.d (.sl 1 (h.map (eI .i64)))) J<|U J<|O (.d (G (w64 (b.1 - 1)))) J ?_
   obtain ⟨f,bn,j⟩:=q7 j
   refine Q9 (enc:=(eI .i64)) bn J<|O (q6 f) J<|O (.d (.sl 1 (h.map (eI .i64)))) J<|U J ?_
   obtain ⟨k,bo,j⟩:=q7 j
   refine Q9 (enc:=(eI .i64)) bo J<|O (q6 k) J<|O (.hs 3 1 0 [a].length) J<|O (q6 1) J<|Qg (.hs 6 1 0 1) (.dat 1 [[.nilsl]]) J<|O (.agg [q6 f,q6 k,.hs 6 1 0 1]) J<|Qo J J<|Q8 7 (.cel 3 [[q6 f,q6 k,.hs 6 1 0 1]]) J<|q8<|qf<|qb<|O (.hs 3 1 0 [a].length) J<|O (q6 1) J<|U J<|q8<|Q1<|Ux<|qb<|O (qe true) J<|q8<|qf<|q5e J<|qn<|qf ?_
   obtain ⟨bp,ae,j⟩:=q7 j
   refine Qh (fun s=>s = bp) (fun (s : List qk)=>⟨[(0,.yld 4),(1,.ref 1 1 0 0),(2,.ref 2 1 0 0),(4,q6 b.1),(5,.ref 5 3 0 0),(29,.hs 3 1 0 [a].length),(30,q6 1),(31,q6 0)],[(0,.cel 4 [[.hs 6 4 0 b.2.2.2.2.length,.d (.sl 2 (b.2.1.map Qe)),q6 b.2.2.1,q6 b.2.2.2.1]]),(1,.cel 1 [[.d (.sl 1 (h.map (eI .i64)))]]),(2,.cel 1 [[.hs 3 1 0 [a].length]]),(3,.dat 1 ([a].map Yw)),(4,.loop [(2,.d (.nilsl)),(3,q6 0),(4,.ref 0 4 0 0),(10,.fn 139 [.ref 1 1 0 0,.ref 2 1 0 0])] [11] A847 B848 .ready none),(5,.cel 3 [[q6 f,q6 k,.hs 7 1 0 1]]),(6,.dat 4 (b.2.2.2.2.map qx)),(7,.cel 1 [[.hs 8 2 0 s.length]]),(8,.dat 2 (s.map Qe))],9⟩) (by simp) ?_ ?_
   ·refine qb<|U J ?_
    obtain ⟨aa,an,ae⟩:=q7 ae
    refine qq an J J<|Q0 (.d (.sl 4 (aa.map qx))) an J<|q9 J<|q9 J<|qp<|U J<|Qn J<|U J<|q8 ?_
    obtain ⟨bq,br,ae⟩:=q7 ae
    refine Q1<|Q7 (q38 aa f) (fun (t : Int × List qk)=>⟨[(0,.yld 4),(1,.ref 1 1 0 0),(2,.ref 2 1 0 0),(4,q6 b.1),(5,.ref 5 3 0 0),(6,q6 0),(29,.hs 3 1 0 [a].length),(30,q6 1),(31,q6 0),(36,.d (.sl 4 (aa.map qx))),(37,q6 (aa.length : Int)),(38,q6 t.1)],[(0,.cel 4 [[.hs 6 4 0 b.2.2.2.2.length,.d (.sl 2 (b.2.1.map Qe)),q6 b.2.2.1,q6 b.2.2.2.1]]),(1,.cel 1 [[.d (.sl 1 (h.map (eI .i64)))]]),(2,.cel 1 [[.hs 3 1 0 [a].length]]),(3,.dat 1 ([a].map Yw)),(4,.loop [(2,.d (.nilsl)),(3,q6 0),(4,.ref 0 4 0 0),(10,.fn 139 [.ref 1 1 0 0,.ref 2 1 0 0])] [11] A847 B848 .ready none),(5,.cel 3 [[q6 f,q6 k,.hs 7 1 0 1]]),(6,.dat 4 (b.2.2.2.2.map qx)),(7,.cel 1 [[.hs 8 2 0 t.2.length]]),(8,.dat 2 (t.2.map Qe))],9⟩) (0,[]) bq br (wkA [(5,7),(6,5),(7,6)] [] [8]) ?_
    intro t cj x
    unfold q38 at x
    refine qb<|O (.d (.bool (decide (t.1 < (aa.length : Int))))) J<|q8<|qf ?_
    refine qm J x (fun _ x=>?_) (fun _ x=>?_)
    ·refine qn<|qf ?_
     obtain ⟨bs,o,x⟩:=q7 x
     refine Qh (fun af=>af = bs) (fun (af : List qk)=>⟨[(0,.yld 4),(1,.ref 1 1 0 0),(2,.ref 2 1 0 0),(4,q6 b.1),(5,.ref 5 3 0 0),(6,q6 0),(29,.hs 3 1 0 [a].length),(30,q6 1),(31,q6 0),(36,.d (.sl 4 (aa.map qx))),(37,q6 (aa.length : Int)),(38,q6 t.1)],[(0,.cel 4 [[.hs 6 4 0 b.2.2.2.2.length,.d (.sl 2 (b.2.1.map Qe)),q6 b.2.2.1,q6 b.2.2.2.1]]),(1,.cel 1 [[.d (.sl 1 (h.map (eI .i64)))]]),(2,.cel 1 [[.hs 3 1 0 [a].length]]),(3,.dat 1 ([a].map Yw)),(4,.loop [(2,.d (.nilsl)),(3,q6 0),(4,.ref 0 4 0 0),(10,.fn 139 [.ref 1 1 0 0,.ref 2 1 0 0])] [11] A847 B848 .ready none),(5,.cel 3 [[q6 f,q6 k,.hs 7 1 0 1]]),(6,.dat 4 (b.2.2.2.2.map qx)),(7,.cel 1 [[.hs 8 2 0 af.length]]),(8,.dat 2 (af.map Qe))],9⟩) (by simp) ?_ ?_
     ·refine qb ?_
      obtain ⟨c,bt,o⟩:=q7 o
      refine Q9 (enc:=qx) bt J<|O (.d (.agg [G c.X0,G c.Y0,G c.X1,G c.Y1])) J<|Qo J J<|Q8 9 (.dat 4 [[G c.X0,G c.Y0,G c.X1,G c.Y1]]) J<|qp<|O (.ref 9 4 0 0) J<|O (q6 c.X0) J<|O (.ref 5 3 0 0) J<|O (q6 f) J<|O (.d (.bool (decide (c.X0≤f)))) J ?_
      obtain ⟨bu,ag,o⟩:=q7 o
      refine Q3 7 (fun A st=>∃ (ao ap aq ar au av : V),st = A [(53,qe bu),(52,av),(51,au),(50,ar),(49,aq),(48,ap),(47,ao)]) ?_ ?_
      ·refine Q2 J J ag (fun ag=>?_) (fun ag=>?_)
       ·refine O (.ref 5 3 0 0) J<|O (q6 f) J<|O (.ref 9 4 0 2) J<|O (q6 c.X1) J<|O (.d (.bool (decide (f < c.X1)))) J<|O (.d (.bool (decide (f < c.X1)))) J<|q8 ?_
        obtain rfl:=qd ag
        exact ⟨_,_,_,_,_,_,J⟩
       refine qa J<|qa J<|qa J<|qa J<|qa J<|O (qe false) J<|q8 ?_
       obtain rfl:=qd ag
       exact ⟨_,_,_,_,_,_,J⟩
      rintro _ ⟨ao,ap,aq,ar,au,av,rfl⟩
      refine q8 ?_
      refine qm J o (fun _ o=>?_) (fun _ o=>?_)
      ·refine Q5 [Qd 7,q0,(some [8,10],[8,11]),(some [],[10]),q0,qo 9,q0,qo 9,q0,qo 7,q0,q0,qo 5,q0,q0,qo 5,q0] (by kernel_rfl)<|O (.ref 5 3 0 2) J<|O (.hs 7 1 0 1) J<|U J<|O (.ref 5 3 0 2) J<|O (.hs 7 1 0 1) J<|U J<|O (.ref 7 1 0 0) J<|O (.hs 8 2 0 t.2.length) J<|O (.ref 9 4 0 1) J<|O (q6 c.Y0) J<|O (.ref 9 4 0 3) J<|O (q6 c.Y1) J<|O (.d (.agg [G c.Y0,G c.Y1])) J<|Qg (.hs 10 2 0 [({Lo:=c.Y0,Hi:=c.Y1} : qk)].length) (.dat 2 ([({Lo:=c.Y0,Hi:=c.Y1} : qk)].map Qe)) J ?_
       obtain ⟨bv,bw,o⟩:=q7 o
       refine Kx (xs:=t.2) (ys:=[({Lo:=c.Y0,Hi:=c.Y1} : qk)]) (enc:=Qe) (.hs 10 2 0 [({Lo:=c.Y0,Hi:=c.Y1} : qk)].length) bw J J J J J J J (Kv J J) J J J J<|O (.ref 7 1 0 0) J<|Q8 7 (.cel 1 [[.hs 11 2 0 bv.length]]) J<|qs ?_
       obtain rfl:=qd o
       exact ⟨_,J,wkA [(5,5),(6,6),(7,7),(8,11)] [] []⟩
      refine qn<|Qa ?_
      obtain rfl:=qd o
      exact ⟨_,J,wkA [(5,5),(6,6),(7,7),(8,8)] [] []⟩
     intro af hb
     subst hb
     refine qw<|O (.d (G (w64 (t.1 + 1)))) J<|U J<|qs ?_
     exact ⟨_,(Option.some.inj x).symm,wkA [(5,5),(6,6),(7,7),(8,8)] [] []⟩
    refine Q6 ?_
    refine ⟨_,(Option.some.inj x).symm,fun hm=>?_⟩
    subst hm
    obtain rfl:=qd ae
    exact ⟨_,J,wkA [(5,5),(6,6),(7,7),(8,8)] [] []⟩
   intro s hb
   subst hb
   refine qw<|O (q6 1) J<|U J<|q8<|Ux<|qb<|O (qe false) J<|q8<|qf<|U7 J<|Q6<|q2b<|qf ?_
   refine Yr (st':=⟨[(0,.yld 4),(1,.ref 1 1 0 0),(2,.ref 2 1 0 0),(4,q6 b.1),(5,.ref 5 3 0 0)],[(0,.cel 4 [[.hs 6 4 0 b.2.2.2.2.length,.d (.sl 2 (b.2.1.map Qe)),q6 b.2.2.1,q6 b.2.2.2.1]]),(1,.cel 1 [[.d (.sl 1 (h.map (eI .i64)))]]),(2,.cel 1 [[.hs 3 1 0 [a].length]]),(3,.dat 1 ([a].map Yw)),(4,.loop [(2,.d (.nilsl)),(3,q6 0),(4,.ref 0 4 0 0),(10,.fn 139 [.ref 1 1 0 0,.ref 2 1 0 0])] [11] A847 B848 .ready none),(5,.cel 3 [[q6 f,q6 k,.hs 7 1 0 1]]),(6,.dat 4 (b.2.2.2.2.map qx)),(7,.cel 1 [[.d (.sl 2 (s.map Qe))]])],8⟩) (wkA [(5,5),(6,6),(7,7)] [8] []) ?_ (by simp)
   refine qw<|U J<|O (.agg [q6 f,q6 k,.hs 7 1 0 1]) J ?_
   obtain ⟨bz,ah,j⟩:=q7 j
   refine qdk (fun y=>y = bz) (fun (y : List qk × Int × Int × List qi)=>⟨[(0,.yld 4),(1,.ref 1 1 0 0),(2,.ref 2 1 0 0),(4,q6 b.1),(74,qe true)],[(0,.cel 4 [[.hs 5 4 0 y.2.2.2.length,.d (.sl 2 (y.1.map Qe)),q6 y.2.1,q6 y.2.2.1]]),(1,.cel 1 [[.d (.sl 1 (h.map (eI .i64)))]]),(2,.cel 1 [[.hs 3 1 0 [a].length]]),(3,.dat 1 ([a].map Yw)),(4,.loop [(2,.d (.nilsl)),(3,q6 0),(4,.ref 0 4 0 0),(10,.fn 139 [.ref 1 1 0 0,.ref 2 1 0 0])] [11] A847 B848 .ready none),(5,.dat 4 (y.2.2.2.map qx))],6⟩) hA847 hB848 J J J J J J ?_ ?_
   ·refine qw<|Qo J J<|Q8 8 (.cel 3 [[q6 f,q6 k,.hs 7 1 0 1]]) J<|qs ?_
    refine ⟨J,_,J,?_⟩
    refine Q1<|qb<|O (.ref 8 3 0 2) J<|O (.hs 7 1 0 1) J<|O (.ref 7 1 0 0) J<|O (.d (.sl 2 (s.map Qe))) J ?_
    obtain ⟨ai,ca,ah⟩:=q7 ah
    refine qt (qxz s ai ca) J<|U J<|O (.d (.sl 2 (ai.1.map Qe))) J<|O (q6 ai.2) J<|q9 J<|q9 J<|q8<|qw<|O (.ref 8 3 0 0) J<|O (q6 f) J<|O (.ref 8 3 0 1) J<|O (q6 k) J<|U J ?_
    obtain ⟨ab,cb,ah⟩:=q7 ah
    refine Qw [(0,0),(1,6)] [(0,0),(1,3),(2,3),(3,3),(4,3),(5,3),(6,1),(7,3),(8,3),(9,2)] [.ref 0 4 0 0,q6 f,q6 k,.d (.sl 2 (ai.1.map Qe))] (.d (.tup [])) 2 [(0,.cel 4 [[.hs 9 4 0 ab.2.2.2.length,.d (.sl 2 (ab.1.map Qe)),q6 ab.2.1,q6 ab.2.2.1]]),(9,.dat 4 (ab.2.2.2.map qx)),(1,.cel 1 [[.d (.sl 1 (h.map (eI .i64)))]]),(2,.cel 1 [[.hs 3 1 0 [a].length]]),(3,.dat 1 ([a].map Yw)),(4,.loop [(2,.d (.nilsl)),(3,q6 0),(4,.ref 0 4 0 0),(10,.fn 139 [.ref 1 1 0 0,.ref 2 1 0 0])] [11] A847 B848 .busy none),(5,.cel 3 [[q6 f,q6 k,.hs 7 1 0 1]]),(7,.cel 1 [[.d (.sl 2 (s.map Qe))]]),(8,.cel 3 [[q6 f,q6 k,.hs 7 1 0 1]])] 10 (qst b.2.2.2.2 b.2.1 b.2.2.1 b.2.2.2.1 f k ai.1 ab cb)<|qs<|Qc<|Qa ?_
    refine ⟨_,J,?_⟩
    obtain rfl:=qd ah
    exact ⟨_,J,wkA [(5,9)] [] []⟩
   intro y hb
   subst hb
   refine O (qe false) J<|q8<|U7 J<|qn<|Qa<|Qc<|qw<|U J<|O (.d (G (w64 (b.1 + 1)))) J<|q9 J<|qs ?_
   exact ⟨_,(Option.some.inj j).symm,wkA [(5,5)] [] []⟩
  refine Q6 ?_
  refine ⟨_,(Option.some.inj j).symm,fun hm=>?_⟩
  subst hm
  refine ⟨.inl J,_,J,_,_,.nor,J,by decide,?_⟩
  refine qbr<|Qa ?_
  obtain rfl:=qd al
  exact ⟨_,J,wkA [(0,0),(1,5)] [] []⟩
 intro n st hb hw
 subst hb
 refine Yr hw ?_ (by simp)
 refine qb ?_
 obtain ⟨cc,aj,u⟩:=q7 u
 refine qde [.ref 0 4 0 0] (fun q=>q = cc) (fun (q : Int × List qi)=>⟨[(26,.tup [.hs 0 4 0 q.2.length,q6 q.1])],[(0,.dat 4 (q.2.map qx))],1⟩) J J Tryz.func119 J (by kernel_rfl) (by kernel_rfl) J ?_ ?_
 ·refine qb<|q9 J<|q9 J<|q8<|qf<|qb<|U J<|O (.ref 0 4 0 0) J<|O (.ref 0 4 0 0) J<|O (.hs 1 4 0 n.2.2.2.length) J<|O (q6 (n.2.2.2.length : Int)) J<|O (.d (.bool (decide ((n.2.2.2.length : Int) > 400)))) J<|q8 ?_
  refine qm J aj (fun _ aj=>?_) (fun _ aj=>?_)
  ·refine qb<|q9 J<|q9 J<|qr ?_
   refine ⟨.inr J,_,J,?_⟩
   obtain rfl:=qd aj
   exact ⟨_,J,wkA [] [] [0]⟩
  refine qn<|qb<|U J<|O (.ref 0 4 0 0) J<|O (.ref 0 4 0 0) J<|O (.hs 1 4 0 n.2.2.2.length) J<|q9 J<|q9 J<|qr ?_
  refine ⟨.inr J,_,J,?_⟩
  obtain rfl:=qd aj
  exact ⟨_,J,wkA [(0,1)] [] []⟩
 intro q hb
 subst hb
 refine O (.hs 0 4 0 q.2.length) J<|O (q6 q.1) J<|q9 J<|q9 J<|qr ?_
 obtain rfl:=qd u
 exact finD (.inr J) (v:=.tup [.hs 0 4 0 q.2.length,q6 q.1]) J (qet (q2q (J2 J J) (q2q J J))) (.refl _)
theorem qss (b : List qi) (r : List qi × Int) (a : q59 b = some r) : Pure Tryz.prog tab 83 [.sl 4 (b.map qx)] (.tup [.sl 4 (r.1.map qx),G r.2]):=by
 unfold q59 at a
 refine Qb Tryz.func83 J (by kernel_rfl) (by kernel_rfl) J<|qb<|q9 J<|q9 J<|q8<|qf<|qb<|U J<|Qn J<|O (.d (.bool (decide ((b.length : Int) > 400)))) J<|q8 ?_
 refine qm J a (fun _ a=>?_) (fun _ a=>?_)
 ·refine qb<|q9 J<|q9 J<|qr ?_
  obtain rfl:=qd a
  exact finD (.inr J) (v:=.d (.tup [.nilsl,G 4])) J J (Zv (.cons (.nil _) (.cons (.refl _) .nil)))
 refine qn<|qf<|qb<|U J ?_
 obtain ⟨g,h,a⟩:=q7 a
 refine qt (qul b (fun f=>q1r f) 114 [] (fun f r hr=>qsq f r hr) g h) J<|q8 ?_
 refine qm J a (fun _ a=>?_) (fun _ a=>?_)
 ·refine qb<|q9 J<|q9 J<|qr ?_
  obtain rfl:=qd a
  exact finD (.inr J) (v:=.d (.tup [.nilsl,G 8])) J J (Zv (.cons (.nil _) (.cons (.refl _) .nil)))
 refine qn<|qb<|U J ?_
 obtain ⟨c,j,a⟩:=q7 a
 refine qt (qsw b c j) J<|O (.d (.sl 4 (c.1.map qx))) J<|O (q6 c.2) J<|q9 J<|q9 J<|qr ?_
 obtain rfl:=qd a
 exact qz (.d (.tup [.sl 4 (c.1.map qx),G c.2])) J
theorem qun (g : List qi) (h : List qi) (r : Bool) (b : q85 g h = some r) : Pure Tryz.prog tab 109 [.sl 4 (g.map qx),.sl 4 (h.map qx)] (.bool r):=by
 unfold q85 at b
 refine Qb Tryz.func109 J (by kernel_rfl) (by kernel_rfl) J<|qb<|q9 J<|q8<|qf<|qb<|U J<|Qn J<|U J<|Qn J<|O (.d (.bool ((g.length : Int) != (h.length : Int)))) J<|q8 ?_
 refine qm J b (fun _ b=>?_) (fun _ b=>?_)
 ·refine qb<|q9 J<|qr ?_
  obtain rfl:=qd b
  exact qz (qe false) J
 refine qn<|qf<|qb<|U J<|Qn J<|U J<|q8 ?_
 obtain ⟨l,m,b⟩:=q7 b
 refine Qh (fun k=>.inl k = l) (fun (k : Unit)=>⟨[],[],0⟩) (by simp) ?_ ?_
 ·refine Q7 (qb1 g h) (fun (j : Int)=>⟨[(0,.d (.sl 4 (g.map qx))),(1,.d (.sl 4 (h.map qx))),(12,q6 (g.length : Int)),(13,q6 j)],[],0⟩) 0 l m (wkA [] [] []) ?_
  intro j p a
  unfold qb1 at a
  refine qb<|O (.d (.bool (decide (j < (g.length : Int))))) J<|q8<|qf ?_
  refine qm J a (fun _ a=>?_) (fun _ a=>?_)
  ·refine qn<|qf<|Q1<|qb<|U J<|q9 J<|q8<|qf<|Q5 [q0,q0,q0,q0,q0,q0,q0,q0,q0] (by kernel_rfl)<|U J<|U J ?_
   obtain ⟨c,n,a⟩:=q7 a
   refine Q9 (enc:=qx) n J<|O (.d (.agg [G c.X0,G c.Y0,G c.X1,G c.Y1])) J<|U J<|U J ?_
   obtain ⟨f,o,a⟩:=q7 a
   refine Q9 (enc:=qx) o J<|O (.d (.agg [G f.X0,G f.Y0,G f.X1,G f.Y1])) J<|O (.d (.bool (!((c.X0 == f.X0) && ((c.Y0 == f.Y0) && ((c.X1 == f.X1) && ((c.Y1 == f.Y1) && true))))))) J<|q8 ?_
   refine qm J a (fun _ a=>?_) (fun _ a=>?_)
   ·refine qb<|q9 J<|qr ?_
    refine ⟨_,(Option.some.inj a).symm,fun hm=>?_⟩
    subst hm
    obtain rfl:=qd b
    exact qz (qe false) J
   refine qn<|Qa<|Qc<|qw<|O (.d (G (w64 (j + 1)))) J<|U J<|qs ?_
   exact ⟨_,(Option.some.inj a).symm,wkA [] [] []⟩
  refine Q6 ?_
  refine ⟨_,(Option.some.inj a).symm,fun hm=>?_⟩
  subst hm
  exact ⟨_,J,wkA [] [] []⟩
 intro k hb
 subst hb
 refine qb<|q9 J<|qr ?_
 obtain rfl:=qd b
 exact qz (qe true) J
theorem qxn (c : List qg) (m : List qi) (p : Int) (l : Int) (g : Int) (b : Int) (h : List qi) (r : List qi × Int × Int × List qg) (f : q90  c m p l g b h = some r) : Qt Tryz.prog tab 84 [.ref 0 4 0 0,q6 g,q6 b,.d (.sl 4 (h.map qx))] [(0,.cel 4 [[.hs 1 6 0 c.length,.d (.sl 4 (m.map qx)),q6 p,q6 l]]),(1,.dat 6 (c.map qy))] 2 (.d (.tup [])) [(0,.cel 4 [[.hs 2 6 0 r.2.2.2.length,.d (.sl 4 (r.1.map qx)),q6 r.2.1,q6 r.2.2.1]]),(2,.dat 6 (r.2.2.2.map qy))] 3:=by
 unfold q90 at f
 refine K3 Tryz.func84 J (by kernel_rfl) (by kernel_rfl) J<|qf<|qb<|U J<|Qn J<|O (.d (.bool (decide ((h.length : Int) > 0)))) J ?_
 obtain ⟨am,t,f⟩:=q7 f
 refine Q3 8 (fun A st=>∃ (v w x y z aa ab : V),st = A [(21,qe am),(20,ab),(19,aa),(18,z),(17,y),(16,x),(15,w),(14,v)]) ?_ ?_
 ·refine Q2 J J t (fun t=>?_) (fun t=>?_)
  ·refine U J<|O (.ref 0 4 0 0) J<|O (.ref 0 4 0 3) J<|O (q6 l) J<|U J<|O (qe (l == g)) J<|O (qe (l == g)) J<|q8 ?_
   obtain rfl:=qd t
   exact ⟨_,_,_,_,_,_,_,J⟩
  refine qa J<|qa J<|qa J<|qa J<|qa J<|qa J<|O (qe false) J<|q8 ?_
  obtain rfl:=qd t
  exact ⟨_,_,_,_,_,_,_,J⟩
 rintro _ ⟨v,w,x,y,z,aa,ab,rfl⟩
 obtain ⟨an,q,f⟩:=q7 f
 refine Q3 8 (fun A st=>∃ (ac ad ae af ag ah ai : V),st = A [(29,qe an),(28,ai),(27,ah),(26,ag),(25,af),(24,ae),(23,ad),(22,ac)]) ?_ ?_
 ·refine Q2 J J q (fun q=>?_) (fun q=>?_)
  ·refine U J<|O (.ref 0 4 0 0) J<|O (.ref 0 4 0 1) J<|O (.d (.sl 4 (m.map qx))) J<|U J ?_
   obtain ⟨aj,ao,q⟩:=q7 q
   refine qt (qun m h aj ao) J<|O (qe aj) J<|q8 ?_
   obtain rfl:=qd q
   exact ⟨_,_,_,_,_,_,_,J⟩
  refine qa J<|qa J<|qa J<|qa J<|qa J<|qa J<|O (qe false) J<|q8 ?_
  obtain rfl:=qd q
  exact ⟨_,_,_,_,_,_,_,J⟩
 rintro _ ⟨ac,ad,ae,af,ag,ah,ai,rfl⟩
 refine q8 ?_
 refine qm J f (fun _ f=>?_) (fun _ f=>?_)
 ·refine qf<|qb<|U J<|O (.ref 0 4 0 0) J<|O (.ref 0 4 0 2) J<|O (q6 p) J<|q9 J<|q8 ?_
  obtain ⟨ak,ap,f⟩:=q7 f
  refine Qh (fun s=>s = ak) (fun (s : List qg)=>⟨[(0,.ref 0 4 0 0),(2,q6 b)],[(0,.cel 4 [[.hs 1 6 0 s.length,.d (.sl 4 (m.map qx)),q6 p,q6 l]]),(1,.dat 6 (s.map qy))],2⟩) (by simp) ?_ ?_
  ·refine Q7 (q6f b) (fun (j : Int × List qg)=>⟨[(0,.ref 0 4 0 0),(2,q6 b),(8,q6 j.1)],[(0,.cel 4 [[.hs 1 6 0 j.2.length,.d (.sl 4 (m.map qx)),q6 p,q6 l]]),(1,.dat 6 (j.2.map qy))],2⟩) (p,c) ak ap (wkA [] [] []) ?_
   intro j ax n
   unfold q6f at n
   refine qf<|qb<|U J<|U J<|O (.ref 0 4 0 0) J<|O (.ref 0 4 0 0) J<|O (.hs 1 6 0 j.2.length) J<|O (q6 (j.2.length : Int)) J<|O (.d (.bool (decide (j.1 < (j.2.length : Int))))) J<|q8 ?_
   refine qm J n (fun _ n=>?_) (fun _ n=>?_)
   ·refine qn<|qf<|Q1<|qw<|U J<|O (.ref 0 4 0 0) J<|O (.ref 0 4 0 0) J<|O (.hs 1 6 0 j.2.length) J<|U J<|U J ?_
    obtain ⟨u,al,n⟩:=q7 n
    refine qq al J J<|O (.ref 1 6 j.1.toNat 3) J<|O (.ref 1 6 j.1.toNat 5) J<|Qk (ds:=[G b]) ({Lo:=u.Lo,Hi:=({X:=u.Hi.X,Y:=u.Hi.Y,Z:=b} : qj)} : qg) al J J J J J J J J (leb J) J<|qs<|Qc<|qw<|U J<|O (.d (G (w64 (j.1 + 1)))) J<|q9 J<|qs ?_
    exact ⟨_,(Option.some.inj n).symm,wkE [] [] [] J ⟨⟨_,J,.ref J (by decide) (ltd J)⟩,⟨_,J,.d (.refl _)⟩,⟨_,J,.d (.refl _)⟩,trivial⟩ ⟨⟨ltd J,.inr ⟨by decide,_,J,Uc (.cons (Qp (by simp) J (by decide) (ltd J)) J (.cons (.d (.refl _)) J (.cons (.d (.refl _)) J (.cons (.d (.refl _)) J .nil))))⟩⟩,⟨ltd J,.inr ⟨by decide,_,J,.dat _ _⟩⟩,trivial⟩⟩
   refine Q6 ?_
   refine ⟨_,(Option.some.inj n).symm,fun hm=>?_⟩
   subst hm
   exact ⟨_,J,wkA [] [] []⟩
  intro s hb
  subst hb
  refine qb<|U J<|U J<|O (.ref 0 4 0 0) J<|O (.ref 0 4 0 3) J<|Q8 0 (.cel 4 [[.hs 1 6 0 s.length,.d (.sl 4 (m.map qx)),q6 p,q6 b]]) J<|qr ?_
  obtain rfl:=qd f
  exact ⟨.inr J,_,J,wkA [(2,1)] [] []⟩
 refine qn<|qb<|U J<|U J<|U J<|U J<|O (.ref 0 4 0 0) J<|O (.ref 0 4 0 0) J<|O (.hs 1 6 0 c.length) J<|O (q6 (c.length : Int)) J<|U J<|U J<|O (.ref 0 4 0 0) J<|O (.ref 0 4 0 2) J<|Q8 0 (.cel 4 [[.hs 1 6 0 c.length,.d (.sl 4 (m.map qx)),q6 (c.length : Int),q6 l]]) J<|O (.ref 0 4 0 0) J<|O (.ref 0 4 0 1) J<|Q8 0 (.cel 4 [[.hs 1 6 0 c.length,.d (.sl 4 (h.map qx)),q6 (c.length : Int),q6 l]]) J<|O (.ref 0 4 0 0) J<|O (.ref 0 4 0 3) J<|Q8 0 (.cel 4 [[.hs 1 6 0 c.length,.d (.sl 4 (h.map qx)),q6 (c.length : Int),q6 b]]) J<|qp<|U J<|Qn J<|U J<|q8 ?_
 obtain ⟨aq,ar,f⟩:=q7 f
 refine Q1<|Q7 (q6g h g b c) (fun (o : Int × List qg)=>⟨[(0,.ref 0 4 0 0),(1,q6 g),(2,q6 b),(72,.d (.sl 4 (h.map qx))),(73,q6 (h.length : Int)),(74,q6 o.1)],[(0,.cel 4 [[.hs 2 6 0 o.2.length,.d (.sl 4 (h.map qx)),q6 (c.length : Int),q6 b]]),(2,.dat 6 (o.2.map qy))],3⟩) (0,c) aq ar (wkA [(2,1)] [] []) ?_
 intro o ay k
 unfold q6g at k
 refine qb<|O (.d (.bool (decide (o.1 < (h.length : Int))))) J<|q8<|qf ?_
 refine qm J k (fun _ k=>?_) (fun _ k=>?_)
 ·refine qn<|qf<|Q1<|qb ?_
  obtain ⟨a,au,k⟩:=q7 k
  refine Q9 (enc:=qx) au J<|O (.d (.agg [G a.X0,G a.Y0,G a.X1,G a.Y1])) J<|Qo J J<|Q8 3 (.dat 4 [[G a.X0,G a.Y0,G a.X1,G a.Y1]]) J<|q8<|Q5 [Qd 0,q0,q0,(some [2,4],[2,5]),(some [],[4]),q0,q0,q0,qo 3,q0,qo 3,q0,q0,q0,qo 3,q0,qo 3,q0,qo 0,q0,q0,q0,q0] (by kernel_rfl)<|U J<|U J<|O (.ref 0 4 0 0) J<|O (.ref 0 4 0 0) J<|O (.hs 2 6 0 o.2.length) J<|O (.ref 3 4 0 0) J<|O (q6 a.X0) J<|O (.ref 3 4 0 1) J<|O (q6 a.Y0) J<|U J<|O (.d (.agg [G a.X0,G a.Y0,G g])) J<|O (.ref 3 4 0 2) J<|O (q6 a.X1) J<|O (.ref 3 4 0 3) J<|O (q6 a.Y1) J<|U J<|O (.d (.agg [G a.X1,G a.Y1,G b])) J<|O (.d (.agg [G a.X0,G a.Y0,G g,G a.X1,G a.Y1,G b])) J<|Qg (.hs 4 6 0 [({Lo:=({X:=a.X0,Y:=a.Y0,Z:=g} : qj),Hi:=({X:=a.X1,Y:=a.Y1,Z:=b} : qj)} : qg)].length) (.dat 6 ([({Lo:=({X:=a.X0,Y:=a.Y0,Z:=g} : qj),Hi:=({X:=a.X1,Y:=a.Y1,Z:=b} : qj)} : qg)].map qy)) J ?_
  obtain ⟨av,aw,k⟩:=q7 k
  refine Kx (xs:=o.2) (ys:=[({Lo:=({X:=a.X0,Y:=a.Y0,Z:=g} : qj),Hi:=({X:=a.X1,Y:=a.Y1,Z:=b} : qj)} : qg)]) (enc:=qy) (.hs 4 6 0 [({Lo:=({X:=a.X0,Y:=a.Y0,Z:=g} : qj),Hi:=({X:=a.X1,Y:=a.Y1,Z:=b} : qj)} : qg)].length) aw J J J J J J J (Kv J J) J J J J<|O (.ref 0 4 0 0) J<|O (.ref 0 4 0 0) J<|Q8 0 (.cel 4 [[.hs 5 6 0 av.length,.d (.sl 4 (h.map qx)),q6 (c.length : Int),q6 b]]) J<|qs<|Qc<|qw<|O (.d (G (w64 (o.1 + 1)))) J<|U J<|qs ?_
  exact ⟨_,(Option.some.inj k).symm,wkA [(2,5)] [] []⟩
 refine Q6 ?_
 refine ⟨_,(Option.some.inj k).symm,fun hm=>?_⟩
 subst hm
 obtain rfl:=qd f
 exact ⟨.inl J,_,J,wkA [(2,2)] [] []⟩
theorem qkm (c : List qg) (r : List qg × Int) (o : q6k c = some r) : Pure Tryz.prog tab 53 [.agg [.nilf],.sl 1 ([c].map Kd)] (.tup [.sl 6 (r.1.map qy),G r.2]):=by
 unfold q6k at o
 refine Qb Tryz.func53 J (by kernel_rfl) (by kernel_rfl) J<|qb<|Qg (.ref 0 1 0 0) (.dat 1 [[.nilf]]) J<|Qo J J<|Qo J J<|qp<|Qo J J<|q8<|qf<|qb<|U J ?_
 obtain ⟨ar,m,o⟩:=q7 o
 refine qde [.d (.sl 1 ([c].map Kd))] (fun h=>h = ar) (fun (h : List Int)=>⟨[(2,.ref 0 1 0 0),(4,.ref 1 1 0 0),(5,.ref 2 1 0 0),(6,.ref 3 4 0 0),(14,.fn 112 [.ref 4 1 0 0,.ref 5 1 0 0])],[(0,.dat 1 [[.nilf]]),(1,.dat 1 [[.nilsl]]),(2,.dat 1 [[G 0]]),(3,.dat 4 [[.nilsl,.nilsl,G 0,G 0]]),(4,.cel 1 [[.d (.sl 1 (h.map (eI .i64)))]]),(5,.dat 1 [[.sl 1 ([c].map Kd)]])],6⟩) J J Tryz.func82 J (by kernel_rfl) (by kernel_rfl) J ?_ ?_
 ·refine qb<|Qg (.ref 4 1 0 0) (.dat 1 [[.sl 1 ([c].map Kd)]]) J<|q9 J<|qp<|Qo J J<|q8<|qf<|qb<|O (.d (.sl 1 ([c].map Kd))) J<|qdi 1 J J J J J<|U J<|q8<|Q1<|Ux<|qb<|O (qe true) J<|q8<|qf<|q5e J<|qn<|qf ?_
  obtain ⟨au,ad,m⟩:=q7 m
  refine Qh (fun n=>n = au) (fun (n : List Int)=>⟨[(1,.ref 4 1 0 0),(3,.ref 5 1 0 0),(8,.d (.sl 1 ([c].map Kd))),(9,q6 1),(10,q6 0)],[(0,.dat 1 [[.nilf]]),(1,.dat 1 [[.nilsl]]),(2,.dat 1 [[G 0]]),(3,.dat 4 [[.nilsl,.nilsl,G 0,G 0]]),(4,.dat 1 [[.sl 1 ([c].map Kd)]]),(5,.cel 1 [[.hs 6 1 0 n.length]]),(6,.dat 1 (n.map (eI .i64)))],7⟩) (by simp) ?_ ?_
  ·refine qb ?_
   obtain ⟨ae,av,ad⟩:=q7 ad
   refine Q9 (enc:=Kd) av J<|O (.d (.sl 6 (ae.map qy))) J<|q9 J<|qp<|U J<|Qn J<|U J<|q8 ?_
   obtain ⟨aw,ax,ad⟩:=q7 ad
   refine Q1<|Q7 (q3s ae) (fun (w : Int × List Int)=>⟨[(1,.ref 4 1 0 0),(3,.ref 5 1 0 0),(8,.d (.sl 1 ([c].map Kd))),(9,q6 1),(10,q6 0),(14,.d (.sl 6 (ae.map qy))),(15,q6 (ae.length : Int)),(16,q6 w.1)],[(0,.dat 1 [[.nilf]]),(1,.dat 1 [[.nilsl]]),(2,.dat 1 [[G 0]]),(3,.dat 4 [[.nilsl,.nilsl,G 0,G 0]]),(4,.dat 1 [[.sl 1 ([c].map Kd)]]),(5,.cel 1 [[.hs 6 1 0 w.2.length]]),(6,.dat 1 (w.2.map (eI .i64)))],7⟩) (0,[]) aw ax (wkA [(4,4),(5,5)] [] [6]) ?_
   intro w cb q
   unfold q3s at q
   refine qb<|O (.d (.bool (decide (w.1 < (ae.length : Int))))) J<|q8<|qf ?_
   refine qm J q (fun _ q=>?_) (fun _ q=>?_)
   ·refine qn<|qf<|Q1<|qb ?_
    obtain ⟨f,ay,q⟩:=q7 q
    refine Q9 (enc:=qy) ay J<|O (.d (.agg [G f.Lo.X,G f.Lo.Y,G f.Lo.Z,G f.Hi.X,G f.Hi.Y,G f.Hi.Z])) J<|Qo J J<|Q8 7 (.dat 6 [[G f.Lo.X,G f.Lo.Y,G f.Lo.Z,G f.Hi.X,G f.Hi.Y,G f.Hi.Z]]) J<|q8<|qw<|O (.hs 6 1 0 w.2.length) J<|O (.ref 7 6 0 0) J<|O (.ref 7 6 0 2) J<|O (q6 f.Lo.Z) J<|O (.ref 7 6 0 3) J<|O (.ref 7 6 0 5) J<|O (q6 f.Hi.Z) J<|Qg (.hs 8 1 0 [f.Lo.Z,f.Hi.Z].length) (.dat 1 ([f.Lo.Z,f.Hi.Z].map (eI .i64))) J ?_
    obtain ⟨az,ba,q⟩:=q7 q
    refine Kx (xs:=w.2) (ys:=[f.Lo.Z,f.Hi.Z]) (enc:=(eI .i64)) (.hs 8 1 0 [f.Lo.Z,f.Hi.Z].length) ba J J J J J J J (Kv J J) J J J J<|Q8 5 (.cel 1 [[.hs 9 1 0 az.length]]) J<|qs<|Qc<|qw<|O (.d (G (w64 (w.1 + 1)))) J<|U J<|qs ?_
    exact ⟨_,(Option.some.inj q).symm,wkA [(4,4),(5,5),(6,9)] [] []⟩
   refine Q6 ?_
   refine ⟨_,(Option.some.inj q).symm,fun hm=>?_⟩
   subst hm
   obtain rfl:=qd ad
   exact ⟨_,J,wkA [(4,4),(5,5),(6,6)] [] []⟩
  intro n hb
  subst hb
  refine qw<|O (q6 1) J<|U J<|q8<|Ux<|qb<|O (qe false) J<|q8<|qf<|U7 J<|Q6<|q2b<|qb<|O (.hs 6 1 0 n.length) J ?_
  obtain ⟨aj,bb,m⟩:=q7 m
  obtain ⟨cc,bc,m⟩:=q7 m
  have bd:=K7 bc
  refine Qw [(0,6)] [(0,1),(1,1),(2,1),(3,1),(4,1),(5,1),(6,0)] [.hs 6 1 0 n.length] (.d (.tup [])) 1 [(6,.dat 1 (aj.map (eI .i64))),(0,.dat 1 [[.nilf]]),(1,.dat 1 [[.nilsl]]),(2,.dat 1 [[G 0]]),(3,.dat 4 [[.nilsl,.nilsl,G 0,G 0]]),(4,.dat 1 [[.sl 1 ([c].map Kd)]]),(5,.cel 1 [[.hs 6 1 0 n.length]])] 7 (qk4 n aj bb)<|qp<|O (.hs 6 1 0 n.length) J ?_
  obtain ⟨aa,be,m⟩:=q7 m
  obtain ⟨cd,bf,m⟩:=q7 m
  have ce:=K7 bf
  obtain ⟨cf,bg,m⟩:=q7 m
  have bh:=qln bg
  refine U3 [(0,6)] [(0,1),(1,1),(2,1),(3,1),(4,1),(5,1),(6,0)] [.hs 6 1 0 n.length] (.hs 6 1 aa.1.1 aa.1.2) [(6,.dat 1 (aa.2.map (eI .i64)))] [(6,.dat 1 (aa.2.map (eI .i64))),(0,.dat 1 [[.nilf]]),(1,.dat 1 [[.nilsl]]),(2,.dat 1 [[G 0]]),(3,.dat 4 [[.nilsl,.nilsl,G 0,G 0]]),(4,.dat 1 [[.sl 1 ([c].map Kd)]]),(5,.cel 1 [[.hs 6 1 0 n.length]])] 7 (qk2 aj aa be) J J J (Y7 [(0,6)] [] [] J ⟨⟨_,J,Qp (by simp [bd]) J (by decide) (ltd J)⟩,trivial⟩ ⟨⟨ltd J,.inr ⟨by decide,_,J,.dat _ _⟩⟩,trivial⟩) (Y7 [(0,1),(1,1),(2,1),(3,1),(4,1),(5,1),(6,0)] [] [] J ⟨⟨_,J,.hs J (by decide) (ltd J)⟩,trivial⟩ ⟨⟨ltd J,.inr ⟨by decide,_,J,.dat _ _⟩⟩,trivial⟩) J ⟨.inl J,.inr ⟨J,J⟩,.inr ⟨J,J⟩,.inr ⟨J,J⟩,.inr ⟨J,J⟩,.inr ⟨J,J⟩,.inr ⟨J,J⟩,trivial⟩<|Q8 5 (.cel 1 [[.hs 6 1 aa.1.1 aa.1.2]]) J<|qp<|O (.fn 112 [.ref 5 1 0 0,.ref 4 1 0 0]) J<|q9 J<|qr ?_
  refine ⟨.inr J,_,J,?_⟩
  obtain rfl:=qd m
  exact ⟨_,J,wkE [(0,0),(1,1),(2,2),(3,3),(4,5),(5,4)] [6] [] J ⟨⟨_,J,.ref J (by decide) (ltd J)⟩,⟨_,J,.ref J (by decide) (ltd J)⟩,⟨_,J,.ref J (by decide) (ltd J)⟩,⟨_,J,.ref J (by decide) (ltd J)⟩,⟨_,J,(q41 (.cons (.ref J (by decide) (ltd J)) (.cons (.ref J (by decide) (ltd J)) .nil)))⟩,trivial⟩ ⟨⟨ltd J,.inr ⟨by decide,_,J,.dat _ _⟩⟩,⟨ltd J,.inr ⟨by decide,_,J,.dat _ _⟩⟩,⟨ltd J,.inr ⟨by decide,_,J,.dat _ _⟩⟩,⟨ltd J,.inr ⟨by decide,_,J,.dat _ _⟩⟩,⟨ltd J,.inr ⟨by decide,_,J,Uc (.cons (qlr bh J (by decide)) J .nil)⟩⟩,⟨ltd J,.inr ⟨by decide,_,J,.dat _ _⟩⟩,trivial⟩⟩
 intro h hb
 subst hb
 refine q8<|Q1 ?_
 obtain ⟨bi,ai,o⟩:=q7 o
 refine qdx (fun k=>.inl k = bi) (fun (k : List qi × Int × Int × List qg)=>⟨[(4,.ref 0 1 0 0),(5,.ref 1 1 0 0),(6,.ref 2 4 0 0)],[(0,.dat 1 [[.nilsl]]),(1,.dat 1 [[G 0]]),(2,.cel 4 [[.hs 3 6 0 k.2.2.2.length,.d (.sl 4 (k.1.map qx)),q6 k.2.1,q6 k.2.2.1]]),(3,.dat 6 (k.2.2.2.map qy))],4⟩) ?_ ?_
 ·refine Yr (st':=⟨[(2,.ref 0 1 0 0),(4,.ref 1 1 0 0),(5,.ref 2 1 0 0),(6,.ref 3 4 0 0),(14,.fn 112 [.ref 4 1 0 0,.ref 5 1 0 0])],[(0,.dat 1 [[.nilf]]),(1,.dat 1 [[.nilsl]]),(2,.dat 1 [[G 0]]),(3,.dat 4 [[.nilsl,.nilsl,G 0,G 0]]),(4,.cel 1 [[.d (.sl 1 (h.map (eI .i64)))]]),(5,.dat 1 [[.sl 1 ([c].map Kd)]])],6⟩) (wkA [(0,0),(1,1),(2,2),(3,3),(4,4),(5,5)] [] []) ?_ (by simp)
  refine qdy [.ref 4 1 0 0,.ref 5 1 0 0] (.inl J) Tryz.func112 J (by kernel_rfl) (by kernel_rfl) J ?_
  intro A879 B880 hA879 hB880
  refine qb<|q9 J<|q8 ?_
  obtain ⟨bj,bk,ai⟩:=q7 ai
  refine Q1<|Q7 (q3t h c) (fun (b : Int × List qi × Int × Int × List qg)=>⟨[(0,.yld 6),(1,.ref 4 1 0 0),(2,.ref 5 1 0 0),(4,q6 b.1)],[(0,.dat 1 [[.nilf]]),(1,.dat 1 [[.nilsl]]),(2,.dat 1 [[G 0]]),(3,.cel 4 [[.hs 7 6 0 b.2.2.2.2.length,.d (.sl 4 (b.2.1.map qx)),q6 b.2.2.1,q6 b.2.2.2.1]]),(4,.cel 1 [[.d (.sl 1 (h.map (eI .i64)))]]),(5,.dat 1 [[.sl 1 ([c].map Kd)]]),(6,.loop [(2,.ref 0 1 0 0),(4,.ref 1 1 0 0),(5,.ref 2 1 0 0),(6,.ref 3 4 0 0),(14,.fn 112 [.ref 4 1 0 0,.ref 5 1 0 0])] [15] A879 B880 .ready none),(7,.dat 6 (b.2.2.2.2.map qy))],8⟩) (1,[],0,0,[]) bj bk (wkA [] [] [7]) ?_
  intro b cg j
  unfold q3t at j
  refine qf<|qb<|U J<|O (.d (.sl 1 (h.map (eI .i64)))) J<|Qn J<|O (.d (.bool (decide (b.1 < (h.length : Int))))) J<|q8 ?_
  refine qm J j (fun _ j=>?_) (fun _ j=>?_)
  ·refine qn<|qf<|Q1<|qf<|Q5 [Qd 9,(some [],[9]),q0,(some [],[8]),q0,qo 5,q0,q0,q0,qo 4,q0,q0,q0,q0,qo 4] (by kernel_rfl)<|O (.d (.sl 1 (h.map (eI .i64)))) J<|U J<|O (.d (G (w64 (b.1 - 1)))) J ?_
   obtain ⟨g,bl,j⟩:=q7 j
   refine Q9 (enc:=(eI .i64)) bl J<|O (q6 g) J<|O (.d (.sl 1 (h.map (eI .i64)))) J<|U J ?_
   obtain ⟨l,bm,j⟩:=q7 j
   refine Q9 (enc:=(eI .i64)) bm J<|O (q6 l) J<|O (.d (.sl 1 ([c].map Kd))) J<|qdi 1 J J J J J<|Qg (.hs 8 1 0 1) (.dat 1 [[.nilsl]]) J<|O (.agg [q6 g,q6 l,.hs 8 1 0 1]) J<|Qo J J<|Q8 9 (.cel 3 [[q6 g,q6 l,.hs 8 1 0 1]]) J<|q8<|qf<|qb<|O (.d (.sl 1 ([c].map Kd))) J<|qdi 1 J J J J J<|U J<|q8<|Q1<|Ux<|qb<|O (qe true) J<|q8<|qf<|q5e J<|qn<|qf ?_
   obtain ⟨bn,af,j⟩:=q7 j
   refine Qh (fun s=>s = bn) (fun (s : List qi)=>⟨[(0,.yld 6),(1,.ref 4 1 0 0),(2,.ref 5 1 0 0),(4,q6 b.1),(5,.ref 7 3 0 0),(29,.d (.sl 1 ([c].map Kd))),(30,q6 1),(31,q6 0)],[(0,.dat 1 [[.nilf]]),(1,.dat 1 [[.nilsl]]),(2,.dat 1 [[G 0]]),(3,.cel 4 [[.hs 8 6 0 b.2.2.2.2.length,.d (.sl 4 (b.2.1.map qx)),q6 b.2.2.1,q6 b.2.2.2.1]]),(4,.cel 1 [[.d (.sl 1 (h.map (eI .i64)))]]),(5,.dat 1 [[.sl 1 ([c].map Kd)]]),(6,.loop [(2,.ref 0 1 0 0),(4,.ref 1 1 0 0),(5,.ref 2 1 0 0),(6,.ref 3 4 0 0),(14,.fn 112 [.ref 4 1 0 0,.ref 5 1 0 0])] [15] A879 B880 .ready none),(7,.cel 3 [[q6 g,q6 l,.hs 9 1 0 1]]),(8,.dat 6 (b.2.2.2.2.map qy)),(9,.cel 1 [[.hs 10 4 0 s.length]]),(10,.dat 4 (s.map qx))],11⟩) (by simp) ?_ ?_
   ·refine qb<|U J ?_
    obtain ⟨ab,bo,af⟩:=q7 af
    refine Q9 (enc:=Kd) bo J<|O (.d (.sl 6 (ab.map qy))) J<|q9 J<|q9 J<|qp<|U J<|Qn J<|U J<|q8 ?_
    obtain ⟨bp,bq,af⟩:=q7 af
    refine Q1<|Q7 (q3u ab g) (fun (t : Int × List qi)=>⟨[(0,.yld 6),(1,.ref 4 1 0 0),(2,.ref 5 1 0 0),(4,q6 b.1),(5,.ref 7 3 0 0),(6,q6 0),(29,.d (.sl 1 ([c].map Kd))),(30,q6 1),(31,q6 0),(36,.d (.sl 6 (ab.map qy))),(37,q6 (ab.length : Int)),(38,q6 t.1)],[(0,.dat 1 [[.nilf]]),(1,.dat 1 [[.nilsl]]),(2,.dat 1 [[G 0]]),(3,.cel 4 [[.hs 8 6 0 b.2.2.2.2.length,.d (.sl 4 (b.2.1.map qx)),q6 b.2.2.1,q6 b.2.2.2.1]]),(4,.cel 1 [[.d (.sl 1 (h.map (eI .i64)))]]),(5,.dat 1 [[.sl 1 ([c].map Kd)]]),(6,.loop [(2,.ref 0 1 0 0),(4,.ref 1 1 0 0),(5,.ref 2 1 0 0),(6,.ref 3 4 0 0),(14,.fn 112 [.ref 4 1 0 0,.ref 5 1 0 0])] [15] A879 B880 .ready none),(7,.cel 3 [[q6 g,q6 l,.hs 9 1 0 1]]),(8,.dat 6 (b.2.2.2.2.map qy)),(9,.cel 1 [[.hs 10 4 0 t.2.length]]),(10,.dat 4 (t.2.map qx))],11⟩) (0,[]) bp bq (wkA [(7,9),(8,7),(9,8)] [] [10]) ?_
    intro t ch x
    unfold q3u at x
    refine qb<|O (.d (.bool (decide (t.1 < (ab.length : Int))))) J<|q8<|qf ?_
    refine qm J x (fun _ x=>?_) (fun _ x=>?_)
    ·refine qn<|qf ?_
     obtain ⟨br,p,x⟩:=q7 x
     refine Qh (fun ag=>ag = br) (fun (ag : List qi)=>⟨[(0,.yld 6),(1,.ref 4 1 0 0),(2,.ref 5 1 0 0),(4,q6 b.1),(5,.ref 7 3 0 0),(6,q6 0),(29,.d (.sl 1 ([c].map Kd))),(30,q6 1),(31,q6 0),(36,.d (.sl 6 (ab.map qy))),(37,q6 (ab.length : Int)),(38,q6 t.1)],[(0,.dat 1 [[.nilf]]),(1,.dat 1 [[.nilsl]]),(2,.dat 1 [[G 0]]),(3,.cel 4 [[.hs 8 6 0 b.2.2.2.2.length,.d (.sl 4 (b.2.1.map qx)),q6 b.2.2.1,q6 b.2.2.2.1]]),(4,.cel 1 [[.d (.sl 1 (h.map (eI .i64)))]]),(5,.dat 1 [[.sl 1 ([c].map Kd)]]),(6,.loop [(2,.ref 0 1 0 0),(4,.ref 1 1 0 0),(5,.ref 2 1 0 0),(6,.ref 3 4 0 0),(14,.fn 112 [.ref 4 1 0 0,.ref 5 1 0 0])] [15] A879 B880 .ready none),(7,.cel 3 [[q6 g,q6 l,.hs 9 1 0 1]]),(8,.dat 6 (b.2.2.2.2.map qy)),(9,.cel 1 [[.hs 10 4 0 ag.length]]),(10,.dat 4 (ag.map qx))],11⟩) (by simp) ?_ ?_
     ·refine qb ?_
      obtain ⟨a,bs,p⟩:=q7 p
      refine Q9 (enc:=qy) bs J<|O (.d (.agg [G a.Lo.X,G a.Lo.Y,G a.Lo.Z,G a.Hi.X,G a.Hi.Y,G a.Hi.Z])) J<|Qo J J<|Q8 11 (.dat 6 [[G a.Lo.X,G a.Lo.Y,G a.Lo.Z,G a.Hi.X,G a.Hi.Y,G a.Hi.Z]]) J<|qp<|O (.ref 11 6 0 0) J<|O (.ref 11 6 0 2) J<|O (q6 a.Lo.Z) J<|O (.ref 7 3 0 0) J<|O (q6 g) J<|O (.d (.bool (decide (a.Lo.Z≤g)))) J ?_
      obtain ⟨bt,ah,p⟩:=q7 p
      refine Q3 8 (fun A st=>∃ (ak al am an ao ap aq : V),st = A [(55,qe bt),(54,aq),(53,ap),(52,ao),(51,an),(50,am),(49,al),(48,ak)]) ?_ ?_
      ·refine Q2 J J ah (fun ah=>?_) (fun ah=>?_)
       ·refine O (.ref 7 3 0 0) J<|O (q6 g) J<|O (.ref 11 6 0 3) J<|O (.ref 11 6 0 5) J<|O (q6 a.Hi.Z) J<|O (.d (.bool (decide (g < a.Hi.Z)))) J<|O (.d (.bool (decide (g < a.Hi.Z)))) J<|q8 ?_
        obtain rfl:=qd ah
        exact ⟨_,_,_,_,_,_,_,J⟩
       refine qa J<|qa J<|qa J<|qa J<|qa J<|qa J<|O (qe false) J<|q8 ?_
       obtain rfl:=qd ah
       exact ⟨_,_,_,_,_,_,_,J⟩
      rintro _ ⟨ak,al,am,an,ao,ap,aq,rfl⟩
      refine q8 ?_
      refine qm J p (fun _ p=>?_) (fun _ p=>?_)
      ·refine Q5 [Qd 9,q0,(some [10,12],[10,13]),(some [],[12]),q0,qo 11,q0,q0,qo 11,q0,q0,qo 11,q0,q0,qo 11,q0,q0,qo 9,q0,q0,qo 7,q0,q0,qo 7,q0] (by kernel_rfl)<|O (.ref 7 3 0 2) J<|O (.hs 9 1 0 1) J<|U J<|O (.ref 7 3 0 2) J<|O (.hs 9 1 0 1) J<|U J<|O (.ref 9 1 0 0) J<|O (.hs 10 4 0 t.2.length) J<|O (.ref 11 6 0 0) J<|O (.ref 11 6 0 0) J<|O (q6 a.Lo.X) J<|O (.ref 11 6 0 0) J<|O (.ref 11 6 0 1) J<|O (q6 a.Lo.Y) J<|O (.ref 11 6 0 3) J<|O (.ref 11 6 0 3) J<|O (q6 a.Hi.X) J<|O (.ref 11 6 0 3) J<|O (.ref 11 6 0 4) J<|O (q6 a.Hi.Y) J<|O (.d (.agg [G a.Lo.X,G a.Lo.Y,G a.Hi.X,G a.Hi.Y])) J<|Qg (.hs 12 4 0 [({X0:=a.Lo.X,Y0:=a.Lo.Y,X1:=a.Hi.X,Y1:=a.Hi.Y} : qi)].length) (.dat 4 ([({X0:=a.Lo.X,Y0:=a.Lo.Y,X1:=a.Hi.X,Y1:=a.Hi.Y} : qi)].map qx)) J ?_
       obtain ⟨bu,bv,p⟩:=q7 p
       refine Kx (xs:=t.2) (ys:=[({X0:=a.Lo.X,Y0:=a.Lo.Y,X1:=a.Hi.X,Y1:=a.Hi.Y} : qi)]) (enc:=qx) (.hs 12 4 0 [({X0:=a.Lo.X,Y0:=a.Lo.Y,X1:=a.Hi.X,Y1:=a.Hi.Y} : qi)].length) bv J J J J J J J (Kv J J) J J J J<|O (.ref 9 1 0 0) J<|Q8 9 (.cel 1 [[.hs 13 4 0 bu.length]]) J<|qs ?_
       obtain rfl:=qd p
       exact ⟨_,J,wkA [(7,7),(8,8),(9,9),(10,13)] [] []⟩
      refine qn<|Qa ?_
      obtain rfl:=qd p
      exact ⟨_,J,wkA [(7,7),(8,8),(9,9),(10,10)] [] []⟩
     intro ag hb
     subst hb
     refine qw<|O (.d (G (w64 (t.1 + 1)))) J<|U J<|qs ?_
     exact ⟨_,(Option.some.inj x).symm,wkA [(7,7),(8,8),(9,9),(10,10)] [] []⟩
    refine Q6 ?_
    refine ⟨_,(Option.some.inj x).symm,fun hm=>?_⟩
    subst hm
    obtain rfl:=qd af
    exact ⟨_,J,wkA [(7,7),(8,8),(9,9),(10,10)] [] []⟩
   intro s hb
   subst hb
   refine qw<|O (q6 1) J<|U J<|q8<|Ux<|qb<|O (qe false) J<|q8<|qf<|U7 J<|Q6<|q2b<|qf ?_
   refine Yr (st':=⟨[(0,.yld 6),(1,.ref 4 1 0 0),(2,.ref 5 1 0 0),(4,q6 b.1),(5,.ref 7 3 0 0)],[(0,.dat 1 [[.nilf]]),(1,.dat 1 [[.nilsl]]),(2,.dat 1 [[G 0]]),(3,.cel 4 [[.hs 8 6 0 b.2.2.2.2.length,.d (.sl 4 (b.2.1.map qx)),q6 b.2.2.1,q6 b.2.2.2.1]]),(4,.cel 1 [[.d (.sl 1 (h.map (eI .i64)))]]),(5,.dat 1 [[.sl 1 ([c].map Kd)]]),(6,.loop [(2,.ref 0 1 0 0),(4,.ref 1 1 0 0),(5,.ref 2 1 0 0),(6,.ref 3 4 0 0),(14,.fn 112 [.ref 4 1 0 0,.ref 5 1 0 0])] [15] A879 B880 .ready none),(7,.cel 3 [[q6 g,q6 l,.hs 9 1 0 1]]),(8,.dat 6 (b.2.2.2.2.map qy)),(9,.cel 1 [[.d (.sl 4 (s.map qx))]])],10⟩) (wkA [(7,7),(8,8),(9,9)] [10] []) ?_ (by simp)
   refine qw<|U J<|O (.agg [q6 g,q6 l,.hs 9 1 0 1]) J ?_
   obtain ⟨bw,u,j⟩:=q7 j
   refine qdk (fun y=>.inl y = bw) (fun (y : List qi × Int × Int × List qg)=>⟨[(0,.yld 6),(1,.ref 4 1 0 0),(2,.ref 5 1 0 0),(4,q6 b.1),(84,qe true)],[(0,.dat 1 [[.nilf]]),(1,.dat 1 [[.nilsl]]),(2,.dat 1 [[G 0]]),(3,.cel 4 [[.hs 7 6 0 y.2.2.2.length,.d (.sl 4 (y.1.map qx)),q6 y.2.1,q6 y.2.2.1]]),(4,.cel 1 [[.d (.sl 1 (h.map (eI .i64)))]]),(5,.dat 1 [[.sl 1 ([c].map Kd)]]),(6,.loop [(2,.ref 0 1 0 0),(4,.ref 1 1 0 0),(5,.ref 2 1 0 0),(6,.ref 3 4 0 0),(14,.fn 112 [.ref 4 1 0 0,.ref 5 1 0 0])] [15] A879 B880 .ready none),(7,.dat 6 (y.2.2.2.map qy))],8⟩) hA879 hB880 J J J J J J ?_ ?_
   ·refine qw<|Qo J J<|Q8 10 (.cel 3 [[q6 g,q6 l,.hs 9 1 0 1]]) J<|qs ?_
    refine ⟨J,_,J,?_⟩
    refine Q1<|qb<|O (.ref 10 3 0 2) J<|O (.hs 9 1 0 1) J<|O (.ref 9 1 0 0) J<|O (.d (.sl 4 (s.map qx))) J ?_
    obtain ⟨z,bz,u⟩:=q7 u
    refine qt (qss s z bz) J<|U J<|O (.d (.sl 4 (z.1.map qx))) J<|O (q6 z.2) J<|q9 J<|q9 J<|q8<|qf<|qb<|O (.ref 10 3 0 2) J<|O (.hs 9 1 0 1) J<|O (.hs 9 1 1 0) J<|O (q6 0) J<|U J<|q8<|Q1<|Ux<|qb<|O (qe false) J<|q8<|qf<|U7 J<|Q6<|q2b<|qf<|qb<|U J<|O (qe (z.2 != 0)) J<|q8 ?_
    refine qm J u (fun _ u=>?_) (fun _ u=>?_)
    ·refine qb<|U J<|Q8 1 (.dat 1 [[.nilsl]]) J<|Q8 2 (.dat 1 [[G z.2]]) J<|qr ?_
     obtain rfl:=qd u
     refine ⟨_,J,?_⟩
     refine O (qe true) J<|q8<|q5e J<|q39 ?_
     refine ⟨_,(Option.some.inj j).symm,fun hm=>?_⟩
     subst hm
     refine ⟨.inr J,_,J,_,_,.ret,J,by decide,?_⟩
     refine qly ?_
     obtain rfl:=qd ai
     obtain rfl:=qd o
     exact finD (.inr J) (v:=.d (.tup [.nilsl,G z.2])) J J (Zv (.cons (.nil _) (.cons (.refl _) .nil)))
    refine qn<|qw<|O (.ref 10 3 0 0) J<|O (q6 g) J<|O (.ref 10 3 0 1) J<|O (q6 l) J<|U J ?_
    obtain ⟨ac,ca,u⟩:=q7 u
    refine Qw [(0,3),(1,8)] [(0,3),(1,3),(2,3),(3,0),(4,3),(5,3),(6,3),(7,3),(8,1),(9,3),(10,3),(11,2)] [.ref 3 4 0 0,q6 g,q6 l,.d (.sl 4 (z.1.map qx))] (.d (.tup [])) 2 [(3,.cel 4 [[.hs 11 6 0 ac.2.2.2.length,.d (.sl 4 (ac.1.map qx)),q6 ac.2.1,q6 ac.2.2.1]]),(11,.dat 6 (ac.2.2.2.map qy)),(0,.dat 1 [[.nilf]]),(1,.dat 1 [[.nilsl]]),(2,.dat 1 [[G 0]]),(4,.cel 1 [[.d (.sl 1 (h.map (eI .i64)))]]),(5,.dat 1 [[.sl 1 ([c].map Kd)]]),(6,.loop [(2,.ref 0 1 0 0),(4,.ref 1 1 0 0),(5,.ref 2 1 0 0),(6,.ref 3 4 0 0),(14,.fn 112 [.ref 4 1 0 0,.ref 5 1 0 0])] [15] A879 B880 .busy none),(7,.cel 3 [[q6 g,q6 l,.hs 9 1 0 1]]),(9,.cel 1 [[.d (.sl 4 (s.map qx))]]),(10,.cel 3 [[q6 g,q6 l,.hs 9 1 0 1]])] 12 (qxn b.2.2.2.2 b.2.1 b.2.2.1 b.2.2.2.1 g l z.1 ac ca)<|qs<|Qc<|Qa ?_
    refine ⟨_,J,?_⟩
    obtain rfl:=qd u
    exact ⟨_,J,wkA [(7,11)] [] []⟩
   intro y hb
   subst hb
   refine O (qe false) J<|q8<|U7 J<|qn<|Qa<|Qc<|qw<|U J<|O (.d (G (w64 (b.1 + 1)))) J<|q9 J<|qs ?_
   exact ⟨_,(Option.some.inj j).symm,wkA [(7,7)] [] []⟩
  refine Q6 ?_
  refine ⟨_,(Option.some.inj j).symm,fun hm=>?_⟩
  subst hm
  refine ⟨.inl J,_,J,_,_,.nor,J,by decide,?_⟩
  refine qbr<|Qa ?_
  obtain rfl:=qd ai
  exact ⟨_,J,wkA [(0,1),(1,2),(2,3),(3,7)] [] []⟩
 intro k st hb hw
 subst hb
 refine Yr hw ?_ (by simp)
 refine qf<|qb<|O (.ref 2 4 0 0) J<|O (.hs 3 6 0 k.2.2.2.length) J<|O (q6 (k.2.2.2.length : Int)) J<|O (.d (.bool (decide ((k.2.2.2.length : Int) > 400)))) J<|q8 ?_
 refine qm J o (fun _ o=>?_) (fun _ o=>?_)
 ·refine qb<|Q8 0 (.dat 1 [[.nilsl]]) J<|Q8 1 (.dat 1 [[G 4]]) J<|qr ?_
  obtain rfl:=qd o
  exact finD (.inr J) (v:=.d (.tup [.nilsl,G 4])) J J (Zv (.cons (.nil _) (.cons (.refl _) .nil)))
 refine qn<|qb<|O (.ref 2 4 0 0) J<|O (.hs 3 6 0 k.2.2.2.length) J<|Q8 0 (.cel 1 [[.hs 3 6 0 k.2.2.2.length]]) J<|Q8 1 (.dat 1 [[G 0]]) J<|qr ?_
 obtain rfl:=qd o
 exact finD (.inr J) (v:=.tup [.hs 3 6 0 k.2.2.2.length,q6 0]) J (qet (q2q (J2 J J) (q2q J J))) (.refl _)
theorem qkf (b : List qg) (r : List qg × Int) (a : q6d b = some r) : Pure Tryz.prog tab 14 [.sl 6 (b.map qy)] (.tup [.sl 6 (r.1.map qy),G r.2]):=by
 unfold q6d at a
 refine Qb Tryz.func14 J (by kernel_rfl) (by kernel_rfl) J<|qb<|q9 J<|q9 J<|q8<|qf<|qb<|U J<|Qn J<|O (.d (.bool (decide ((b.length : Int) > 400)))) J<|q8 ?_
 refine qm J a (fun _ a=>?_) (fun _ a=>?_)
 ·refine qb<|q9 J<|q9 J<|qr ?_
  obtain rfl:=qd a
  exact finD (.inr J) (v:=.d (.tup [.nilsl,G 4])) J J (Zv (.cons (.nil _) (.cons (.refl _) .nil)))
 refine qn<|qf<|qb<|U J ?_
 obtain ⟨g,h,a⟩:=q7 a
 refine qt (quk b (fun f=>q24 f) 51 [] (fun f r hr=>qxl f r hr) g h) J<|q8 ?_
 refine qm J a (fun _ a=>?_) (fun _ a=>?_)
 ·refine qb<|q9 J<|q9 J<|qr ?_
  obtain rfl:=qd a
  exact finD (.inr J) (v:=.d (.tup [.nilsl,G 8])) J J (Zv (.cons (.nil _) (.cons (.refl _) .nil)))
 refine qn<|qb<|O (.d (.agg [.nilf])) J<|U J<|qdf (es:=1) ([b].map Kd) J J J J J ?_
 obtain ⟨c,j,a⟩:=q7 a
 refine qt (qkm b c j) J<|O (.d (.sl 6 (c.1.map qy))) J<|O (q6 c.2) J<|q9 J<|q9 J<|qr ?_
 obtain rfl:=qd a
 exact qz (.d (.tup [.sl 6 (c.1.map qy),G c.2])) J
theorem q7p (a : qj) (c : Int) (r : Bool) (b : Jj a c = some r) : Pure Tryz.prog tab 73 [.agg [G a.X,G a.Y,G a.Z],G c] (.bool r):=by
 unfold Jj at b
 refine Qb Tryz.func73 J (by kernel_rfl) (by kernel_rfl) J<|qb<|Qg (.ref 0 3 0 0) (.dat 3 [[G a.X,G a.Y,G a.Z]]) J<|q9 J<|qp<|O (.ref 0 3 0 0) J<|O (q6 a.X) J<|U J<|O (.d (.bool (decide (a.X ≥ c)))) J ?_
 obtain ⟨c1,f,b⟩:=q7 b
 refine Q3 6 (fun A st=>∃ (l m n o p : V),st = A [(14,qe c1),(13,p),(12,o),(11,n),(10,m),(9,l)]) ?_ ?_
 ·refine Q2 J J f (fun f=>?_) (fun f=>?_)
  ·refine O (.ref 0 3 0 1) J<|O (q6 a.Y) J<|U J<|O (.d (.bool (decide (a.Y ≥ c)))) J<|O (.d (.bool (decide (a.Y ≥ c)))) J<|q8 ?_
   obtain rfl:=qd f
   exact ⟨_,_,_,_,_,J⟩
  refine qa J<|qa J<|qa J<|qa J<|O (qe false) J<|q8 ?_
  obtain rfl:=qd f
  exact ⟨_,_,_,_,_,J⟩
 rintro _ ⟨l,m,n,o,p,rfl⟩
 obtain ⟨c8,g,b⟩:=q7 b
 refine Q3 6 (fun A st=>∃ (q s t u v : V),st = A [(20,qe c8),(19,v),(18,u),(17,t),(16,s),(15,q)]) ?_ ?_
 ·refine Q2 J J g (fun g=>?_) (fun g=>?_)
  ·refine O (.ref 0 3 0 2) J<|O (q6 a.Z) J<|U J<|O (.d (.bool (decide (a.Z ≥ c)))) J<|O (.d (.bool (decide (a.Z ≥ c)))) J<|q8 ?_
   obtain rfl:=qd g
   exact ⟨_,_,_,_,_,J⟩
  refine qa J<|qa J<|qa J<|qa J<|O (qe false) J<|q8 ?_
  obtain rfl:=qd g
  exact ⟨_,_,_,_,_,J⟩
 rintro _ ⟨q,s,t,u,v,rfl⟩
 obtain ⟨al,h,b⟩:=q7 b
 refine Q3 5 (fun A st=>∃ (w x y z : V),st = A [(25,qe al),(24,z),(23,y),(22,x),(21,w)]) ?_ ?_
 ·refine Q2 J J h (fun h=>?_) (fun h=>?_)
  ·refine O (.ref 0 3 0 0) J<|O (q6 a.X) J<|O (.d (.bool (decide (a.X≤1000000)))) J<|O (.d (.bool (decide (a.X≤1000000)))) J<|q8 ?_
   obtain rfl:=qd h
   exact ⟨_,_,_,_,J⟩
  refine qa J<|qa J<|qa J<|O (qe false) J<|q8 ?_
  obtain rfl:=qd h
  exact ⟨_,_,_,_,J⟩
 rintro _ ⟨w,x,y,z,rfl⟩
 obtain ⟨am,j,b⟩:=q7 b
 refine Q3 5 (fun A st=>∃ (aa ab ac ad : V),st = A [(30,qe am),(29,ad),(28,ac),(27,ab),(26,aa)]) ?_ ?_
 ·refine Q2 J J j (fun j=>?_) (fun j=>?_)
  ·refine O (.ref 0 3 0 1) J<|O (q6 a.Y) J<|O (.d (.bool (decide (a.Y≤1000000)))) J<|O (.d (.bool (decide (a.Y≤1000000)))) J<|q8 ?_
   obtain rfl:=qd j
   exact ⟨_,_,_,_,J⟩
  refine qa J<|qa J<|qa J<|O (qe false) J<|q8 ?_
  obtain rfl:=qd j
  exact ⟨_,_,_,_,J⟩
 rintro _ ⟨aa,ab,ac,ad,rfl⟩
 obtain ⟨ae,k,b⟩:=q7 b
 refine Q3 5 (fun A st=>∃ (af ag ah ai : V),st = A [(35,qe ae),(34,ai),(33,ah),(32,ag),(31,af)]) ?_ ?_
 ·refine Q2 J J k (fun k=>?_) (fun k=>?_)
  ·refine O (.ref 0 3 0 2) J<|O (q6 a.Z) J<|O (.d (.bool (decide (a.Z≤1000000)))) J<|O (.d (.bool (decide (a.Z≤1000000)))) J<|q8 ?_
   obtain rfl:=qd k
   exact ⟨_,_,_,_,J⟩
  refine qa J<|qa J<|qa J<|O (qe false) J<|q8 ?_
  obtain rfl:=qd k
  exact ⟨_,_,_,_,J⟩
 rintro _ ⟨af,ag,ah,ai,rfl⟩
 refine q9 J<|qr ?_
 obtain rfl:=qd b
 exact qz (qe ae) J
theorem qsn (a : qg) (r : Bool) (b : q7u a = some r) : Pure Tryz.prog tab 54 [.agg [G a.Lo.X,G a.Lo.Y,G a.Lo.Z,G a.Hi.X,G a.Hi.Y,G a.Hi.Z]] (.bool r):=by
 unfold q7u at b
 refine Qb Tryz.func54 J (by kernel_rfl) (by kernel_rfl) J<|qb<|Qg (.ref 0 6 0 0) (.dat 6 [[G a.Lo.X,G a.Lo.Y,G a.Lo.Z,G a.Hi.X,G a.Hi.Y,G a.Hi.Z]]) J<|q9 J<|qp<|O (.ref 0 6 0 0) J<|O (.d (.agg [G a.Lo.X,G a.Lo.Y,G a.Lo.Z])) J ?_
 obtain ⟨r1,h2,b⟩:=q7 b
 refine qt (q7p a.Lo (-1000000) r1 h2) J ?_
 obtain ⟨c5,c,b⟩:=q7 b
 refine Q3 5 (fun A st=>∃ (j k l m : V),st = A [(11,qe c5),(10,m),(9,l),(8,k),(7,j)]) ?_ ?_
 ·refine Q2 J J c (fun c=>?_) (fun c=>?_)
  ·refine O (.ref 0 6 0 3) J<|O (.d (.agg [G a.Hi.X,G a.Hi.Y,G a.Hi.Z])) J ?_
   obtain ⟨n,ar,c⟩:=q7 c
   refine qt (q7p a.Hi (-1000000) n ar) J<|O (qe n) J<|q8 ?_
   obtain rfl:=qd c
   exact ⟨_,_,_,_,J⟩
  refine qa J<|qa J<|qa J<|O (qe false) J<|q8 ?_
  obtain rfl:=qd c
  exact ⟨_,_,_,_,J⟩
 rintro _ ⟨j,k,l,m,rfl⟩
 refine q9 J<|qp<|U J ?_
 obtain ⟨au,f,b⟩:=q7 b
 refine Q3 9 (fun A st=>∃ (o p q s t u v w : V),st = A [(21,qe au),(20,w),(19,v),(18,u),(17,t),(16,s),(15,q),(14,p),(13,o)]) ?_ ?_
 ·refine Q2 J J f (fun f=>?_) (fun f=>?_)
  ·refine O (.ref 0 6 0 0) J<|O (.ref 0 6 0 0) J<|O (q6 a.Lo.X) J<|O (.ref 0 6 0 3) J<|O (.ref 0 6 0 3) J<|O (q6 a.Hi.X) J<|O (.d (.bool (decide (a.Lo.X < a.Hi.X)))) J<|O (.d (.bool (decide (a.Lo.X < a.Hi.X)))) J<|q8 ?_
   obtain rfl:=qd f
   exact ⟨_,_,_,_,_,_,_,_,J⟩
  refine qa J<|qa J<|qa J<|qa J<|qa J<|qa J<|qa J<|O (qe false) J<|q8 ?_
  obtain rfl:=qd f
  exact ⟨_,_,_,_,_,_,_,_,J⟩
 rintro _ ⟨o,p,q,s,t,u,v,w,rfl⟩
 obtain ⟨av,g,b⟩:=q7 b
 refine Q3 9 (fun A st=>∃ (x y z aa ab ac ad ae : V),st = A [(30,qe av),(29,ae),(28,ad),(27,ac),(26,ab),(25,aa),(24,z),(23,y),(22,x)]) ?_ ?_
 ·refine Q2 J J g (fun g=>?_) (fun g=>?_)
  ·refine O (.ref 0 6 0 0) J<|O (.ref 0 6 0 1) J<|O (q6 a.Lo.Y) J<|O (.ref 0 6 0 3) J<|O (.ref 0 6 0 4) J<|O (q6 a.Hi.Y) J<|O (.d (.bool (decide (a.Lo.Y < a.Hi.Y)))) J<|O (.d (.bool (decide (a.Lo.Y < a.Hi.Y)))) J<|q8 ?_
   obtain rfl:=qd g
   exact ⟨_,_,_,_,_,_,_,_,J⟩
  refine qa J<|qa J<|qa J<|qa J<|qa J<|qa J<|qa J<|O (qe false) J<|q8 ?_
  obtain rfl:=qd g
  exact ⟨_,_,_,_,_,_,_,_,J⟩
 rintro _ ⟨x,y,z,aa,ab,ac,ad,ae,rfl⟩
 obtain ⟨af,h,b⟩:=q7 b
 refine Q3 9 (fun A st=>∃ (ag ah ai aj ak al am an : V),st = A [(39,qe af),(38,an),(37,am),(36,al),(35,ak),(34,aj),(33,ai),(32,ah),(31,ag)]) ?_ ?_
 ·refine Q2 J J h (fun h=>?_) (fun h=>?_)
  ·refine O (.ref 0 6 0 0) J<|O (.ref 0 6 0 2) J<|O (q6 a.Lo.Z) J<|O (.ref 0 6 0 3) J<|O (.ref 0 6 0 5) J<|O (q6 a.Hi.Z) J<|O (.d (.bool (decide (a.Lo.Z < a.Hi.Z)))) J<|O (.d (.bool (decide (a.Lo.Z < a.Hi.Z)))) J<|q8 ?_
   obtain rfl:=qd h
   exact ⟨_,_,_,_,_,_,_,_,J⟩
  refine qa J<|qa J<|qa J<|qa J<|qa J<|qa J<|qa J<|O (qe false) J<|q8 ?_
  obtain rfl:=qd h
  exact ⟨_,_,_,_,_,_,_,_,J⟩
 rintro _ ⟨ag,ah,ai,aj,ak,al,am,an,rfl⟩
 refine q9 J<|qr ?_
 obtain rfl:=qd b
 exact qz (qe af) J
theorem qds (c : List Int) (r : List Int) (p : Zz c = some r) : Pure Tryz.prog tab 115 [.sl 1 (c.map (eI .i64))] (.sl 1 (r.map (eI .i64))):=by
 unfold Zz at p
 refine Qb Tryz.func115 J (by kernel_rfl) (by kernel_rfl) J<|qb<|q9 J<|qp<|q9 J<|q8<|qf<|qb<|q9 J<|q8 ?_
 obtain ⟨aa,bg,p⟩:=q7 p
 refine Qh (fun l=>l = aa) (fun (l : List Int)=>⟨[(3,.hs 0 1 0 l.length)],[(0,.dat 1 (l.map (eI .i64)))],1⟩) (by simp) ?_ ?_
 ·refine Q7 (q2u c) (fun (b : Int × List Int)=>⟨[(0,.d (.sl 1 (c.map (eI .i64)))),(3,.hs 0 1 0 b.2.length),(4,q6 b.1)],[(0,.dat 1 (b.2.map (eI .i64)))],1⟩) (0,[]) aa bg (wkA [] [] [0]) ?_
  intro b bp h
  unfold q2u at h
  refine qf<|qb<|U J<|U J<|Qn J<|O (.d (.bool (decide (b.1 < (c.length : Int))))) J<|q8 ?_
  refine qm J h (fun _ h=>?_) (fun _ h=>?_)
  ·refine qn<|qf ?_
   obtain ⟨bh,a,h⟩:=q7 h
   refine Qh (fun n=>n = bh) (fun (n : List Int)=>⟨[(0,.d (.sl 1 (c.map (eI .i64)))),(3,.hs 0 1 0 n.length),(4,q6 b.1)],[(0,.dat 1 (n.map (eI .i64)))],1⟩) (by simp) ?_ ?_
   ·refine qb<|U J<|O (q6 (b.2.length : Int)) J<|q9 J<|q8<|qf ?_
    obtain ⟨ab,bi,a⟩:=q7 a
    refine Qh (fun k=>k = ab) (fun (k : Int)=>⟨[(0,.d (.sl 1 (c.map (eI .i64)))),(3,.hs 0 1 0 b.2.length),(4,q6 b.1),(5,q6 k)],[(0,.dat 1 (b.2.map (eI .i64)))],1⟩) (by simp) ?_ ?_
    ·refine Q7 (q2v b c) (fun (o : Int)=>⟨[(0,.d (.sl 1 (c.map (eI .i64)))),(3,.hs 0 1 0 b.2.length),(4,q6 b.1),(5,q6 o)],[(0,.dat 1 (b.2.map (eI .i64)))],1⟩) (b.2.length : Int) ab bi (wkA [(0,0)] [] []) ?_
     intro o bq j
     unfold q2v at j
     refine qf<|qf<|Q5 [q0,q0,q0,q0,q0,q0,qo 0,q0,q0,q0,q0,q0,q0,q0] (by kernel_rfl)<|U J<|O (.d (.bool (decide (o > 0)))) J ?_
     obtain ⟨bj,f,j⟩:=q7 j
     refine Q3 12 (fun A st=>∃ (ac ad ae af ag ah ai aj ak al am : V),st = A [(27,qe bj),(26,am),(25,al),(24,ak),(23,aj),(22,ai),(21,ah),(20,ag),(19,af),(18,ae),(17,ad),(16,ac)]) ?_ ?_
     ·refine Q2 J J f (fun f=>?_) (fun f=>?_)
      ·refine U J<|U J<|O (.d (G (w64 (o - 1)))) J ?_
       obtain ⟨s,an,f⟩:=q7 f
       refine qq an J J<|Q0 (q6 s) an J<|U J<|U J ?_
       obtain ⟨t,bk,f⟩:=q7 f
       refine Q9 (enc:=(eI .i64)) bk J<|O (q6 t) J<|O (.d (.bool (decide (s > t)))) J<|O (.d (.bool (decide (s > t)))) J<|q8 ?_
       obtain rfl:=qd f
       exact ⟨_,_,_,_,_,_,_,_,_,_,_,J⟩
      refine qa J<|qa J<|qa J<|qa J<|qa J<|qa J<|qa J<|qa J<|qa J<|qa J<|O (qe false) J<|q8 ?_
      obtain rfl:=qd f
      exact ⟨_,_,_,_,_,_,_,_,_,_,_,J⟩
     rintro _ ⟨ac,ad,ae,af,ag,ah,ai,aj,ak,al,am,rfl⟩
     refine q8 ?_
     refine qm J j (fun _ j=>?_) (fun _ j=>?_)
     ·refine qn<|Q1<|qw<|U J<|O (.d (G (w64 (o - 1)))) J<|q9 J<|qs<|Qc<|Qa ?_
      exact ⟨_,(Option.some.inj j).symm,wkA [(0,0)] [] []⟩
     refine Q6 ?_
     refine ⟨_,(Option.some.inj j).symm,fun hm=>?_⟩
     subst hm
     exact ⟨_,J,wkA [(0,0)] [] []⟩
    intro k hb
    subst hb
    refine qf<|qf<|Q5 [q0,q0,q0,q0,q0,q0,qo 0,q0,q0,q0,q0,q0,q0,q0] (by kernel_rfl)<|U J<|O (.d (.bool (decide (k > 0)))) J ?_
    obtain ⟨bl,g,a⟩:=q7 a
    refine Q3 12 (fun A st=>∃ (ao ap aq ar au av aw ax ay az ba : V),st = A [(43,qe bl),(42,ba),(41,az),(40,ay),(39,ax),(38,aw),(37,av),(36,au),(35,ar),(34,aq),(33,ap),(32,ao)]) ?_ ?_
    ·refine Q2 J J g (fun g=>?_) (fun g=>?_)
     ·refine U J<|U J<|O (.d (G (w64 (k - 1)))) J ?_
      obtain ⟨u,bb,g⟩:=q7 g
      refine qq bb J J<|Q0 (q6 u) bb J<|U J<|U J ?_
      obtain ⟨x,bm,g⟩:=q7 g
      refine Q9 (enc:=(eI .i64)) bm J<|O (q6 x) J<|O (qe (u == x)) J<|O (qe (u == x)) J<|q8 ?_
      obtain rfl:=qd g
      exact ⟨_,_,_,_,_,_,_,_,_,_,_,J⟩
     refine qa J<|qa J<|qa J<|qa J<|qa J<|qa J<|qa J<|qa J<|qa J<|qa J<|O (qe false) J<|q8 ?_
     obtain rfl:=qd g
     exact ⟨_,_,_,_,_,_,_,_,_,_,_,J⟩
    rintro _ ⟨ao,ap,aq,ar,au,av,aw,ax,ay,az,ba,rfl⟩
    refine q8 ?_
    refine qm J a (fun _ a=>?_) (fun _ a=>?_)
    ·refine Q6 ?_
     obtain rfl:=qd a
     exact ⟨_,J,wkA [(0,0)] [] []⟩
    refine qn<|qb<|U J<|Qg (.hs 1 1 0 [0].length) (.dat 1 ([0].map (eI .i64))) J ?_
    obtain ⟨q,bn,a⟩:=q7 a
    refine Kx (xs:=b.2) (ys:=[0]) (enc:=(eI .i64)) (.hs 1 1 0 [0].length) bn J J J J J J J (Kv J J) J J J J<|q9 J<|q8<|qf<|Q5 [Qd 2,q0,q0,q0,q0,q0,q0,q0] (by kernel_rfl)<|U J<|U J<|O (.d (G (w64 (k + 1)))) J ?_
    obtain ⟨bc,y,a⟩:=q7 a
    refine q7e y J J J J J (q47 J) (fun _=>rfl)<|U J<|U J ?_
    obtain ⟨m,bd,a⟩:=q7 a
    refine q7e bd J J J J J (q47 J) (fun _=>rfl)<|qqf (w:=bc) (xs:=q) (ys:=(q.drop m.1).take m.2) (enc:=(eI .i64)) (.hs 2 1 m.1 m.2) (q9a y) J J J J J J (qns (q9a bd) J) J J J J ?_
    have be:=@qg8 _ q ((q.drop m.1).take m.2) bc (q9a y)
    refine q8<|qw<|U J<|U J<|U J<|U J ?_
    obtain ⟨z,bo,a⟩:=q7 a
    refine Q9 (enc:=(eI .i64)) bo J<|O (q6 z) J ?_
    obtain ⟨br,bf,a⟩:=q7 a
    refine qq bf (by simp [be]) J<|Qk (ds:=[G z]) z bf J J J J J J J J (leb J) J<|qs ?_
    obtain rfl:=qd a
    exact ⟨_,J,wkE [(0,2)] [] [] J ⟨⟨_,J,.d (.refl _)⟩,⟨_,J,Qp (by simp [be]) J (by decide) (ltd J)⟩,⟨_,J,.d (.refl _)⟩,trivial⟩ ⟨⟨ltd J,.inr ⟨by decide,_,J,.dat _ _⟩⟩,trivial⟩⟩
   intro n hb
   subst hb
   refine qw<|U J<|O (.d (G (w64 (b.1 + 1)))) J<|q9 J<|qs ?_
   exact ⟨_,(Option.some.inj h).symm,wkA [(0,0)] [] []⟩
  refine Q6 ?_
  refine ⟨_,(Option.some.inj h).symm,fun hm=>?_⟩
  subst hm
  exact ⟨_,J,wkA [(0,0)] [] []⟩
 intro l hb
 subst hb
 refine qb<|U J<|q9 J<|qr ?_
 obtain rfl:=qd p
 exact finD (.inr J) (v:=.hs 0 1 0 l.length) J (J2 J J) (.refl _)
theorem qsf (p : List qg) (k : List qg) (r : List Int) (j : q7s p k = some r) : Pure Tryz.prog tab 85 [.sl 6 (p.map qy),.sl 6 (k.map qy)] (.sl 1 (r.map (eI .i64))):=by
 unfold q7s at j
 refine Qb Tryz.func85 J (by kernel_rfl) (by kernel_rfl) J<|qb<|q9 J<|qp<|q9 J<|q8<|qf<|qb<|q9 J<|q8 ?_
 obtain ⟨q,u,j⟩:=q7 j
 refine Qh (fun o=>o = q) (fun (o : List Int)=>⟨[(1,.d (.sl 6 (k.map qy))),(5,.hs 0 1 0 o.length)],[(0,.dat 1 (o.map (eI .i64)))],1⟩) (by simp) ?_ ?_
 ·refine Q7 (q33 p) (fun (l : Int × List Int)=>⟨[(0,.d (.sl 6 (p.map qy))),(1,.d (.sl 6 (k.map qy))),(5,.hs 0 1 0 l.2.length),(6,q6 l.1)],[(0,.dat 1 (l.2.map (eI .i64)))],1⟩) (0,[]) q u (wkA [] [] [0]) ?_
  intro l ad g
  unfold q33 at g
  refine qf<|qb<|U J<|U J<|Qn J<|O (.d (.bool (decide (l.1 < (p.length : Int))))) J<|q8 ?_
  refine qm J g (fun _ g=>?_) (fun _ g=>?_)
  ·refine qn<|qf<|Q1<|Q5 [q0,(some [0,1],[0,2]),(some [],[1]),q0,q0,q0,q0,q0,q0,q0,q0,q0,q0,q0,q0,q0] (by kernel_rfl)<|U J<|U J<|U J ?_
   obtain ⟨a,v,g⟩:=q7 g
   refine Q9 (enc:=qy) v J<|O (.dref [G a.Lo.X,G a.Lo.Y,G a.Lo.Z,G a.Hi.X,G a.Hi.Y,G a.Hi.Z] 0) J<|O (.dref [G a.Lo.X,G a.Lo.Y,G a.Lo.Z,G a.Hi.X,G a.Hi.Y,G a.Hi.Z] 2) J<|O (q6 a.Lo.Z) J<|U J<|U J ?_
   obtain ⟨b,w,g⟩:=q7 g
   refine Q9 (enc:=qy) w J<|O (.dref [G b.Lo.X,G b.Lo.Y,G b.Lo.Z,G b.Hi.X,G b.Hi.Y,G b.Hi.Z] 3) J<|O (.dref [G b.Lo.X,G b.Lo.Y,G b.Lo.Z,G b.Hi.X,G b.Hi.Y,G b.Hi.Z] 5) J<|O (q6 b.Hi.Z) J<|Qg (.hs 1 1 0 [a.Lo.Z,b.Hi.Z].length) (.dat 1 ([a.Lo.Z,b.Hi.Z].map (eI .i64))) J ?_
   obtain ⟨ae,x,g⟩:=q7 g
   refine Kx (xs:=l.2) (ys:=[a.Lo.Z,b.Hi.Z]) (enc:=(eI .i64)) (.hs 1 1 0 [a.Lo.Z,b.Hi.Z].length) x J J J J J J J (Kv J J) J J J J<|q9 J<|qs<|Qc<|qw<|U J<|O (.d (G (w64 (l.1 + 1)))) J<|q9 J<|qs ?_
   exact ⟨_,(Option.some.inj g).symm,wkA [(0,2)] [] []⟩
  refine Q6 ?_
  refine ⟨_,(Option.some.inj g).symm,fun hm=>?_⟩
  subst hm
  exact ⟨_,J,wkA [(0,0)] [] []⟩
 intro o hb
 subst hb
 refine qf<|qb<|q9 J<|q8 ?_
 obtain ⟨s,y,j⟩:=q7 j
 refine Qh (fun m=>m = s) (fun (m : List Int)=>⟨[(5,.hs 0 1 0 m.length)],[(0,.dat 1 (m.map (eI .i64)))],1⟩) (by simp) ?_ ?_
 ·refine Q7 (q34 k) (fun (n : Int × List Int)=>⟨[(1,.d (.sl 6 (k.map qy))),(5,.hs 0 1 0 n.2.length),(7,q6 n.1)],[(0,.dat 1 (n.2.map (eI .i64)))],1⟩) (0,o) s y (wkA [(0,0)] [] []) ?_
  intro n af h
  unfold q34 at h
  refine qf<|qb<|U J<|U J<|Qn J<|O (.d (.bool (decide (n.1 < (k.length : Int))))) J<|q8 ?_
  refine qm J h (fun _ h=>?_) (fun _ h=>?_)
  ·refine qn<|qf<|Q1<|Q5 [q0,(some [0,1],[0,2]),(some [],[1]),q0,q0,q0,q0,q0,q0,q0,q0,q0,q0,q0,q0,q0] (by kernel_rfl)<|U J<|U J<|U J ?_
   obtain ⟨c,z,h⟩:=q7 h
   refine Q9 (enc:=qy) z J<|O (.dref [G c.Lo.X,G c.Lo.Y,G c.Lo.Z,G c.Hi.X,G c.Hi.Y,G c.Hi.Z] 0) J<|O (.dref [G c.Lo.X,G c.Lo.Y,G c.Lo.Z,G c.Hi.X,G c.Hi.Y,G c.Hi.Z] 2) J<|O (q6 c.Lo.Z) J<|U J<|U J ?_
   obtain ⟨f,aa,h⟩:=q7 h
   refine Q9 (enc:=qy) aa J<|O (.dref [G f.Lo.X,G f.Lo.Y,G f.Lo.Z,G f.Hi.X,G f.Hi.Y,G f.Hi.Z] 3) J<|O (.dref [G f.Lo.X,G f.Lo.Y,G f.Lo.Z,G f.Hi.X,G f.Hi.Y,G f.Hi.Z] 5) J<|O (q6 f.Hi.Z) J<|Qg (.hs 1 1 0 [c.Lo.Z,f.Hi.Z].length) (.dat 1 ([c.Lo.Z,f.Hi.Z].map (eI .i64))) J ?_
   obtain ⟨ag,ab,h⟩:=q7 h
   refine Kx (xs:=n.2) (ys:=[c.Lo.Z,f.Hi.Z]) (enc:=(eI .i64)) (.hs 1 1 0 [c.Lo.Z,f.Hi.Z].length) ab J J J J J J J (Kv J J) J J J J<|q9 J<|qs<|Qc<|qw<|U J<|O (.d (G (w64 (n.1 + 1)))) J<|q9 J<|qs ?_
   exact ⟨_,(Option.some.inj h).symm,wkA [(0,2)] [] []⟩
  refine Q6 ?_
  refine ⟨_,(Option.some.inj h).symm,fun hm=>?_⟩
  subst hm
  exact ⟨_,J,wkA [(0,0)] [] []⟩
 intro m hb
 subst hb
 refine qf ?_
 refine Yr (st':=⟨[(5,.d (.sl 1 (m.map (eI .i64))))],[],0⟩) (wkA [] [0] []) ?_ (by simp)
 refine qw<|U J ?_
 obtain ⟨t,ac,j⟩:=q7 j
 refine qt (qds m t ac) J<|q9 J<|qr ?_
 obtain rfl:=qd j
 exact qz (.d (.sl 1 (t.map (eI .i64)))) J
theorem qav (o : List qg) (k : Int) (r : List qi) (s : J0 o k = some r) : Pure Tryz.prog tab 68 [.sl 6 (o.map qy),G k] (.sl 4 (r.map qx)):=by
 unfold J0 at s
 refine Qb Tryz.func68 J (by kernel_rfl) (by kernel_rfl) J<|qb<|q9 J<|qp<|q9 J<|q8<|qf<|qb<|q9 J<|q8 ?_
 obtain ⟨t,ae,s⟩:=q7 s
 refine Qh (fun p=>p = t) (fun (p : List qi)=>⟨[(5,.hs 0 4 0 p.length)],[(0,.dat 4 (p.map qx))],1⟩) (by simp) ?_ ?_
 ·refine Q7 (q55 o k) (fun (l : Int × List qi)=>⟨[(0,.d (.sl 6 (o.map qy))),(1,q6 k),(5,.hs 0 4 0 l.2.length),(6,q6 l.1)],[(0,.dat 4 (l.2.map qx))],1⟩) (0,[]) t ae (wkA [] [] [0]) ?_
  intro l ao m
  unfold q55 at m
  refine qf<|qb<|U J<|U J<|Qn J<|O (.d (.bool (decide (l.1 < (o.length : Int))))) J<|q8 ?_
  refine qm J m (fun _ m=>?_) (fun _ m=>?_)
  ·refine qn<|qf ?_
   obtain ⟨af,a,m⟩:=q7 m
   refine Qh (fun q=>q = af) (fun (q : List qi)=>⟨[(0,.d (.sl 6 (o.map qy))),(1,q6 k),(5,.hs 0 4 0 q.length),(6,q6 l.1)],[(0,.dat 4 (q.map qx))],1⟩) (by simp) ?_ ?_
   ·refine qb<|U J<|U J ?_
    obtain ⟨j,ag,a⟩:=q7 a
    refine Q9 (enc:=qy) ag J<|O (.dref [G j.Lo.X,G j.Lo.Y,G j.Lo.Z,G j.Hi.X,G j.Hi.Y,G j.Hi.Z] 0) J<|O (.dref [G j.Lo.X,G j.Lo.Y,G j.Lo.Z,G j.Hi.X,G j.Hi.Y,G j.Hi.Z] 2) J<|O (q6 j.Lo.Z) J<|U J<|O (.d (.bool (decide (j.Lo.Z≤k)))) J ?_
    obtain ⟨ah,n,a⟩:=q7 a
    refine Q3 10 (fun A st=>∃ (u w x y z aa ab ac ad : V),st = A [(30,qe ah),(29,ad),(28,ac),(27,ab),(26,aa),(25,z),(24,y),(23,x),(22,w),(21,u)]) ?_ ?_
    ·refine Q2 J J n (fun n=>?_) (fun n=>?_)
     ·refine U J<|U J<|U J ?_
      obtain ⟨h,ai,n⟩:=q7 n
      refine Q9 (enc:=qy) ai J<|O (.dref [G h.Lo.X,G h.Lo.Y,G h.Lo.Z,G h.Hi.X,G h.Hi.Y,G h.Hi.Z] 3) J<|O (.dref [G h.Lo.X,G h.Lo.Y,G h.Lo.Z,G h.Hi.X,G h.Hi.Y,G h.Hi.Z] 5) J<|O (q6 h.Hi.Z) J<|O (.d (.bool (decide (k < h.Hi.Z)))) J<|O (.d (.bool (decide (k < h.Hi.Z)))) J<|q8 ?_
      obtain rfl:=qd n
      exact ⟨_,_,_,_,_,_,_,_,_,J⟩
     refine qa J<|qa J<|qa J<|qa J<|qa J<|qa J<|qa J<|qa J<|O (qe false) J<|q8 ?_
     obtain rfl:=qd n
     exact ⟨_,_,_,_,_,_,_,_,_,J⟩
    rintro _ ⟨u,w,x,y,z,aa,ab,ac,ad,rfl⟩
    refine q8 ?_
    refine qm J a (fun _ a=>?_) (fun _ a=>?_)
    ·refine Q5 [q0,(some [0,1],[0,2]),(some [],[1]),q0,q0,q0,q0,q0,q0,q0,q0,q0,q0,q0,q0,q0,q0,q0,q0,q0,q0,q0,q0,q0,q0,q0,q0,q0,q0] (by kernel_rfl)<|U J<|U J<|U J ?_
     obtain ⟨b,aj,a⟩:=q7 a
     refine Q9 (enc:=qy) aj J<|O (.dref [G b.Lo.X,G b.Lo.Y,G b.Lo.Z,G b.Hi.X,G b.Hi.Y,G b.Hi.Z] 0) J<|O (.dref [G b.Lo.X,G b.Lo.Y,G b.Lo.Z,G b.Hi.X,G b.Hi.Y,G b.Hi.Z] 0) J<|O (q6 b.Lo.X) J<|U J<|U J ?_
     obtain ⟨c,ak,a⟩:=q7 a
     refine Q9 (enc:=qy) ak J<|O (.dref [G c.Lo.X,G c.Lo.Y,G c.Lo.Z,G c.Hi.X,G c.Hi.Y,G c.Hi.Z] 0) J<|O (.dref [G c.Lo.X,G c.Lo.Y,G c.Lo.Z,G c.Hi.X,G c.Hi.Y,G c.Hi.Z] 1) J<|O (q6 c.Lo.Y) J<|U J<|U J ?_
     obtain ⟨f,al,a⟩:=q7 a
     refine Q9 (enc:=qy) al J<|O (.dref [G f.Lo.X,G f.Lo.Y,G f.Lo.Z,G f.Hi.X,G f.Hi.Y,G f.Hi.Z] 3) J<|O (.dref [G f.Lo.X,G f.Lo.Y,G f.Lo.Z,G f.Hi.X,G f.Hi.Y,G f.Hi.Z] 3) J<|O (q6 f.Hi.X) J<|U J<|U J ?_
     obtain ⟨g,am,a⟩:=q7 a
     refine Q9 (enc:=qy) am J<|O (.dref [G g.Lo.X,G g.Lo.Y,G g.Lo.Z,G g.Hi.X,G g.Hi.Y,G g.Hi.Z] 3) J<|O (.dref [G g.Lo.X,G g.Lo.Y,G g.Lo.Z,G g.Hi.X,G g.Hi.Y,G g.Hi.Z] 4) J<|O (q6 g.Hi.Y) J<|O (.d (.agg [G b.Lo.X,G c.Lo.Y,G f.Hi.X,G g.Hi.Y])) J<|Qg (.hs 1 4 0 [({X0:=b.Lo.X,Y0:=c.Lo.Y,X1:=f.Hi.X,Y1:=g.Hi.Y} : qi)].length) (.dat 4 ([({X0:=b.Lo.X,Y0:=c.Lo.Y,X1:=f.Hi.X,Y1:=g.Hi.Y} : qi)].map qx)) J ?_
     obtain ⟨ap,an,a⟩:=q7 a
     refine Kx (xs:=l.2) (ys:=[({X0:=b.Lo.X,Y0:=c.Lo.Y,X1:=f.Hi.X,Y1:=g.Hi.Y} : qi)]) (enc:=qx) (.hs 1 4 0 [({X0:=b.Lo.X,Y0:=c.Lo.Y,X1:=f.Hi.X,Y1:=g.Hi.Y} : qi)].length) an J J J J J J J (Kv J J) J J J J<|q9 J<|qs ?_
     obtain rfl:=qd a
     exact ⟨_,J,wkA [(0,2)] [] []⟩
    refine qn<|Qa ?_
    obtain rfl:=qd a
    exact ⟨_,J,wkA [(0,0)] [] []⟩
   intro q hb
   subst hb
   refine qw<|U J<|O (.d (G (w64 (l.1 + 1)))) J<|q9 J<|qs ?_
   exact ⟨_,(Option.some.inj m).symm,wkA [(0,0)] [] []⟩
  refine Q6 ?_
  refine ⟨_,(Option.some.inj m).symm,fun hm=>?_⟩
  subst hm
  exact ⟨_,J,wkA [(0,0)] [] []⟩
 intro p hb
 subst hb
 refine qb<|U J<|q9 J<|qr ?_
 obtain rfl:=qd s
 exact finD (.inr J) (v:=.hs 0 4 0 p.length) J (J2 J J) (.refl _)
theorem qs2 (p : List qi) (k : List qi) (r : List Int) (j : q7k p k = some r) : Pure Tryz.prog tab 91 [.sl 4 (p.map qx),.sl 4 (k.map qx)] (.sl 1 (r.map (eI .i64))):=by
 unfold q7k at j
 refine Qb Tryz.func91 J (by kernel_rfl) (by kernel_rfl) J<|qb<|q9 J<|qp<|q9 J<|q8<|qf<|qb<|q9 J<|q8 ?_
 obtain ⟨q,u,j⟩:=q7 j
 refine Qh (fun o=>o = q) (fun (o : List Int)=>⟨[(1,.d (.sl 4 (k.map qx))),(5,.hs 0 1 0 o.length)],[(0,.dat 1 (o.map (eI .i64)))],1⟩) (by simp) ?_ ?_
 ·refine Q7 (q2y p) (fun (l : Int × List Int)=>⟨[(0,.d (.sl 4 (p.map qx))),(1,.d (.sl 4 (k.map qx))),(5,.hs 0 1 0 l.2.length),(6,q6 l.1)],[(0,.dat 1 (l.2.map (eI .i64)))],1⟩) (0,[]) q u (wkA [] [] [0]) ?_
  intro l ad a
  unfold q2y at a
  refine qf<|qb<|U J<|U J<|Qn J<|O (.d (.bool (decide (l.1 < (p.length : Int))))) J<|q8 ?_
  refine qm J a (fun _ a=>?_) (fun _ a=>?_)
  ·refine qn<|qf<|Q1<|Q5 [q0,(some [0,1],[0,2]),(some [],[1]),q0,q0,q0,q0,q0,q0,q0,q0,q0,q0,q0] (by kernel_rfl)<|U J<|U J<|U J ?_
   obtain ⟨c,v,a⟩:=q7 a
   refine Q9 (enc:=qx) v J<|O (.dref [G c.X0,G c.Y0,G c.X1,G c.Y1] 0) J<|O (q6 c.X0) J<|U J<|U J ?_
   obtain ⟨f,w,a⟩:=q7 a
   refine Q9 (enc:=qx) w J<|O (.dref [G f.X0,G f.Y0,G f.X1,G f.Y1] 2) J<|O (q6 f.X1) J<|Qg (.hs 1 1 0 [c.X0,f.X1].length) (.dat 1 ([c.X0,f.X1].map (eI .i64))) J ?_
   obtain ⟨ae,x,a⟩:=q7 a
   refine Kx (xs:=l.2) (ys:=[c.X0,f.X1]) (enc:=(eI .i64)) (.hs 1 1 0 [c.X0,f.X1].length) x J J J J J J J (Kv J J) J J J J<|q9 J<|qs<|Qc<|qw<|U J<|O (.d (G (w64 (l.1 + 1)))) J<|q9 J<|qs ?_
   exact ⟨_,(Option.some.inj a).symm,wkA [(0,2)] [] []⟩
  refine Q6 ?_
  refine ⟨_,(Option.some.inj a).symm,fun hm=>?_⟩
  subst hm
  exact ⟨_,J,wkA [(0,0)] [] []⟩
 intro o hb
 subst hb
 refine qf<|qb<|q9 J<|q8 ?_
 obtain ⟨s,y,j⟩:=q7 j
 refine Qh (fun m=>m = s) (fun (m : List Int)=>⟨[(5,.hs 0 1 0 m.length)],[(0,.dat 1 (m.map (eI .i64)))],1⟩) (by simp) ?_ ?_
 ·refine Q7 (q2z k) (fun (n : Int × List Int)=>⟨[(1,.d (.sl 4 (k.map qx))),(5,.hs 0 1 0 n.2.length),(7,q6 n.1)],[(0,.dat 1 (n.2.map (eI .i64)))],1⟩) (0,o) s y (wkA [(0,0)] [] []) ?_
  intro n af b
  unfold q2z at b
  refine qf<|qb<|U J<|U J<|Qn J<|O (.d (.bool (decide (n.1 < (k.length : Int))))) J<|q8 ?_
  refine qm J b (fun _ b=>?_) (fun _ b=>?_)
  ·refine qn<|qf<|Q1<|Q5 [q0,(some [0,1],[0,2]),(some [],[1]),q0,q0,q0,q0,q0,q0,q0,q0,q0,q0,q0] (by kernel_rfl)<|U J<|U J<|U J ?_
   obtain ⟨g,z,b⟩:=q7 b
   refine Q9 (enc:=qx) z J<|O (.dref [G g.X0,G g.Y0,G g.X1,G g.Y1] 0) J<|O (q6 g.X0) J<|U J<|U J ?_
   obtain ⟨h,aa,b⟩:=q7 b
   refine Q9 (enc:=qx) aa J<|O (.dref [G h.X0,G h.Y0,G h.X1,G h.Y1] 2) J<|O (q6 h.X1) J<|Qg (.hs 1 1 0 [g.X0,h.X1].length) (.dat 1 ([g.X0,h.X1].map (eI .i64))) J ?_
   obtain ⟨ag,ab,b⟩:=q7 b
   refine Kx (xs:=n.2) (ys:=[g.X0,h.X1]) (enc:=(eI .i64)) (.hs 1 1 0 [g.X0,h.X1].length) ab J J J J J J J (Kv J J) J J J J<|q9 J<|qs<|Qc<|qw<|U J<|O (.d (G (w64 (n.1 + 1)))) J<|q9 J<|qs ?_
   exact ⟨_,(Option.some.inj b).symm,wkA [(0,2)] [] []⟩
  refine Q6 ?_
  refine ⟨_,(Option.some.inj b).symm,fun hm=>?_⟩
  subst hm
  exact ⟨_,J,wkA [(0,0)] [] []⟩
 intro m hb
 subst hb
 refine qf ?_
 refine Yr (st':=⟨[(5,.d (.sl 1 (m.map (eI .i64))))],[],0⟩) (wkA [] [0] []) ?_ (by simp)
 refine qw<|U J ?_
 obtain ⟨t,ac,j⟩:=q7 j
 refine qt (qds m t ac) J<|q9 J<|qr ?_
 obtain rfl:=qd j
 exact qz (.d (.sl 1 (t.map (eI .i64)))) J
theorem qs4 (p : List qi) (k : List qi) (r : List Int) (j : q7l p k = some r) : Pure Tryz.prog tab 92 [.sl 4 (p.map qx),.sl 4 (k.map qx)] (.sl 1 (r.map (eI .i64))):=by
 unfold q7l at j
 refine Qb Tryz.func92 J (by kernel_rfl) (by kernel_rfl) J<|qb<|q9 J<|qp<|q9 J<|q8<|qf<|qb<|q9 J<|q8 ?_
 obtain ⟨q,u,j⟩:=q7 j
 refine Qh (fun o=>o = q) (fun (o : List Int)=>⟨[(1,.d (.sl 4 (k.map qx))),(5,.hs 0 1 0 o.length)],[(0,.dat 1 (o.map (eI .i64)))],1⟩) (by simp) ?_ ?_
 ·refine Q7 (q30 p) (fun (l : Int × List Int)=>⟨[(0,.d (.sl 4 (p.map qx))),(1,.d (.sl 4 (k.map qx))),(5,.hs 0 1 0 l.2.length),(6,q6 l.1)],[(0,.dat 1 (l.2.map (eI .i64)))],1⟩) (0,[]) q u (wkA [] [] [0]) ?_
  intro l ad a
  unfold q30 at a
  refine qf<|qb<|U J<|U J<|Qn J<|O (.d (.bool (decide (l.1 < (p.length : Int))))) J<|q8 ?_
  refine qm J a (fun _ a=>?_) (fun _ a=>?_)
  ·refine qn<|qf<|Q1<|Q5 [q0,(some [0,1],[0,2]),(some [],[1]),q0,q0,q0,q0,q0,q0,q0,q0,q0,q0,q0] (by kernel_rfl)<|U J<|U J<|U J ?_
   obtain ⟨c,v,a⟩:=q7 a
   refine Q9 (enc:=qx) v J<|O (.dref [G c.X0,G c.Y0,G c.X1,G c.Y1] 1) J<|O (q6 c.Y0) J<|U J<|U J ?_
   obtain ⟨f,w,a⟩:=q7 a
   refine Q9 (enc:=qx) w J<|O (.dref [G f.X0,G f.Y0,G f.X1,G f.Y1] 3) J<|O (q6 f.Y1) J<|Qg (.hs 1 1 0 [c.Y0,f.Y1].length) (.dat 1 ([c.Y0,f.Y1].map (eI .i64))) J ?_
   obtain ⟨ae,x,a⟩:=q7 a
   refine Kx (xs:=l.2) (ys:=[c.Y0,f.Y1]) (enc:=(eI .i64)) (.hs 1 1 0 [c.Y0,f.Y1].length) x J J J J J J J (Kv J J) J J J J<|q9 J<|qs<|Qc<|qw<|U J<|O (.d (G (w64 (l.1 + 1)))) J<|q9 J<|qs ?_
   exact ⟨_,(Option.some.inj a).symm,wkA [(0,2)] [] []⟩
  refine Q6 ?_
  refine ⟨_,(Option.some.inj a).symm,fun hm=>?_⟩
  subst hm
  exact ⟨_,J,wkA [(0,0)] [] []⟩
 intro o hb
 subst hb
 refine qf<|qb<|q9 J<|q8 ?_
 obtain ⟨s,y,j⟩:=q7 j
 refine Qh (fun m=>m = s) (fun (m : List Int)=>⟨[(5,.hs 0 1 0 m.length)],[(0,.dat 1 (m.map (eI .i64)))],1⟩) (by simp) ?_ ?_
 ·refine Q7 (q31 k) (fun (n : Int × List Int)=>⟨[(1,.d (.sl 4 (k.map qx))),(5,.hs 0 1 0 n.2.length),(7,q6 n.1)],[(0,.dat 1 (n.2.map (eI .i64)))],1⟩) (0,o) s y (wkA [(0,0)] [] []) ?_
  intro n af b
  unfold q31 at b
  refine qf<|qb<|U J<|U J<|Qn J<|O (.d (.bool (decide (n.1 < (k.length : Int))))) J<|q8 ?_
  refine qm J b (fun _ b=>?_) (fun _ b=>?_)
  ·refine qn<|qf<|Q1<|Q5 [q0,(some [0,1],[0,2]),(some [],[1]),q0,q0,q0,q0,q0,q0,q0,q0,q0,q0,q0] (by kernel_rfl)<|U J<|U J<|U J ?_
   obtain ⟨g,z,b⟩:=q7 b
   refine Q9 (enc:=qx) z J<|O (.dref [G g.X0,G g.Y0,G g.X1,G g.Y1] 1) J<|O (q6 g.Y0) J<|U J<|U J ?_
   obtain ⟨h,aa,b⟩:=q7 b
   refine Q9 (enc:=qx) aa J<|O (.dref [G h.X0,G h.Y0,G h.X1,G h.Y1] 3) J<|O (q6 h.Y1) J<|Qg (.hs 1 1 0 [g.Y0,h.Y1].length) (.dat 1 ([g.Y0,h.Y1].map (eI .i64))) J ?_
   obtain ⟨ag,ab,b⟩:=q7 b
   refine Kx (xs:=n.2) (ys:=[g.Y0,h.Y1]) (enc:=(eI .i64)) (.hs 1 1 0 [g.Y0,h.Y1].length) ab J J J J J J J (Kv J J) J J J J<|q9 J<|qs<|Qc<|qw<|U J<|O (.d (G (w64 (n.1 + 1)))) J<|q9 J<|qs ?_
   exact ⟨_,(Option.some.inj b).symm,wkA [(0,2)] [] []⟩
  refine Q6 ?_
  refine ⟨_,(Option.some.inj b).symm,fun hm=>?_⟩
  subst hm
  exact ⟨_,J,wkA [(0,0)] [] []⟩
 intro m hb
 subst hb
 refine qf ?_
 refine Yr (st':=⟨[(5,.d (.sl 1 (m.map (eI .i64))))],[],0⟩) (wkA [] [0] []) ?_ (by simp)
 refine qw<|U J ?_
 obtain ⟨t,ac,j⟩:=q7 j
 refine qt (qds m t ac) J<|q9 J<|qr ?_
 obtain rfl:=qd j
 exact qz (.d (.sl 1 (t.map (eI .i64)))) J
theorem qjb (n : List qi) (c : Int) (b : Int) (r : Bool) (o : q50 n c b = some r) : Pure Tryz.prog tab 45 [.sl 4 (n.map qx),G c,G b] (.bool r):=by
 unfold q50 at o
 refine Qb Tryz.func45 J (by kernel_rfl) (by kernel_rfl) J<|qb<|q9 J<|q8<|qf<|qb<|q9 J<|q8 ?_
 obtain ⟨s,ar,o⟩:=q7 o
 refine Qh (fun q=>.inl q = s) (fun (q : Unit)=>⟨[],[],0⟩) (by simp) ?_ ?_
 ·refine Q7 (q1o n c b) (fun (p : Int)=>⟨[(0,.d (.sl 4 (n.map qx))),(1,q6 c),(2,q6 b),(7,q6 p)],[],0⟩) 0 s ar (wkA [] [] []) ?_
  intro p bb a
  unfold q1o at a
  refine qf<|qb<|U J<|U J<|Qn J<|O (.d (.bool (decide (p < (n.length : Int))))) J<|q8 ?_
  refine qm J a (fun _ a=>?_) (fun _ a=>?_)
  ·refine qn<|qf<|Q1<|qb<|U J<|U J ?_
   obtain ⟨m,au,a⟩:=q7 a
   refine Q9 (enc:=qx) au J<|O (.dref [G m.X0,G m.Y0,G m.X1,G m.Y1] 0) J<|O (q6 m.X0) J<|U J<|O (.d (.bool (decide (m.X0≤c)))) J ?_
   obtain ⟨av,f,a⟩:=q7 a
   refine Q3 9 (fun A st=>∃ (t u v w x y z aa : V),st = A [(29,qe av),(28,aa),(27,z),(26,y),(25,x),(24,w),(23,v),(22,u),(21,t)]) ?_ ?_
   ·refine Q2 J J f (fun f=>?_) (fun f=>?_)
    ·refine U J<|U J<|U J ?_
     obtain ⟨g,aw,f⟩:=q7 f
     refine Q9 (enc:=qx) aw J<|O (.dref [G g.X0,G g.Y0,G g.X1,G g.Y1] 2) J<|O (q6 g.X1) J<|O (.d (.bool (decide (c < g.X1)))) J<|O (.d (.bool (decide (c < g.X1)))) J<|q8 ?_
     obtain rfl:=qd f
     exact ⟨_,_,_,_,_,_,_,_,J⟩
    refine qa J<|qa J<|qa J<|qa J<|qa J<|qa J<|qa J<|O (qe false) J<|q8 ?_
    obtain rfl:=qd f
    exact ⟨_,_,_,_,_,_,_,_,J⟩
   rintro _ ⟨t,u,v,w,x,y,z,aa,rfl⟩
   obtain ⟨ax,h,a⟩:=q7 a
   refine Q3 9 (fun A st=>∃ (ab ac ad ae af ag ah ai : V),st = A [(38,qe ax),(37,ai),(36,ah),(35,ag),(34,af),(33,ae),(32,ad),(31,ac),(30,ab)]) ?_ ?_
   ·refine Q2 J J h (fun h=>?_) (fun h=>?_)
    ·refine U J<|U J ?_
     obtain ⟨j,ay,h⟩:=q7 h
     refine Q9 (enc:=qx) ay J<|O (.dref [G j.X0,G j.Y0,G j.X1,G j.Y1] 1) J<|O (q6 j.Y0) J<|U J<|O (.d (.bool (decide (j.Y0≤b)))) J<|O (.d (.bool (decide (j.Y0≤b)))) J<|q8 ?_
     obtain rfl:=qd h
     exact ⟨_,_,_,_,_,_,_,_,J⟩
    refine qa J<|qa J<|qa J<|qa J<|qa J<|qa J<|qa J<|O (qe false) J<|q8 ?_
    obtain rfl:=qd h
    exact ⟨_,_,_,_,_,_,_,_,J⟩
   rintro _ ⟨ab,ac,ad,ae,af,ag,ah,ai,rfl⟩
   obtain ⟨az,k,a⟩:=q7 a
   refine Q3 9 (fun A st=>∃ (aj ak al am an ao ap aq : V),st = A [(47,qe az),(46,aq),(45,ap),(44,ao),(43,an),(42,am),(41,al),(40,ak),(39,aj)]) ?_ ?_
   ·refine Q2 J J k (fun k=>?_) (fun k=>?_)
    ·refine U J<|U J<|U J ?_
     obtain ⟨l,ba,k⟩:=q7 k
     refine Q9 (enc:=qx) ba J<|O (.dref [G l.X0,G l.Y0,G l.X1,G l.Y1] 3) J<|O (q6 l.Y1) J<|O (.d (.bool (decide (b < l.Y1)))) J<|O (.d (.bool (decide (b < l.Y1)))) J<|q8 ?_
     obtain rfl:=qd k
     exact ⟨_,_,_,_,_,_,_,_,J⟩
    refine qa J<|qa J<|qa J<|qa J<|qa J<|qa J<|qa J<|O (qe false) J<|q8 ?_
    obtain rfl:=qd k
    exact ⟨_,_,_,_,_,_,_,_,J⟩
   rintro _ ⟨aj,ak,al,am,an,ao,ap,aq,rfl⟩
   refine q8 ?_
   refine qm J a (fun _ a=>?_) (fun _ a=>?_)
   ·refine qb<|q9 J<|qr ?_
    refine ⟨_,(Option.some.inj a).symm,fun hm=>?_⟩
    subst hm
    obtain rfl:=qd o
    exact qz (qe true) J
   refine qn<|Qa<|Qc<|qw<|U J<|O (.d (G (w64 (p + 1)))) J<|q9 J<|qs ?_
   exact ⟨_,(Option.some.inj a).symm,wkA [] [] []⟩
  refine Q6 ?_
  refine ⟨_,(Option.some.inj a).symm,fun hm=>?_⟩
  subst hm
  exact ⟨_,J,wkA [] [] []⟩
 intro q hb
 subst hb
 refine qb<|q9 J<|qr ?_
 obtain rfl:=qd o
 exact qz (qe false) J
theorem qrw (g : Int) (h : Bool) (b : Bool) (r : Bool) (a : q4y g h b = some r) : Pure Tryz.prog tab 93 [G g,.bool h,.bool b] (.bool r):=by
 unfold q4y at a
 refine Qb Tryz.func93 J (by kernel_rfl) (by kernel_rfl) J<|qb<|q9 J<|q8<|qf<|qb<|U J<|O (qe (g == 1)) J<|q8 ?_
 refine qm J a (fun _ a=>?_) (fun _ a=>?_)
 ·refine qb<|U J ?_
  obtain ⟨j,c,a⟩:=q7 a
  refine Q3 3 (fun A st=>∃ (k l : V),st = A [(12,qe j),(11,l),(10,k)]) ?_ ?_
  ·refine Q2 J J c (fun c=>?_) (fun c=>?_)
   ·refine U J<|O (qe b) J<|q8 ?_
    obtain rfl:=qd c
    exact ⟨_,_,J⟩
   refine qa J<|O (qe false) J<|q8 ?_
   obtain rfl:=qd c
   exact ⟨_,_,J⟩
  rintro _ ⟨k,l,rfl⟩
  refine q9 J<|qr ?_
  obtain rfl:=qd a
  exact qz (qe j) J
 refine qn<|qf<|qb<|U J<|O (qe (g == 2)) J<|q8 ?_
 refine qm J a (fun _ a=>?_) (fun _ a=>?_)
 ·refine qb<|U J ?_
  obtain ⟨m,d,a⟩:=q7 a
  refine Q3 3 (fun A st=>∃ (n o : V),st = A [(18,qe m),(17,o),(16,n)]) ?_ ?_
  ·refine Q2 J J d (fun d=>?_) (fun d=>?_)
   ·refine qa J<|O (qe true) J<|q8 ?_
    obtain rfl:=qd d
    exact ⟨_,_,J⟩
   refine U J<|O (qe b) J<|q8 ?_
   obtain rfl:=qd d
   exact ⟨_,_,J⟩
  rintro _ ⟨n,o,rfl⟩
  refine q9 J<|qr ?_
  obtain rfl:=qd a
  exact qz (qe m) J
 refine qn<|qb<|U J ?_
 obtain ⟨p,f,a⟩:=q7 a
 refine Q3 4 (fun A st=>∃ (q s t : V),st = A [(23,qe p),(22,t),(21,s),(20,q)]) ?_ ?_
 ·refine Q2 J J f (fun f=>?_) (fun f=>?_)
  ·refine U J<|O (qe (!b)) J<|O (qe (!b)) J<|q8 ?_
   obtain rfl:=qd f
   exact ⟨_,_,_,J⟩
  refine qa J<|qa J<|O (qe false) J<|q8 ?_
  obtain rfl:=qd f
  exact ⟨_,_,_,J⟩
 rintro _ ⟨q,s,t,rfl⟩
 refine q9 J<|qr ?_
 obtain rfl:=qd a
 exact qz (qe p) J
end Go.Proofs.YtjjmcdlnadkjbaaGreat
