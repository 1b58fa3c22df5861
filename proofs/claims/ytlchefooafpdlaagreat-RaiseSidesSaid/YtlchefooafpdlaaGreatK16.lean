/- W_Allb -/
import Derived.Test.YtlchefooafpdlaaGreatK15
namespace Go.Proofs.YtlchefooafpdlaaGreat
open Go Go.Am Go.Sh
set_option maxHeartbeats 8000000
set_option maxRecDepth 100000
theorem qwi (q1 : qn→qn→Option Int) (q1F : FuncId) (q1C : List DV) (q1Ok : ∀ (x0 : qn) (x1 : qn) (r : Int),q1 x0 x1 = some r→Pure Tryz.prog tab q1F ([.agg [G x0.at_,G x0.list_,G x0.by_],.agg [G x1.at_,G x1.list_,G x1.by_]] ++ q1C) (G r)) (j : List qn) (b : Int) (s : Int) (k : Int) (r : Int × Bool × List qn) (a : q8x q1 j b s k = some r) : K0 Tryz.prog tab 210 [.hs 0 3 0 j.length,q6 b,q6 s,q6 k,.d (.fn q1F q1C)] [(0,.dat 3 (j.map Qa))] 1 (.d (.tup [G r.1,.bool r.2.1])) [(0,.dat 3 (r.2.2.map Qa))] 1:=by
 unfold q8x at a
 refine Ka Tryz.func210 J qj qj J<|qc<|qb J<|qb J<|qa<|qh<|Qd [Qh 0,q8,Qh 0,q8,qr 0,q8,q8,q8,qr 0,q8,q8,q8,q8,q8,q8,q8] qj<|q0 J<|q0 J<|q0 J<|q0 J<|q0 J<|q0 J ?_
 obtain ⟨f,bd,a⟩:=q9 a
 refine qw bd J J<|Q7 (.d (.agg [G f.at_,G f.list_,G f.by_])) bd J<|q0 J<|q0 J ?_
 obtain ⟨g,be,a⟩:=q9 a
 refine qw be J J<|Q7 (.d (.agg [G g.at_,G g.list_,G g.by_])) be J ?_
 obtain ⟨gd,bf,a⟩:=q9 a
 refine qw bf J J<|Qt (ds:=[G f.at_,G f.list_,G f.by_]) f bf J J J J J J J J (leb J) J ?_
 obtain ⟨ge,bg,a⟩:=q9 a
 refine qw bg qf J<|Qt (ds:=[G g.at_,G g.list_,G g.by_]) g bg J J J J J J J J (leb J) J<|qs<|q0 J<|O (.d (G (w64 (b + 1)))) J<|q0 J<|O (.d (G (w64 (s - 1)))) J<|qb J<|qb J<|qa<|qh ?_
 obtain ⟨bh,fq,a⟩:=q9 a
 refine Qm (fun l=>l = bh) (fun (l : Int)=>⟨[(0,.hs 0 3 0 ((j.set b.toNat f).set k.toNat g).length),(1,q6 b),(4,.d (.fn q1F q1C)),(12,q6 l),(13,.d (G (w64 (s - 1))))],[(0,.dat 3 (((j.set b.toNat f).set k.toNat g).map Qa))],1⟩) qf ?_ ?_
 ·refine Qf (q8y s j b f k g q1) (fun (av : Int)=>⟨[(0,.hs 0 3 0 ((j.set b.toNat f).set k.toNat g).length),(1,q6 b),(4,.d (.fn q1F q1C)),(12,q6 av),(13,.d (G (w64 (s - 1))))],[(0,.dat 3 (((j.set b.toNat f).set k.toNat g).map Qa))],1⟩) (w64 (b + 1)) bh fq (wkE [] [] [] J ⟨⟨_,J,Qx qf J qt (ltd J)⟩,qq J,qq J,qq J,qq J,trivial⟩ ⟨Qg J J,trivial⟩) ?_
  intro av gf t
  unfold q8y at t
  refine qh<|qh<|Qd [q8,q8,q8,qr 0,q8,q8,q8,qr 0,q8,q8,q8,q8,q8,q8,q8,q8] qj<|q0 J<|q0 J<|O (.d (.bool (decide (av≤(w64 (s - 1)))))) J ?_
  obtain ⟨fr,m,t⟩:=q9 t
  refine Q9 13 (fun A st=>∃ (bi bj bk bl bm bn bo bp bq br bs bt : V),st = A [(47,qg fr),(46,bt),(45,bs),(44,br),(43,bq),(42,bp),(41,bo),(40,bn),(39,bm),(38,bl),(37,bk),(36,bj),(35,bi)]) ?_ ?_
  ·refine Q8 J J m (fun m=>?_) (fun m=>?_)
   ·refine q0 J<|q0 J<|q0 J ?_
    obtain ⟨ab,bu,m⟩:=q9 m
    refine qw bu J J<|Q7 (.d (.agg [G ab.at_,G ab.list_,G ab.by_])) bu J<|q0 J<|q0 J ?_
    obtain ⟨ac,bv,m⟩:=q9 m
    refine qw bv J J<|Q7 (.d (.agg [G ac.at_,G ac.list_,G ac.by_])) bv J ?_
    obtain ⟨bb,fs,m⟩:=q9 m
    refine Yf [.d (.agg [G ab.at_,G ab.list_,G ab.by_]),.d (.agg [G ac.at_,G ac.list_,G ac.by_])] (q1Ok ab ac bb fs) J J J (.inl J)<|O (.d (.bool (decide (bb < 0)))) J<|O (.d (.bool (decide (bb < 0)))) J<|qa ?_
    obtain rfl:=qe m
    exact ⟨_,_,_,_,_,_,_,_,_,_,_,_,J⟩
   refine qd J<|qd J<|qd J<|qd J<|qd J<|qd J<|qd J<|qd J<|qd J<|qd J<|qd J<|O (qg false) J<|qa ?_
   obtain rfl:=qe m
   exact ⟨_,_,_,_,_,_,_,_,_,_,_,_,J⟩
  rintro _ ⟨bi,bj,bk,bl,bm,bn,bo,bp,bq,br,bs,bt,rfl⟩
  refine qa ?_
  refine qp J t (fun _ t=>?_) (fun _ t=>?_)
  ·refine qo<|Q1<|qy<|q0 J<|O (.d (G (w64 (av + 1)))) J<|qb J<|qx<|Qj<|Qc ?_
   exact ⟨_,(Option.some.inj t).symm,wkA [] [] []⟩
  refine Qb ?_
  refine ⟨_,(Option.some.inj t).symm,fun hm=>?_⟩
  subst hm
  exact ⟨_,J,wkA [] [] []⟩
 intro l hb
 subst hb
 refine qh ?_
 obtain ⟨bw,ft,a⟩:=q9 a
 refine Qm (fun u=>u = bw) (fun (u : Int)=>⟨[(0,.hs 0 3 0 ((j.set b.toNat f).set k.toNat g).length),(1,q6 b),(4,.d (.fn q1F q1C)),(12,q6 l),(13,q6 u)],[(0,.dat 3 (((j.set b.toNat f).set k.toNat g).map Qa))],1⟩) qf ?_ ?_
 ·refine Qf (q8z l j b f k g q1) (fun (aw : Int)=>⟨[(0,.hs 0 3 0 ((j.set b.toNat f).set k.toNat g).length),(1,q6 b),(4,.d (.fn q1F q1C)),(12,q6 l),(13,q6 aw)],[(0,.dat 3 (((j.set b.toNat f).set k.toNat g).map Qa))],1⟩) (w64 (s - 1)) bw ft (wkA [] [] []) ?_
  intro aw gg v
  unfold q8z at v
  refine qh<|qh<|Qd [q8,q8,q8,q8,qr 0,q8,q8,q8,qr 0,q8,q8,q8,q8,q8,q8,q8,q8] qj<|q0 J<|q0 J<|O (.d (.bool (decide (l≤aw)))) J ?_
  obtain ⟨fu,n,v⟩:=q9 v
  refine Q9 14 (fun A st=>∃ (bz ca cb cc cd ce cf cg ch ci cj ck cl : V),st = A [(66,qg fu),(65,cl),(64,ck),(63,cj),(62,ci),(61,ch),(60,cg),(59,cf),(58,ce),(57,cd),(56,cc),(55,cb),(54,ca),(53,bz)]) ?_ ?_
  ·refine Q8 J J n (fun n=>?_) (fun n=>?_)
   ·refine q0 J<|q0 J<|q0 J ?_
    obtain ⟨ad,cm,n⟩:=q9 n
    refine qw cm J J<|Q7 (.d (.agg [G ad.at_,G ad.list_,G ad.by_])) cm J<|q0 J<|q0 J ?_
    obtain ⟨ae,cn,n⟩:=q9 n
    refine qw cn J J<|Q7 (.d (.agg [G ae.at_,G ae.list_,G ae.by_])) cn J ?_
    obtain ⟨ax,fv,n⟩:=q9 n
    refine Yf [.d (.agg [G ad.at_,G ad.list_,G ad.by_]),.d (.agg [G ae.at_,G ae.list_,G ae.by_])] (q1Ok ad ae ax fv) J J J (.inl J)<|O (.d (.bool (decide (ax < 0)))) J<|O (.d (.bool (!(decide (ax < 0))))) J<|O (.d (.bool (!(decide (ax < 0))))) J<|qa ?_
    obtain rfl:=qe n
    exact ⟨_,_,_,_,_,_,_,_,_,_,_,_,_,J⟩
   refine qd J<|qd J<|qd J<|qd J<|qd J<|qd J<|qd J<|qd J<|qd J<|qd J<|qd J<|qd J<|O (qg false) J<|qa ?_
   obtain rfl:=qe n
   exact ⟨_,_,_,_,_,_,_,_,_,_,_,_,_,J⟩
  rintro _ ⟨bz,ca,cb,cc,cd,ce,cf,cg,ch,ci,cj,ck,cl,rfl⟩
  refine qa ?_
  refine qp J v (fun _ v=>?_) (fun _ v=>?_)
  ·refine qo<|Q1<|qy<|q0 J<|O (.d (G (w64 (aw - 1)))) J<|qb J<|qx<|Qj<|Qc ?_
   exact ⟨_,(Option.some.inj v).symm,wkA [] [] []⟩
  refine Qb ?_
  refine ⟨_,(Option.some.inj v).symm,fun hm=>?_⟩
  subst hm
  exact ⟨_,J,wkA [] [] []⟩
 intro u hb
 subst hb
 refine qh<|qc<|q0 J<|q0 J<|O (.d (.bool (decide (l > u)))) J<|qa ?_
 refine qp J a (fun _ a=>?_) (fun _ a=>?_)
 ·refine qh<|Qd [Qh 0,q8,Qh 0,q8,qr 0,q8,q8,q8,qr 0,q8,q8,q8,q8,q8,q8,q8] qj<|q0 J<|q0 J<|q0 J<|q0 J<|q0 J<|q0 J ?_
  obtain ⟨af,co,a⟩:=q9 a
  refine qw co J J<|Q7 (.d (.agg [G af.at_,G af.list_,G af.by_])) co J<|q0 J<|q0 J ?_
  obtain ⟨ag,cp,a⟩:=q9 a
  refine qw cp J J<|Q7 (.d (.agg [G ag.at_,G ag.list_,G ag.by_])) cp J ?_
  obtain ⟨gh,cq,a⟩:=q9 a
  refine qw cq J J<|Qt (ds:=[G af.at_,G af.list_,G af.by_]) af cq J J J J J J J J (leb J) J ?_
  obtain ⟨gi,cr,a⟩:=q9 a
  refine qw cr qf J<|Qt (ds:=[G ag.at_,G ag.list_,G ag.by_]) ag cr J J J J J J J J (leb J) J<|qs<|q0 J<|qb J<|qb J<|qv ?_
  obtain rfl:=qe a
  exact ⟨.inr J,_,J,wkA [] [] []⟩
 refine qo<|qh<|Qd [Qh 0,q8,Qh 0,q8,qr 0,q8,q8,q8,qr 0,q8,q8,q8,q8,q8,q8,q8] qj<|q0 J<|q0 J<|q0 J<|q0 J<|q0 J<|q0 J ?_
 obtain ⟨w,cs,a⟩:=q9 a
 refine qw cs J J<|Q7 (.d (.agg [G w.at_,G w.list_,G w.by_])) cs J<|q0 J<|q0 J ?_
 obtain ⟨x,ct,a⟩:=q9 a
 refine qw ct J J<|Q7 (.d (.agg [G x.at_,G x.list_,G x.by_])) ct J ?_
 obtain ⟨gj,cu,a⟩:=q9 a
 refine qw cu J J<|Qt (ds:=[G w.at_,G w.list_,G w.by_]) w cu J J J J J J J J (leb J) J ?_
 obtain ⟨gk,cv,a⟩:=q9 a
 refine qw cv qf J<|Qt (ds:=[G x.at_,G x.list_,G x.by_]) x cv J J J J J J J J (leb J) J<|qs<|q0 J<|O (.d (G (w64 (l + 1)))) J<|qb J<|qs<|q0 J<|O (.d (G (w64 (u - 1)))) J<|qb J<|qa<|qh ?_
 obtain ⟨cw,fw,a⟩:=q9 a
 refine Qm (fun ap=>ap = cw) (fun (ap : Int × List qn)=>⟨[(0,.hs 0 3 0 ap.2.length),(1,q6 b),(13,q6 ap.1)],[(0,.dat 3 (ap.2.map Qa))],1⟩) qf ?_ ?_
 ·refine Qf (q90 b q1) (fun (c : Int × Int × List qn)=>⟨[(0,.hs 0 3 0 c.2.2.length),(1,q6 b),(4,.d (.fn q1F q1C)),(12,q6 c.1),(13,q6 c.2.1)],[(0,.dat 3 (c.2.2.map Qa))],1⟩) (w64 (l + 1),w64 (u - 1),(((j.set b.toNat f).set k.toNat g).set l.toNat w).set u.toNat x) cw fw (wkE [] [] [] J ⟨⟨_,J,Qx qf J qt (ltd J)⟩,qq J,qq J,qq J,qq J,trivial⟩ ⟨Qg J J,trivial⟩) ?_
  intro c gl h
  unfold q90 at h
  refine Q1<|qh ?_
  obtain ⟨cx,fx,h⟩:=q9 h
  refine Qm (fun q=>q = cx) (fun (q : Int)=>⟨[(0,.hs 0 3 0 c.2.2.length),(1,q6 b),(4,.d (.fn q1F q1C)),(12,q6 q),(13,q6 c.2.1)],[(0,.dat 3 (c.2.2.map Qa))],1⟩) qf ?_ ?_
  ·refine Qf (q91 c b q1) (fun (ay : Int)=>⟨[(0,.hs 0 3 0 c.2.2.length),(1,q6 b),(4,.d (.fn q1F q1C)),(12,q6 ay),(13,q6 c.2.1)],[(0,.dat 3 (c.2.2.map Qa))],1⟩) c.1 cx fx (wkA [] [] []) ?_
   intro ay gm y
   unfold q91 at y
   refine qh<|qh<|Qd [q8,q8,q8,qr 0,q8,q8,q8,qr 0,q8,q8,q8,q8,q8,q8,q8,q8] qj<|q0 J<|q0 J<|O (.d (.bool (decide (ay≤c.2.1)))) J ?_
   obtain ⟨fy,o,y⟩:=q9 y
   refine Q9 13 (fun A st=>∃ (cy cz da dc dd de df dg dh dj dk dl : V),st = A [(120,qg fy),(119,dl),(118,dk),(117,dj),(116,dh),(115,dg),(114,df),(113,de),(112,dd),(111,dc),(110,da),(109,cz),(108,cy)]) ?_ ?_
   ·refine Q8 J J o (fun o=>?_) (fun o=>?_)
    ·refine q0 J<|q0 J<|q0 J ?_
     obtain ⟨ah,dm,o⟩:=q9 o
     refine qw dm J J<|Q7 (.d (.agg [G ah.at_,G ah.list_,G ah.by_])) dm J<|q0 J<|q0 J ?_
     obtain ⟨ai,dn,o⟩:=q9 o
     refine qw dn J J<|Q7 (.d (.agg [G ai.at_,G ai.list_,G ai.by_])) dn J ?_
     obtain ⟨bc,fz,o⟩:=q9 o
     refine Yf [.d (.agg [G ah.at_,G ah.list_,G ah.by_]),.d (.agg [G ai.at_,G ai.list_,G ai.by_])] (q1Ok ah ai bc fz) J J J (.inl J)<|O (.d (.bool (decide (bc < 0)))) J<|O (.d (.bool (decide (bc < 0)))) J<|qa ?_
     obtain rfl:=qe o
     exact ⟨_,_,_,_,_,_,_,_,_,_,_,_,J⟩
    refine qd J<|qd J<|qd J<|qd J<|qd J<|qd J<|qd J<|qd J<|qd J<|qd J<|qd J<|O (qg false) J<|qa ?_
    obtain rfl:=qe o
    exact ⟨_,_,_,_,_,_,_,_,_,_,_,_,J⟩
   rintro _ ⟨cy,cz,da,dc,dd,de,df,dg,dh,dj,dk,dl,rfl⟩
   refine qa ?_
   refine qp J y (fun _ y=>?_) (fun _ y=>?_)
   ·refine qo<|Q1<|qy<|q0 J<|O (.d (G (w64 (ay + 1)))) J<|qb J<|qx<|Qj<|Qc ?_
    exact ⟨_,(Option.some.inj y).symm,wkA [] [] []⟩
   refine Qb ?_
   refine ⟨_,(Option.some.inj y).symm,fun hm=>?_⟩
   subst hm
   exact ⟨_,J,wkA [] [] []⟩
  intro q hb
  subst hb
  refine qh ?_
  obtain ⟨dp,ga,h⟩:=q9 h
  refine Qm (fun aq=>aq = dp) (fun (aq : Int)=>⟨[(0,.hs 0 3 0 c.2.2.length),(1,q6 b),(4,.d (.fn q1F q1C)),(12,q6 q),(13,q6 aq)],[(0,.dat 3 (c.2.2.map Qa))],1⟩) qf ?_ ?_
  ·refine Qf (q92 q c b q1) (fun (az : Int)=>⟨[(0,.hs 0 3 0 c.2.2.length),(1,q6 b),(4,.d (.fn q1F q1C)),(12,q6 q),(13,q6 az)],[(0,.dat 3 (c.2.2.map Qa))],1⟩) c.2.1 dp ga (wkA [] [] []) ?_
   intro az gn z
   unfold q92 at z
   refine qh<|qh<|Qd [q8,q8,q8,q8,qr 0,q8,q8,q8,qr 0,q8,q8,q8,q8,q8,q8,q8,q8] qj<|q0 J<|q0 J<|O (.d (.bool (decide (q≤az)))) J ?_
   obtain ⟨gb,p,z⟩:=q9 z
   refine Q9 14 (fun A st=>∃ (dq dr dt du dv dw dx dy dz fa fb fc fd : V),st = A [(139,qg gb),(138,fd),(137,fc),(136,fb),(135,fa),(134,dz),(133,dy),(132,dx),(131,dw),(130,dv),(129,du),(128,dt),(127,dr),(126,dq)]) ?_ ?_
   ·refine Q8 J J p (fun p=>?_) (fun p=>?_)
    ·refine q0 J<|q0 J<|q0 J ?_
     obtain ⟨aj,fe,p⟩:=q9 p
     refine qw fe J J<|Q7 (.d (.agg [G aj.at_,G aj.list_,G aj.by_])) fe J<|q0 J<|q0 J ?_
     obtain ⟨ak,ff,p⟩:=q9 p
     refine qw ff J J<|Q7 (.d (.agg [G ak.at_,G ak.list_,G ak.by_])) ff J ?_
     obtain ⟨ba,gc,p⟩:=q9 p
     refine Yf [.d (.agg [G aj.at_,G aj.list_,G aj.by_]),.d (.agg [G ak.at_,G ak.list_,G ak.by_])] (q1Ok aj ak ba gc) J J J (.inl J)<|O (.d (.bool (decide (ba < 0)))) J<|O (.d (.bool (!(decide (ba < 0))))) J<|O (.d (.bool (!(decide (ba < 0))))) J<|qa ?_
     obtain rfl:=qe p
     exact ⟨_,_,_,_,_,_,_,_,_,_,_,_,_,J⟩
    refine qd J<|qd J<|qd J<|qd J<|qd J<|qd J<|qd J<|qd J<|qd J<|qd J<|qd J<|qd J<|O (qg false) J<|qa ?_
    obtain rfl:=qe p
    exact ⟨_,_,_,_,_,_,_,_,_,_,_,_,_,J⟩
   rintro _ ⟨dq,dr,dt,du,dv,dw,dx,dy,dz,fa,fb,fc,fd,rfl⟩
   refine qa ?_
   refine qp J z (fun _ z=>?_) (fun _ z=>?_)
   ·refine qo<|Q1<|qy<|q0 J<|O (.d (G (w64 (az - 1)))) J<|qb J<|qx<|Qj<|Qc ?_
    exact ⟨_,(Option.some.inj z).symm,wkA [] [] []⟩
   refine Qb ?_
   refine ⟨_,(Option.some.inj z).symm,fun hm=>?_⟩
   subst hm
   exact ⟨_,J,wkA [] [] []⟩
  intro aq hb
  subst hb
  refine qh<|qc<|q0 J<|q0 J<|O (.d (.bool (decide (q > aq)))) J<|qa ?_
  refine qp J h (fun _ h=>?_) (fun _ h=>?_)
  ·refine Qb ?_
   refine ⟨_,(Option.some.inj h).symm,fun hm=>?_⟩
   subst hm
   exact ⟨_,J,wkA [] [] []⟩
  refine qo<|qh<|Qd [Qh 0,q8,Qh 0,q8,qr 0,q8,q8,q8,qr 0,q8,q8,q8,q8,q8,q8,q8] qj<|q0 J<|q0 J<|q0 J<|q0 J<|q0 J<|q0 J ?_
  obtain ⟨al,fg,h⟩:=q9 h
  refine qw fg J J<|Q7 (.d (.agg [G al.at_,G al.list_,G al.by_])) fg J<|q0 J<|q0 J ?_
  obtain ⟨am,fh,h⟩:=q9 h
  refine qw fh J J<|Q7 (.d (.agg [G am.at_,G am.list_,G am.by_])) fh J ?_
  obtain ⟨go,fi,h⟩:=q9 h
  refine qw fi J J<|Qt (ds:=[G al.at_,G al.list_,G al.by_]) al fi J J J J J J J J (leb J) J ?_
  obtain ⟨gp,fj,h⟩:=q9 h
  refine qw fj qf J<|Qt (ds:=[G am.at_,G am.list_,G am.by_]) am fj J J J J J J J J (leb J) J<|qs<|q0 J<|O (.d (G (w64 (q + 1)))) J<|qb J<|qa<|qy<|q0 J<|O (.d (G (w64 (aq - 1)))) J<|qb J<|qx<|Qj<|Qc ?_
  exact ⟨_,(Option.some.inj h).symm,wkE [] [] [] J ⟨⟨_,J,Qx qf J qt (ltd J)⟩,qq J,qq J,qq J,qq J,trivial⟩ ⟨Qg J J,trivial⟩⟩
 intro ap hb
 subst hb
 refine qh<|Qd [Qh 0,q8,Qh 0,q8,qr 0,q8,q8,q8,qr 0,q8,q8,q8,q8,q8,q8,q8] qj<|q0 J<|q0 J<|q0 J<|q0 J<|q0 J<|q0 J ?_
 obtain ⟨an,fk,a⟩:=q9 a
 refine qw fk J J<|Q7 (.d (.agg [G an.at_,G an.list_,G an.by_])) fk J<|q0 J<|q0 J ?_
 obtain ⟨ao,fl,a⟩:=q9 a
 refine qw fl J J<|Q7 (.d (.agg [G ao.at_,G ao.list_,G ao.by_])) fl J ?_
 obtain ⟨gq,fm,a⟩:=q9 a
 refine qw fm J J<|Qt (ds:=[G an.at_,G an.list_,G an.by_]) an fm J J J J J J J J (leb J) J ?_
 obtain ⟨gr,fo,a⟩:=q9 a
 refine qw fo qf J<|Qt (ds:=[G ao.at_,G ao.list_,G ao.by_]) ao fo J J J J J J J J (leb J) J<|qs<|q0 J<|qb J<|qb J<|qv ?_
 obtain rfl:=qe a
 exact ⟨.inr J,_,J,wkA [] [] []⟩
theorem qw8 (s : qn→qn→Option Int) (q1F : FuncId) (q1C : List DV) (_q1Ok : ∀ (o : qn) (p : qn) (r : Int),s o p = some r→Pure Tryz.prog tab q1F ([.agg [G o.at_,G o.list_,G o.by_],.agg [G p.at_,G p.list_,G p.by_]] ++ q1C) (G r)) (q : List qn) (a : Int) (b : Int) (r : List qn) (g : q8k s q a b = some r) : K0 Tryz.prog tab 205 [.hs 0 3 0 q.length,q6 a,q6 b,.d (.fn q1F q1C)] [(0,.dat 3 (q.map Qa))] 1 (.d (.tup [])) [(0,.dat 3 (r.map Qa))] 1:=by
 unfold q8k at g
 refine Ka Tryz.func205 J qj qj J<|qc<|q0 J<|q0 J<|O (.d (G (w64 (b - a)))) J<|qb J<|qs<|q0 J<|O (.d (.bool (decide ((w64 (b - a)) ≥ 8)))) J<|qa ?_
 refine qp J g (fun _ g=>?_) (fun _ g=>?_)
 ·refine qc<|q0 J<|O (.d (.int .u64 (IntKind.wrap .u64 (w64 (b - a))))) J<|Qe J J<|qz 1 (.dat 1 [[.int .u64 (IntKind.wrap .u64 (w64 (b - a)))]]) J<|qs<|q0 J ?_
  obtain ⟨h,x,g⟩:=q9 g
  refine Q5 (qlm (w64 (b - a)) h x) J<|qb J<|qs<|q0 J<|q0 J<|O (.d (G (w64 (Int.tdiv (w64 (b - a)) 4)))) J<|O (.d (G (w64 ((w64 (Int.tdiv (w64 (b - a)) 4)) * 2)))) J<|O (.d (G (w64 (a + (w64 ((w64 (Int.tdiv (w64 (b - a)) 4)) * 2)))))) J<|O (.d (G (w64 ((w64 (a + (w64 ((w64 (Int.tdiv (w64 (b - a)) 4)) * 2)))) - 1)))) J<|qb J<|qa ?_
  obtain ⟨y,z,g⟩:=q9 g
  refine Q1<|Qf (q8l a b h) (fun (f : Int × List qn × Int)=>⟨[(0,.hs 0 3 0 f.2.1.length),(1,q6 a),(8,.d (G (w64 (b - a)))),(9,.ref 1 1 0 0),(10,.d (.int .u64 h)),(11,q6 f.1)],[(0,.dat 3 (f.2.1.map Qa)),(1,.dat 1 [[.int .u64 f.2.2]])],2⟩) (w64 ((w64 (a + (w64 ((w64 (Int.tdiv (w64 (b - a)) 4)) * 2)))) - 1),q,IntKind.wrap .u64 (w64 (b - a))) y z (wkA [(1,1)] [] []) ?_
  intro f ac c
  unfold q8l at c
  refine qh<|qc<|q0 J<|q0 J<|q0 J<|O (.d (G (w64 (Int.tdiv (w64 (b - a)) 4)))) J<|O (.d (G (w64 ((w64 (Int.tdiv (w64 (b - a)) 4)) * 2)))) J<|O (.d (G (w64 (a + (w64 ((w64 (Int.tdiv (w64 (b - a)) 4)) * 2)))))) J<|O (.d (G (w64 ((w64 (a + (w64 ((w64 (Int.tdiv (w64 (b - a)) 4)) * 2)))) + 1)))) J<|O (.d (.bool (decide (f.1≤(w64 ((w64 (a + (w64 ((w64 (Int.tdiv (w64 (b - a)) 4)) * 2)))) + 1)))))) J<|qa ?_
  refine qp J c (fun _ c=>?_) (fun _ c=>?_)
  ·refine qo<|qh<|Q1<|qc ?_
   obtain ⟨j,aa,c⟩:=q9 c
   refine K2 [(0,1)] [(0,1),(1,0)] [.ref 1 1 0 0] (.d (.int .u64 j)) 1 [(1,.dat 1 [[.int .u64 j]]),(0,.dat 3 (f.2.1.map Qa))] 2 (qlp f.2.2 j aa)<|q0 J<|O (.d (.int .u64 (IntKind.wrap .u64 (h - 1)))) J<|O (.d (.int .u64 (andI .u64 j (IntKind.wrap .u64 (h - 1))))) J<|O (.d (G (w64 (andI .u64 j (IntKind.wrap .u64 (h - 1)))))) J<|qb J<|qa<|qh<|qc<|q0 J<|q0 J<|O (.d (.bool (decide ((w64 (andI .u64 j (IntKind.wrap .u64 (h - 1)))) ≥ (w64 (b - a)))))) J<|qa ?_
   obtain ⟨ab,n,c⟩:=q9 c
   refine Yi (fun m=>m = ab) (fun (m : Int)=>⟨[(0,.hs 0 3 0 f.2.1.length),(1,q6 a),(8,.d (G (w64 (b - a)))),(9,.ref 1 1 0 0),(10,.d (.int .u64 h)),(11,q6 f.1),(12,q6 m)],[(0,.dat 3 (f.2.1.map Qa)),(1,.dat 1 [[.int .u64 j]])],2⟩) qf ?_ ?_
   ·refine qp J n (fun _ n=>?_) (fun _ n=>?_)
    ·refine qy<|q0 J<|q0 J<|O (.d (G (w64 ((w64 (andI .u64 j (IntKind.wrap .u64 (h - 1)))) - (w64 (b - a)))))) J<|qb J<|qx ?_
     obtain rfl:=qe n
     exact ⟨_,J,wkA [(1,1)] [] []⟩
    refine qo<|Qc ?_
    obtain rfl:=qe n
    exact ⟨_,J,wkA [(1,1)] [] []⟩
   intro m hb
   subst hb
   refine Qd [Qh 0,q8,Qh 0,q8,qr 0,q8,q8,q8,qr 0,q8,q8,q8,q8,q8,q8,q8,q8,q8,q8,q8] qj<|q0 J<|q0 J<|q0 J<|q0 J<|q0 J<|O (.d (G (w64 (a + m)))) J<|q0 J<|q0 J<|q0 J<|O (.d (G (w64 (a + m)))) J ?_
   obtain ⟨k,t,c⟩:=q9 c
   refine qw t J J<|Q7 (.d (.agg [G k.at_,G k.list_,G k.by_])) t J<|q0 J<|q0 J ?_
   obtain ⟨l,u,c⟩:=q9 c
   refine qw u J J<|Q7 (.d (.agg [G l.at_,G l.list_,G l.by_])) u J ?_
   obtain ⟨ad,v,c⟩:=q9 c
   refine qw v J J<|Qt (ds:=[G k.at_,G k.list_,G k.by_]) k v J J J J J J J J (leb J) J ?_
   obtain ⟨ae,w,c⟩:=q9 c
   refine qw w qf J<|Qt (ds:=[G l.at_,G l.list_,G l.by_]) l w J J J J J J J J (leb J) J<|qx<|Qj<|qy<|q0 J<|O (.d (G (w64 (f.1 + 1)))) J<|qb J<|qx ?_
   exact ⟨_,(Option.some.inj c).symm,wkE [(1,1)] [] [] J ⟨⟨_,J,Qx qf J qt (ltd J)⟩,qq J,qq J,⟨_,J,.ref J qt (ltd J)⟩,qq J,qq J,trivial⟩ ⟨Qg J J,Qg J J,trivial⟩⟩
  refine Qb ?_
  refine ⟨_,(Option.some.inj c).symm,fun hm=>?_⟩
  subst hm
  obtain rfl:=qe g
  exact ⟨.inl J,_,J,wkA [] [] []⟩
 refine qo<|Qc ?_
 obtain rfl:=qe g
 exact ⟨.inl J,_,J,wkA [] [] []⟩
theorem qwm (rec : List qn→Int→Int→Int→Option (List qn)) (j : qn→qn→Option Int) (q1F : FuncId) (q1C : List DV) (q1Ok : ∀ (z : qn) (x1 : qn) (r : Int),j z x1 = some r→Pure Tryz.prog tab q1F ([.agg [G z.at_,G z.list_,G z.by_],.agg [G x1.at_,G x1.list_,G x1.by_]] ++ q1C) (G r)) (hrec : ∀ (o : List qn) (s : Int) (t : Int) (u : Int) (r : List qn),rec o s t u = some r→K0 Tryz.prog tab 187 [.hs 0 3 0 o.length,q6 s,q6 t,q6 u,.d (.fn q1F q1C)] [(0,.dat 3 (o.map Qa))] 1 (.d (.tup [])) [(0,.dat 3 (r.map Qa))] 1) (o : List qn) (s : Int) (t : Int) (u : Int) (r : List qn) (v : q6f rec j o s t u = some r) : K0 Tryz.prog tab 187 [.hs 0 3 0 o.length,q6 s,q6 t,q6 u,.d (.fn q1F q1C)] [(0,.dat 3 (o.map Qa))] 1 (.d (.tup [])) [(0,.dat 3 (r.map Qa))] 1:=by
 unfold q6f at v
 refine Ka Tryz.func187 J qj qj J<|qc<|qb J<|qs<|qb J<|qa ?_
 obtain ⟨bi,bj,v⟩:=q9 v
 refine Q1<|Qf (q6e j rec) (fun (a : Int × Int × Int × Bool × Bool × List qn)=>⟨[(0,.hs 0 3 0 a.2.2.2.2.2.length),(1,q6 a.1),(2,q6 a.2.1),(3,q6 a.2.2.1),(4,.d (.fn q1F q1C)),(10,qg a.2.2.2.1),(11,qg a.2.2.2.2.1)],[(0,.dat 3 (a.2.2.2.2.2.map Qa))],1⟩) (s,t,u,true,true,o) bi bj (wkA [] [] []) ?_
 intro a cs b
 unfold q6e at b
 refine Q1<|qc<|q0 J<|q0 J<|O (.d (G (w64 (a.2.1 - a.1)))) J<|qb J<|qa<|qh<|qc<|q0 J<|O (.d (.bool (decide ((w64 (a.2.1 - a.1))≤12)))) J<|qa ?_
 refine qp J b (fun _ b=>?_) (fun _ b=>?_)
 ·refine qc<|q0 J<|q0 J<|q0 J<|q0 J ?_
  obtain ⟨ah,bk,b⟩:=q9 b
  obtain ⟨ct,bl,b⟩:=q9 b
  have cu:=Kd bl
  refine K2 [(0,0)] [(0,0)] [.hs 0 3 0 a.2.2.2.2.2.length,q6 a.1,q6 a.2.1,.d (.fn q1F q1C)] (.d (.tup [])) 1 [(0,.dat 3 (ah.map Qa))] 1 (qwe j q1F q1C q1Ok a.2.2.2.2.2 a.1 a.2.1 ah bk)<|qv ?_
  refine ⟨_,(Option.some.inj b).symm,fun hm=>?_⟩
  subst hm
  obtain rfl:=qe v
  exact ⟨.inr J,_,J,wkA [] [] []⟩
 refine qo<|qh<|qc<|q0 J<|O (qg (a.2.2.1 == 0)) J<|qa ?_
 refine qp J b (fun _ b=>?_) (fun _ b=>?_)
 ·refine qc<|q0 J<|q0 J<|q0 J<|q0 J ?_
  obtain ⟨ai,bm,b⟩:=q9 b
  obtain ⟨cv,bn,b⟩:=q9 b
  have cw:=Kd bn
  refine K2 [(0,0)] [(0,0)] [.hs 0 3 0 a.2.2.2.2.2.length,q6 a.1,q6 a.2.1,.d (.fn q1F q1C)] (.d (.tup [])) 1 [(0,.dat 3 (ai.map Qa))] 1 (qwc j q1F q1C q1Ok a.2.2.2.2.2 a.1 a.2.1 ai bm)<|qv ?_
  refine ⟨_,(Option.some.inj b).symm,fun hm=>?_⟩
  subst hm
  obtain rfl:=qe v
  exact ⟨.inr J,_,J,wkA [] [] []⟩
 refine qo<|qh<|qc<|q0 J<|O (qg (!a.2.2.2.1)) J<|qa ?_
 obtain ⟨bo,m,b⟩:=q9 b
 refine Yi (fun f=>f = bo) (fun (f : Int × List qn)=>⟨[(0,.hs 0 3 0 f.2.length),(1,q6 a.1),(2,q6 a.2.1),(3,q6 f.1),(4,.d (.fn q1F q1C)),(10,qg a.2.2.2.1),(11,qg a.2.2.2.2.1),(12,.d (G (w64 (a.2.1 - a.1))))],[(0,.dat 3 (f.2.map Qa))],1⟩) qf ?_ ?_
 ·refine qp J m (fun _ m=>?_) (fun _ m=>?_)
  ·refine qc<|q0 J<|q0 J<|q0 J<|q0 J ?_
   obtain ⟨aj,bp,m⟩:=q9 m
   obtain ⟨cx,bq,m⟩:=q9 m
   have br:=Kd bq
   refine K2 [(0,0)] [(0,0)] [.hs 0 3 0 a.2.2.2.2.2.length,q6 a.1,q6 a.2.1,.d (.fn q1F q1C)] (.d (.tup [])) 1 [(0,.dat 3 (aj.map Qa))] 1 (qw8 j q1F q1C q1Ok a.2.2.2.2.2 a.1 a.2.1 aj bp)<|qa<|qy<|q0 J<|O (.d (G (w64 (a.2.2.1 - 1)))) J<|qb J<|qx ?_
   obtain rfl:=qe m
   exact ⟨_,J,wkE [] [] [] J ⟨⟨_,J,Qx (by simp [br]) J qt (ltd J)⟩,qq J,qq J,qq J,qq J,qq J,qq J,qq J,trivial⟩ ⟨Qg J J,trivial⟩⟩
  refine qo<|Qc ?_
  obtain rfl:=qe m
  exact ⟨_,J,wkA [] [] []⟩
 intro f hb
 subst hb
 refine qc<|q0 J<|q0 J<|q0 J<|q0 J ?_
 obtain ⟨w,bs,b⟩:=q9 b
 refine q4z [.hs 0 3 0 f.2.length,q6 a.1,q6 a.2.1,.d (.fn q1F q1C)] (qwa f.2 a.1 a.2.1 j q1F q1C q1Ok w bs) J J (Ju (Jb J J) (Ju J (Ju J (Ju J J)))) (.inr J)<|q0 J<|O (q6 w.1) J<|O (q6 w.2) J<|qb J<|qb J<|qa<|qh<|qc<|q0 J<|O (qg (w.2 == 2)) J<|qa ?_
 obtain ⟨bt,n,b⟩:=q9 b
 refine Yi (fun g=>g = bt) (fun (g : Int × Int × List qn)=>⟨[(0,.hs 0 3 0 g.2.2.length),(1,q6 a.1),(2,q6 a.2.1),(3,q6 f.1),(4,.d (.fn q1F q1C)),(10,qg a.2.2.2.1),(11,qg a.2.2.2.2.1),(12,.d (G (w64 (a.2.1 - a.1)))),(13,q6 g.1),(14,q6 g.2.1)],[(0,.dat 3 (g.2.2.map Qa))],1⟩) qf ?_ ?_
 ·refine qp J n (fun _ n=>?_) (fun _ n=>?_)
  ·refine qc<|q0 J<|q0 J<|q0 J<|q0 J ?_
   obtain ⟨ak,bu,n⟩:=q9 n
   obtain ⟨cy,bv,n⟩:=q9 n
   have bw:=Kd bv
   refine K2 [(0,0)] [(0,0)] [.hs 0 3 0 f.2.length,q6 a.1,q6 a.2.1,.d (.fn q1F q1C)] (.d (.tup [])) 1 [(0,.dat 3 (ak.map Qa))] 1 (qwq j q1F q1C q1Ok f.2 a.1 a.2.1 ak bu)<|qs<|q0 J<|O (.d (G (w64 (a.2.1 - 1)))) J<|q0 J<|q0 J<|O (.d (G (w64 (w.1 - a.1)))) J<|O (.d (G (w64 ((w64 (a.2.1 - 1)) - (w64 (w.1 - a.1)))))) J<|qb J<|qa<|qy<|qb J<|qx ?_
   obtain rfl:=qe n
   exact ⟨_,J,wkE [] [] [] J ⟨⟨_,J,Qx (by simp [bw]) J qt (ltd J)⟩,qq J,qq J,qq J,qq J,qq J,qq J,qq J,qq J,qq J,trivial⟩ ⟨Qg J J,trivial⟩⟩
  refine qo<|Qc ?_
  obtain rfl:=qe n
  exact ⟨_,J,wkA [] [] []⟩
 intro g hb
 subst hb
 refine qh<|qc<|q0 J ?_
 obtain ⟨bz,x,b⟩:=q9 b
 refine Q9 3 (fun A st=>∃ (al am : V),st = A [(71,qg bz),(70,am),(69,al)]) ?_ ?_
 ·refine Q8 J J x (fun x=>?_) (fun x=>?_)
  ·refine q0 J<|O (qg a.2.2.2.2.1) J<|qa ?_
   obtain rfl:=qe x
   exact ⟨_,_,J⟩
  refine qd J<|O (qg false) J<|qa ?_
  obtain rfl:=qe x
  exact ⟨_,_,J⟩
 rintro _ ⟨al,am,rfl⟩
 obtain ⟨ca,y,b⟩:=q9 b
 refine Q9 4 (fun A st=>∃ (an ao ap : V),st = A [(75,qg ca),(74,ap),(73,ao),(72,an)]) ?_ ?_
 ·refine Q8 J J y (fun y=>?_) (fun y=>?_)
  ·refine q0 J<|O (qg (g.2.1 == 1)) J<|O (qg (g.2.1 == 1)) J<|qa ?_
   obtain rfl:=qe y
   exact ⟨_,_,_,J⟩
  refine qd J<|qd J<|O (qg false) J<|qa ?_
  obtain rfl:=qe y
  exact ⟨_,_,_,J⟩
 rintro _ ⟨an,ao,ap,rfl⟩
 refine qa ?_
 obtain ⟨cb,h,b⟩:=q9 b
 refine Yi (fun k=>.inl k = cb) (fun (k : List qn)=>⟨[(0,.hs 0 3 0 k.length),(1,q6 a.1),(2,q6 a.2.1),(3,q6 f.1),(4,.d (.fn q1F q1C)),(10,qg a.2.2.2.1),(11,qg a.2.2.2.2.1),(12,.d (G (w64 (a.2.1 - a.1)))),(13,q6 g.1)],[(0,.dat 3 (k.map Qa))],1⟩) qf ?_ ?_
 ·refine qp J h (fun _ h=>?_) (fun _ h=>?_)
  ·refine qc<|q0 J<|q0 J<|q0 J<|q0 J ?_
   obtain ⟨ad,cc,h⟩:=q9 h
   obtain ⟨cz,cd,h⟩:=q9 h
   have ce:=Kd cd
   refine K2 [(0,0)] [(0,0)] [.hs 0 3 0 g.2.2.length,q6 a.1,q6 a.2.1,.d (.fn q1F q1C)] (qg ad.1) 1 [(0,.dat 3 (ad.2.map Qa))] 1 (qwg j q1F q1C q1Ok g.2.2 a.1 a.2.1 ad cc)<|qa ?_
   refine qp J h (fun _ h=>?_) (fun _ h=>?_)
   ·refine q1h ?_
    obtain rfl:=qe h
    refine ⟨_,(Option.some.inj b).symm,fun hm=>?_⟩
    subst hm
    obtain rfl:=qe v
    exact ⟨.inr J,_,J,wkA [] [] []⟩
   refine qo<|Qc ?_
   obtain rfl:=qe h
   exact ⟨_,J,wkE [] [] [] J ⟨⟨_,J,Qx (by simp [ce]) J qt (ltd J)⟩,qq J,qq J,qq J,qq J,qq J,qq J,qq J,qq J,trivial⟩ ⟨Qg J J,trivial⟩⟩
  refine qo<|Qc ?_
  obtain rfl:=qe h
  exact ⟨_,J,wkA [] [] []⟩
 intro k hb
 subst hb
 refine qh<|qh<|Qd [q8,q8,q8,q8,qr 0,q8,q8,q8,qr 0,q8,q8,q8,q8,q8,q8,q8,q8] qj<|q0 J<|O (.d (.bool (decide (a.1 > 0)))) J ?_
 obtain ⟨cf,l,b⟩:=q9 b
 refine Q9 15 (fun A st=>∃ (aq ar au av aw ax ay az ba bb bc bd be bf : V),st = A [(97,qg cf),(96,bf),(95,be),(94,bd),(93,bc),(92,bb),(91,ba),(90,az),(89,ay),(88,ax),(87,aw),(86,av),(85,au),(84,ar),(83,aq)]) ?_ ?_
 ·refine Q8 J J l (fun l=>?_) (fun l=>?_)
  ·refine q0 J<|q0 J<|q0 J<|O (.d (G (w64 (a.1 - 1)))) J ?_
   obtain ⟨p,bg,l⟩:=q9 l
   refine qw bg J J<|Q7 (.d (.agg [G p.at_,G p.list_,G p.by_])) bg J<|q0 J<|q0 J ?_
   obtain ⟨q,bh,l⟩:=q9 l
   refine qw bh J J<|Q7 (.d (.agg [G q.at_,G q.list_,G q.by_])) bh J ?_
   obtain ⟨ab,cg,l⟩:=q9 l
   refine Yf [.d (.agg [G p.at_,G p.list_,G p.by_]),.d (.agg [G q.at_,G q.list_,G q.by_])] (q1Ok p q ab cg) J J J (.inl J)<|O (.d (.bool (decide (ab < 0)))) J<|O (.d (.bool (!(decide (ab < 0))))) J<|O (.d (.bool (!(decide (ab < 0))))) J<|qa ?_
   obtain rfl:=qe l
   exact ⟨_,_,_,_,_,_,_,_,_,_,_,_,_,_,J⟩
  refine qd J<|qd J<|qd J<|qd J<|qd J<|qd J<|qd J<|qd J<|qd J<|qd J<|qd J<|qd J<|qd J<|O (qg false) J<|qa ?_
  obtain rfl:=qe l
  exact ⟨_,_,_,_,_,_,_,_,_,_,_,_,_,_,J⟩
 rintro _ ⟨aq,ar,au,av,aw,ax,ay,az,ba,bb,bc,bd,be,bf,rfl⟩
 refine qa ?_
 refine qp J b (fun _ b=>?_) (fun _ b=>?_)
 ·refine qc<|q0 J<|q0 J<|q0 J<|q0 J<|q0 J ?_
  obtain ⟨ae,ch,b⟩:=q9 b
  obtain ⟨da,ci,b⟩:=q9 b
  have cj:=Kd ci
  refine K2 [(0,0)] [(0,0)] [.hs 0 3 0 k.length,q6 a.1,q6 a.2.1,q6 g.1,.d (.fn q1F q1C)] (q6 ae.1) 1 [(0,.dat 3 (ae.2.map Qa))] 1 (qwj j q1F q1C q1Ok k a.1 a.2.1 g.1 ae ch)<|qb J<|qs<|q0 J<|qb J<|qa<|Qb<|Ji<|Qc ?_
  exact ⟨_,(Option.some.inj b).symm,wkE [] [] [] J ⟨⟨_,J,Qx (by simp [cj]) J qt (ltd J)⟩,qq J,qq J,qq J,qq J,qq J,qq J,trivial⟩ ⟨Qg J J,trivial⟩⟩
 refine qo<|qc<|q0 J<|q0 J<|q0 J<|q0 J<|q0 J ?_
 obtain ⟨c,ck,b⟩:=q9 b
 obtain ⟨dc,cl,b⟩:=q9 b
 have ac:=Kd cl
 refine K2 [(0,0)] [(0,0)] [.hs 0 3 0 k.length,q6 a.1,q6 a.2.1,q6 g.1,.d (.fn q1F q1C)] (.d (.tup [G c.1,.bool c.2.1])) 1 [(0,.dat 3 (c.2.2.map Qa))] 1 (qwi j q1F q1C q1Ok k a.1 a.2.1 g.1 c ck)<|q0 J<|O (q6 c.1) J<|O (qg c.2.1) J<|qb J<|qb J<|qs<|q0 J<|qb J<|qs<|q0 J<|q0 J<|O (.d (G (w64 (c.1 - a.1)))) J<|q0 J<|q0 J<|O (.d (G (w64 (a.2.1 - c.1)))) J<|qb J<|qb J<|qs<|q0 J<|O (.d (G (w64 (Int.tdiv (w64 (a.2.1 - a.1)) 8)))) J<|qb J<|qs<|q0 J<|q0 J<|O (.d (.bool (decide ((w64 (c.1 - a.1)) < (w64 (a.2.1 - c.1)))))) J<|qa ?_
 refine qp J b (fun _ b=>?_) (fun _ b=>?_)
 ·refine qc<|q0 J<|q0 J<|O (.d (.bool (decide ((w64 (c.1 - a.1)) ≥ (w64 (Int.tdiv (w64 (a.2.1 - a.1)) 8)))))) J<|qb J<|qs<|q0 J<|q0 J<|q0 J<|q0 J<|q0 J ?_
  obtain ⟨af,cm,b⟩:=q9 b
  obtain ⟨dd,cn,b⟩:=q9 b
  have co:=Kd cn
  refine Jq [(0,0)] [(0,0)] [.hs 0 3 0 k.length,q6 a.1,q6 c.1,q6 f.1,.d (.fn q1F q1C)] (.d (.tup [])) [(0,.dat 3 (af.map Qa))] [(0,.dat 3 (af.map Qa))] 1 (hrec c.2.2 a.1 c.1 f.1 af cm) J J J (Y4 [(0,0)] [] [] J ⟨⟨_,J,Qx (by simp [ac]) J qt (ltd J)⟩,qq J,qq J,qq J,qq J,trivial⟩ ⟨Qg J J,trivial⟩) (Y4 [(0,0)] [] [] J ⟨qq J,trivial⟩ ⟨Qg J J,trivial⟩) J ⟨.inl J,trivial⟩<|qa<|qy<|q0 J<|O (.d (G (w64 (c.1 + 1)))) J<|qb J<|qx<|Qj<|Qc ?_
  exact ⟨_,(Option.some.inj b).symm,wkE [] [] [] J ⟨⟨_,J,Qx (by simp [ac,co]) J qt (ltd J)⟩,qq J,qq J,qq J,qq J,qq J,qq J,trivial⟩ ⟨Qg J J,trivial⟩⟩
 refine qc<|q0 J<|q0 J<|O (.d (.bool (decide ((w64 (a.2.1 - c.1)) ≥ (w64 (Int.tdiv (w64 (a.2.1 - a.1)) 8)))))) J<|qb J<|qs<|q0 J<|q0 J<|O (.d (G (w64 (c.1 + 1)))) J<|q0 J<|q0 J<|q0 J ?_
 obtain ⟨ag,cp,b⟩:=q9 b
 obtain ⟨de,cq,b⟩:=q9 b
 have cr:=Kd cq
 refine Jq [(0,0)] [(0,0)] [.hs 0 3 0 k.length,.d (G (w64 (c.1 + 1))),q6 a.2.1,q6 f.1,.d (.fn q1F q1C)] (.d (.tup [])) [(0,.dat 3 (ag.map Qa))] [(0,.dat 3 (ag.map Qa))] 1 (hrec c.2.2 (w64 (c.1 + 1)) a.2.1 f.1 ag cp) J J J (Y4 [(0,0)] [] [] J ⟨⟨_,J,Qx (by simp [ac]) J qt (ltd J)⟩,qq J,qq J,qq J,qq J,trivial⟩ ⟨Qg J J,trivial⟩) (Y4 [(0,0)] [] [] J ⟨qq J,trivial⟩ ⟨Qg J J,trivial⟩) J ⟨.inl J,trivial⟩<|qa<|qy<|q0 J<|qb J<|qx<|Qj<|Qc ?_
 exact ⟨_,(Option.some.inj b).symm,wkE [] [] [] J ⟨⟨_,J,Qx (by simp [ac,cr]) J qt (ltd J)⟩,qq J,qq J,qq J,qq J,qq J,qq J,trivial⟩ ⟨Qg J J,trivial⟩⟩
theorem qwn (n : Nat) (g : qn→qn→Option Int) (q1F : FuncId) (q1C : List DV) (q1Ok : ∀ (h : qn) (j : qn) (r : Int),g h j = some r→Pure Tryz.prog tab q1F ([.agg [G h.at_,G h.list_,G h.by_],.agg [G j.at_,G j.list_,G j.by_]] ++ q1C) (G r)) : ∀ (a : List qn) (b : Int) (c : Int) (f : Int) (r : List qn),q6d n g a b c f = some r→K0 Tryz.prog tab 187 [.hs 0 3 0 a.length,q6 b,q6 c,q6 f,.d (.fn q1F q1C)] [(0,.dat 3 (a.map Qa))] 1 (.d (.tup [])) [(0,.dat 3 (r.map Qa))] 1:=by
 induction n with
 | zero=>intro a b c f r k;cases k
 | succ n ih=>intro a b c f r k;exact qwm (q6d n g) g q1F q1C q1Ok ih a b c f r k
theorem qw6 (g : qn→qn→Option Int) (q1F : FuncId) (q1C : List DV) (q1Ok : ∀ (c : qn) (f : qn) (r : Int),g c f = some r→Pure Tryz.prog tab q1F ([.agg [G c.at_,G c.list_,G c.by_],.agg [G f.at_,G f.list_,G f.by_]] ++ q1C) (G r)) (a : List qn) (r : List qn) (b : q5o g a = some r) : K0 Tryz.prog tab 170 [.hs 0 3 0 a.length,.d (.fn q1F q1C)] [(0,.dat 3 (a.map Qa))] 1 (.d (.tup [])) [(0,.dat 3 (r.map Qa))] 1:=by
 unfold q5o at b
 refine Ka Tryz.func170 J qj qj J<|qc<|q0 J<|O (q6 (a.length : Int)) J<|qb J<|qa<|qy<|q0 J<|q0 J<|q0 J<|O (.d (.int .u64 (IntKind.wrap .u64 (a.length : Int)))) J ?_
 obtain ⟨h,l,b⟩:=q9 b
 refine Q5 (qe3 (IntKind.wrap .u64 (a.length : Int)) h l) J<|q0 J ?_
 obtain ⟨k,j,b⟩:=q9 b
 obtain ⟨o,m,b⟩:=q9 b
 have p:=Kd m
 obtain ⟨n,j⟩:=qe0 j
 refine K2 [(0,0)] [(0,0)] [.hs 0 3 0 a.length,q6 0,q6 (a.length : Int),q6 h,.d (.fn q1F q1C)] (.d (.tup [])) 1 [(0,.dat 3 (k.map Qa))] 1 (qwn n g q1F q1C q1Ok a 0 (a.length : Int) h k j)<|qx ?_
 obtain rfl:=qe b
 exact ⟨.inl J,_,J,wkA [] [] []⟩
theorem qw7 (a : List qn) (r : List qn) (b : qbw  a = some r) : K0 Tryz.prog tab 172 [.hs 0 3 0 a.length] [(0,.dat 3 (a.map Qa))] 1 (.fn 188 [.ref 1 1 0 0]) [(0,.dat 3 (r.map Qa)),(1,.cel 1 [[.hs 0 3 0 r.length]])] 2:=by
 unfold qbw at b
 refine Ka Tryz.func172 J qj qj J<|qc<|Ql (.ref 1 1 0 0) (.cel 1 [[.hs 0 3 0 a.length]]) J<|qb J<|qs<|O (.fn 188 [.ref 1 1 0 0]) J<|qb J<|qv ?_
 obtain rfl:=qe b
 exact ⟨.inr J,_,J,wkA [(1,1)] [] []⟩
theorem qzh (b : List (List qm)) (r : List (List qm) × List qn) (f : q9j  b = some r) : K0 Tryz.prog tab 154 [.hs 0 1 0 b.length] [(0,.dat 1 (b.map U9))] 1 (.fn 188 [.ref 1 1 0 0]) [(0,.dat 1 (r.1.map U9)),(1,.cel 1 [[.hs 2 3 0 r.2.length]]),(2,.dat 3 (r.2.map Qa))] 3:=by
 unfold q9j at f
 refine Ka Tryz.func154 J qj qj J<|qc<|qb J<|qs<|qb J<|qa<|qh<|qc<|q0 J<|O (q6 (b.length : Int)) J<|q0 J<|qa ?_
 obtain ⟨t,v,f⟩:=q9 f
 refine Qm (fun h=>h = t) (fun (h : List qn)=>⟨[(3,.hs 1 3 0 h.length)],[(0,.dat 1 (b.map U9)),(1,.dat 3 (h.map Qa))],2⟩) qf ?_ ?_
 ·refine Qf (Ut b) (fun (a : Int × List qn)=>⟨[(3,.hs 1 3 0 a.2.length),(8,.hs 0 1 0 b.length),(9,q6 (b.length : Int)),(10,q6 a.1)],[(0,.dat 1 (b.map U9)),(1,.dat 3 (a.2.map Qa))],2⟩) (0,[]) t v (wkA [] [] [1]) ?_
  intro a ag j
  unfold Ut at j
  refine qc<|O (.d (.bool (decide (a.1 < (b.length : Int))))) J<|qa<|qh ?_
  refine qp J j (fun _ j=>?_) (fun _ j=>?_)
  ·refine qo<|qh ?_
   obtain ⟨w,l,j⟩:=q9 j
   refine Qm (fun m=>m = w) (fun (m : List qn)=>⟨[(3,.hs 1 3 0 m.length),(8,.hs 0 1 0 b.length),(9,q6 (b.length : Int)),(10,q6 a.1)],[(0,.dat 1 (b.map U9)),(1,.dat 3 (m.map Qa))],2⟩) qf ?_ ?_
   ·refine qc<|q0 J ?_
    obtain ⟨n,u,l⟩:=q9 l
    refine qw u J J<|Q7 (.d (.sl 2 (n.map Q3))) u J<|qb J<|qb J<|qs<|q0 J<|Qy J<|q0 J<|qa ?_
    obtain ⟨x,y,l⟩:=q9 l
    refine Q1<|Qf (q43 n a) (fun (k : Int × List qn)=>⟨[(3,.hs 1 3 0 k.2.length),(4,q6 a.1),(8,.hs 0 1 0 b.length),(9,q6 (b.length : Int)),(10,q6 a.1),(15,.d (.sl 2 (n.map Q3))),(16,q6 (n.length : Int)),(17,q6 k.1)],[(0,.dat 1 (b.map U9)),(1,.dat 3 (k.2.map Qa))],2⟩) (0,a.2) x y (wkA [(1,1)] [] []) ?_
    intro k ah g
    unfold q43 at g
    refine qc<|O (.d (.bool (decide (k.1 < (n.length : Int))))) J<|qa<|qh ?_
    refine qp J g (fun _ g=>?_) (fun _ g=>?_)
    ·refine qo<|qh<|Q1<|qc ?_
     obtain ⟨c,z,g⟩:=q9 g
     refine Qz (enc:=Q3) z J<|O (.d (.agg [G c.Lo,G c.Hi])) J<|Qe J J<|qz 2 (.dat 2 [[G c.Lo,G c.Hi]]) J<|qa<|qy<|q0 J<|O (.ref 2 2 0 0) J<|O (q6 c.Lo) J<|q0 J<|O (.d (.agg [G c.Lo,G a.1,G 1])) J<|O (.ref 2 2 0 1) J<|O (q6 c.Hi) J<|q0 J<|O (.d (.agg [G c.Hi,G a.1,G (-1)])) J<|Ql (.hs 3 3 0 [({at_:=c.Lo,list_:=a.1,by_:=1} : qn),({at_:=c.Hi,list_:=a.1,by_:=(-1)} : qn)].length) (.dat 3 ([({at_:=c.Lo,list_:=a.1,by_:=1} : qn),({at_:=c.Hi,list_:=a.1,by_:=(-1)} : qn)].map Qa)) J ?_
     obtain ⟨ai,aa,g⟩:=q9 g
     refine Yr (xs:=k.2) (ys:=[({at_:=c.Lo,list_:=a.1,by_:=1} : qn),({at_:=c.Hi,list_:=a.1,by_:=(-1)} : qn)]) (enc:=Qa) (.hs 3 3 0 [({at_:=c.Lo,list_:=a.1,by_:=1} : qn),({at_:=c.Hi,list_:=a.1,by_:=(-1)} : qn)].length) aa J J J J J J J (Yo J J) J J J J<|qb J<|qx<|Qj<|qy<|O (.d (G (w64 (k.1 + 1)))) J<|q0 J<|qx ?_
     exact ⟨_,(Option.some.inj g).symm,wkA [(1,4)] [] []⟩
    refine Qb ?_
    refine ⟨_,(Option.some.inj g).symm,fun hm=>?_⟩
    subst hm
    obtain rfl:=qe l
    exact ⟨_,J,wkA [(1,1)] [] []⟩
   intro m hb
   subst hb
   refine qy<|O (.d (G (w64 (a.1 + 1)))) J<|q0 J<|qx ?_
   exact ⟨_,(Option.some.inj j).symm,wkA [(1,1)] [] []⟩
  refine Qb ?_
  refine ⟨_,(Option.some.inj j).symm,fun hm=>?_⟩
  subst hm
  exact ⟨_,J,wkA [(1,1)] [] []⟩
 intro h hb
 subst hb
 refine qc<|q0 J ?_
 obtain ⟨p,ab,f⟩:=q9 f
 obtain ⟨aj,ac,f⟩:=q9 f
 have ad:=Kd ac
 refine K2 [(0,1)] [(0,1),(1,0)] [.hs 1 3 0 h.length,.d (.fn 171 [])] (.d (.tup [])) 1 [(1,.dat 3 (p.map Qa)),(0,.dat 1 (b.map U9))] 2 (qw6 (fun q s=>q9i q s) 171 [] (fun q s r hr=>qzg q s r hr) h p ab)<|qs<|q0 J ?_
 obtain ⟨o,ae,f⟩:=q9 f
 obtain ⟨ak,af,f⟩:=q9 f
 have al:=Kd af
 refine Jq [(0,1)] [(0,2),(1,0),(2,1)] [.hs 1 3 0 h.length] (.fn 188 [.ref 2 1 0 0]) [(1,.dat 3 (o.map Qa)),(2,.cel 1 [[.hs 1 3 0 o.length]])] [(1,.dat 3 (o.map Qa)),(2,.cel 1 [[.hs 1 3 0 o.length]]),(0,.dat 1 (b.map U9))] 3 (qw7 p o ae) J J J (Y4 [(0,1)] [] [] J ⟨⟨_,J,Qx (by simp [ad]) J qt (ltd J)⟩,trivial⟩ ⟨Qg J J,trivial⟩) (Y4 [(0,2),(1,0),(2,1)] [] [] J ⟨⟨_,J,(q1u (.cons (.ref J qt (ltd J)) .nil))⟩,trivial⟩ ⟨Qg J J,⟨ltd J,.inr ⟨qt,_,J,Zt (.cons (.hs J qt (ltd J)) J .nil)⟩⟩,trivial⟩) J ⟨.inl J,.inl J,.inr ⟨J,J⟩,trivial⟩<|qb J<|qv ?_
 obtain rfl:=qe f
 exact ⟨.inr J,_,J,wkA [(1,2),(2,1)] [] []⟩
theorem qzi (f : Int) (j : Bool) (b : Int) (c : List qm) (r : Bool × Int × List qm) (a : q9k  f j b c = some r) : K0 Tryz.prog tab 153 [q6 f,.ref 0 1 0 0,.ref 1 1 0 0,.ref 2 1 0 0] [(0,.dat 1 [[.bool j]]),(1,.dat 1 [[G b]]),(2,.cel 1 [[.hs 3 2 0 c.length]]),(3,.dat 2 (c.map Q3))] 4 (.d (.tup [])) [(0,.dat 1 [[.bool r.1]]),(1,.dat 1 [[G r.2.1]]),(2,.cel 1 [[.hs 4 2 0 r.2.2.length]]),(4,.dat 2 (r.2.2.map Q3))] 5:=by
 unfold q9k at a
 refine Ka Tryz.func153 J qj qj J<|qh<|qc<|O (qg j) J<|O (qg (!j)) J ?_
 obtain ⟨ab,h,a⟩:=q9 a
 refine Q9 5 (fun A st=>∃ (l m n o : V),st = A [(12,qg ab),(11,o),(10,n),(9,m),(8,l)]) ?_ ?_
 ·refine Q8 J J h (fun h=>?_) (fun h=>?_)
  ·refine qd J<|qd J<|qd J<|O (qg true) J<|qa ?_
   obtain rfl:=qe h
   exact ⟨_,_,_,_,J⟩
  refine O (q6 b) J<|q0 J<|O (qg (b == f)) J<|O (qg (b == f)) J<|qa ?_
  obtain rfl:=qe h
  exact ⟨_,_,_,_,J⟩
 rintro _ ⟨l,m,n,o,rfl⟩
 refine qa ?_
 refine qp J a (fun _ a=>?_) (fun _ a=>?_)
 ·refine q1h ?_
  obtain rfl:=qe a
  exact ⟨.inr J,_,J,wkA [(4,3)] [] []⟩
 refine qo<|qc<|O (.hs 3 2 0 c.length) J<|O (q6 (c.length : Int)) J<|qb J<|qa<|qh<|Qd [q8,q8,qr 1,qr 3,q8,q8,q8,q8,qr 2,q8,q8,q8] qj<|q0 J<|O (.d (.bool (decide ((c.length : Int) > 0)))) J ?_
 obtain ⟨ac,g,a⟩:=q9 a
 refine Q9 10 (fun A st=>∃ (p q s t u v w x y : V),st = A [(26,qg ac),(25,y),(24,x),(23,w),(22,v),(21,u),(20,t),(19,s),(18,q),(17,p)]) ?_ ?_
 ·refine Q8 J J g (fun g=>?_) (fun g=>?_)
  ·refine O (.hs 3 2 0 c.length) J<|q0 J<|O (.d (G (w64 ((c.length : Int) - 1)))) J ?_
   obtain ⟨k,z,g⟩:=q9 g
   refine qw z J J<|O (.ref 3 2 (w64 ((c.length : Int) - 1)).toNat 1) J<|Q7 (q6 k.Hi) z J<|O (q6 b) J<|O (qg (k.Hi == b)) J<|O (qg (k.Hi == b)) J<|qa ?_
   obtain rfl:=qe g
   exact ⟨_,_,_,_,_,_,_,_,_,J⟩
  refine qd J<|qd J<|qd J<|qd J<|qd J<|qd J<|qd J<|qd J<|O (qg false) J<|qa ?_
  obtain rfl:=qe g
  exact ⟨_,_,_,_,_,_,_,_,_,J⟩
 rintro _ ⟨p,q,s,t,u,v,w,x,y,rfl⟩
 refine qa ?_
 refine qp J a (fun _ a=>?_) (fun _ a=>?_)
 ·refine qy<|O (.hs 3 2 0 c.length) J<|q0 J<|O (.d (G (w64 ((c.length : Int) - 1)))) J<|q0 J ?_
  obtain ⟨ad,aa,a⟩:=q9 a
  refine qw aa J J<|O (.ref 3 2 (w64 ((c.length : Int) - 1)).toNat 1) J<|Qt (ds:=[G f]) ({Lo:=ad.Lo,Hi:=f} : qm) aa J J J J J J J J (leb J) J<|qx ?_
  obtain rfl:=qe a
  exact ⟨.inl J,_,J,wkE [(4,3)] [] [] J ⟨qq J,trivial⟩ ⟨Qg J J,Qg J J,⟨ltd J,.inr ⟨qt,_,J,Zt (.cons (Qx qf J qt (ltd J)) J .nil)⟩⟩,Qg J J,trivial⟩⟩
 refine qy<|O (.hs 3 2 0 c.length) J<|O (q6 b) J<|q0 J<|O (.d (.agg [G b,G f])) J<|Ql (.hs 4 2 0 [({Lo:=b,Hi:=f} : qm)].length) (.dat 2 ([({Lo:=b,Hi:=f} : qm)].map Q3)) J ?_
 obtain ⟨ae,af,a⟩:=q9 a
 refine Yr (xs:=c) (ys:=[({Lo:=b,Hi:=f} : qm)]) (enc:=Q3) (.hs 4 2 0 [({Lo:=b,Hi:=f} : qm)].length) af J J J J J J J (Yo J J) J J J J<|qz 2 (.cel 1 [[.hs 5 2 0 ae.length]]) J<|qx ?_
 obtain rfl:=qe a
 exact ⟨.inl J,_,J,wkA [(4,5)] [] []⟩
theorem qm7 (l : List qm) (m : List qm) (q : Bool→Bool→Option Bool) (p2F : FuncId) (p2C : List DV) (p2Ok : ∀ (u : Bool) (w : Bool) (r : Bool),q u w = some r→Pure Tryz.prog tab p2F ([.bool u,.bool w] ++ p2C) (.bool r)) (r : List qm) (h : q2x l m q = some r) : Pure Tryz.prog tab 122 [.sl 2 (l.map Q3),.sl 2 (m.map Q3),.fn p2F p2C] (.sl 2 (r.map Q3)):=by
 unfold q2x at h
 refine Qi Tryz.func122 J qj qj J<|qc<|Ql (.ref 0 1 0 0) (.dat 1 [[.fn p2F p2C]]) J<|qb J<|qs<|Qe J J<|qs<|Qe J J<|qs<|Qe J J<|Qe J J<|qz 3 (.dat 1 [[G 0]]) J<|qz 4 (.dat 1 [[.bool false]]) J<|qs<|O (.fn 153 [.ref 4 1 0 0,.ref 3 1 0 0,.ref 2 1 0 0]) J<|Qe J J<|qz 5 (.cel 1 [[.fn 153 [.ref 4 1 0 0,.ref 3 1 0 0,.ref 2 1 0 0]]]) J<|qa<|qh<|qc<|q0 J<|q0 J<|Ql (.hs 6 1 0 [l,m].length) (.dat 1 ([l,m].map U9)) J ?_
 obtain ⟨b,h2,h⟩:=q9 h
 obtain ⟨u3,h4,h⟩:=q9 h
 have h5:=Kd h4
 refine K2 [(0,6)] [(0,3),(1,3),(2,3),(3,3),(4,3),(5,3),(6,0),(7,1),(8,2)] [.hs 6 1 0 [l,m].length] (.fn 188 [.ref 7 1 0 0]) 3 [(6,.dat 1 (b.1.map U9)),(7,.cel 1 [[.hs 8 3 0 b.2.length]]),(8,.dat 3 (b.2.map Qa)),(0,.dat 1 [[.fn p2F p2C]]),(1,.dat 2 [[0,0].flatMap (eI .i64)]),(2,.dat 1 [[.nilsl]]),(3,.dat 1 [[G 0]]),(4,.dat 1 [[.bool false]]),(5,.cel 1 [[.fn 153 [.ref 4 1 0 0,.ref 3 1 0 0,.ref 2 1 0 0]]])] 9 (qzh [l,m] b h2)<|qa<|Q1 ?_
 obtain ⟨af,s,h⟩:=q9 h
 refine q88 (fun j=>j = af) (fun (j : List qm)=>⟨[(8,.ref 0 1 0 0)],[(0,.cel 1 [[.hs 1 2 0 j.length]]),(1,.dat 2 (j.map Q3))],2⟩) ?_ ?_
 ·refine Yj (st':=⟨[(5,.ref 0 1 0 0),(6,.d (.nilsl)),(7,.ref 1 2 0 0),(8,.ref 2 1 0 0),(9,.ref 3 1 0 0),(10,.ref 4 1 0 0),(11,.ref 5 1 0 0),(17,.fn 188 [.ref 6 1 0 0])],[(0,.dat 1 [[.fn p2F p2C]]),(1,.dat 2 [[0,0].flatMap (eI .i64)]),(2,.dat 1 [[.nilsl]]),(3,.dat 1 [[G 0]]),(4,.dat 1 [[.bool false]]),(5,.cel 1 [[.fn 153 [.ref 4 1 0 0,.ref 3 1 0 0,.ref 2 1 0 0]]]),(6,.cel 1 [[.hs 7 3 0 b.2.length]]),(7,.dat 3 (b.2.map Qa))],8⟩) (wkA [(0,0),(1,1),(2,2),(3,3),(4,4),(5,5),(6,7),(7,8)] [] []) ?_ qf
  refine q89 [.ref 6 1 0 0] (.inl J) Tryz.func188 J qj qj J ?_
  intro A154 B155 hA154 hB155
  refine qc<|O (.hs 7 3 0 b.2.length) J<|O (q6 (b.2.length : Int)) J<|q0 J<|qa ?_
  obtain ⟨ag,ah,s⟩:=q9 s
  refine Q1<|Qf (q44 b q) (fun (c : Int × List Int × Int × Bool × List qm)=>⟨[(0,.yld 8),(5,.hs 7 3 0 b.2.length),(6,q6 (b.2.length : Int)),(7,q6 c.1)],[(0,.dat 1 [[.fn p2F p2C]]),(1,.dat 2 [c.2.1.flatMap (eI .i64)]),(2,.cel 1 [[.hs 9 2 0 c.2.2.2.2.length]]),(3,.dat 1 [[G c.2.2.1]]),(4,.dat 1 [[.bool c.2.2.2.1]]),(5,.cel 1 [[.fn 153 [.ref 4 1 0 0,.ref 3 1 0 0,.ref 2 1 0 0]]]),(6,.cel 1 [[.hs 7 3 0 b.2.length]]),(7,.dat 3 (b.2.map Qa)),(8,.loop [(5,.ref 0 1 0 0),(6,.d (.nilsl)),(7,.ref 1 2 0 0),(8,.ref 2 1 0 0),(9,.ref 3 1 0 0),(10,.ref 4 1 0 0),(11,.ref 5 1 0 0),(17,.fn 188 [.ref 6 1 0 0])] [18] A154 B155 .ready none),(9,.dat 2 (c.2.2.2.2.map Q3))],10⟩) (0,[0,0],0,false,[]) ag ah (wkA [] [] [9]) ?_
  intro c an g
  unfold q44 at g
  refine qc<|O (.d (.bool (decide (c.1 < (b.2.length : Int))))) J<|qa<|qh ?_
  refine qp J g (fun _ g=>?_) (fun _ g=>?_)
  ·refine qo<|qh<|Q1<|qc ?_
   obtain ⟨a,x,g⟩:=q9 g
   refine qw x J J<|Q7 (.d (.agg [G a.at_,G a.list_,G a.by_])) x J<|Qe J J<|qz 10 (.dat 3 [[G a.at_,G a.list_,G a.by_]]) J<|qs<|q0 J<|O (.d (.agg [G a.at_,G a.list_,G a.by_])) J ?_
   obtain ⟨ai,f,g⟩:=q9 g
   refine q7s (fun k=>k = ai) (fun (k : List Int × Bool × List qm)=>⟨[(0,.yld 8),(5,.hs 7 3 0 b.2.length),(6,q6 (b.2.length : Int)),(7,q6 c.1),(13,qg true)],[(0,.dat 1 [[.fn p2F p2C]]),(1,.dat 2 [k.1.flatMap (eI .i64)]),(2,.cel 1 [[.hs 9 2 0 k.2.2.length]]),(3,.dat 1 [[G a.at_]]),(4,.dat 1 [[.bool k.2.1]]),(5,.cel 1 [[.fn 153 [.ref 4 1 0 0,.ref 3 1 0 0,.ref 2 1 0 0]]]),(6,.cel 1 [[.hs 7 3 0 b.2.length]]),(7,.dat 3 (b.2.map Qa)),(8,.loop [(5,.ref 0 1 0 0),(6,.d (.nilsl)),(7,.ref 1 2 0 0),(8,.ref 2 1 0 0),(9,.ref 3 1 0 0),(10,.ref 4 1 0 0),(11,.ref 5 1 0 0),(17,.fn 188 [.ref 6 1 0 0])] [18] A154 B155 .ready none),(9,.dat 2 (k.2.2.map Q3))],10⟩) hA154 hB155 J J J J J J ?_ ?_
   ·refine qy<|Qe J J<|qz 11 (.dat 3 [[G a.at_,G a.list_,G a.by_]]) J<|qx ?_
    refine ⟨J,_,J,?_⟩
    refine Q1<|qc<|O (.fn 153 [.ref 4 1 0 0,.ref 3 1 0 0,.ref 2 1 0 0]) J<|O (.ref 11 3 0 0) J<|O (q6 a.at_) J ?_
    obtain ⟨n,aj,f⟩:=q9 f
    refine K2 [(0,4),(1,3),(2,2),(3,9)] [(0,5),(1,5),(2,2),(3,1),(4,0),(5,5),(6,5),(7,5),(8,5),(9,3),(10,5),(11,5),(12,4)] [q6 a.at_,.ref 4 1 0 0,.ref 3 1 0 0,.ref 2 1 0 0] (.d (.tup [])) 4 [(2,.cel 1 [[.hs 12 2 0 n.2.2.length]]),(3,.dat 1 [[G n.2.1]]),(4,.dat 1 [[.bool n.1]]),(12,.dat 2 (n.2.2.map Q3)),(0,.dat 1 [[.fn p2F p2C]]),(1,.dat 2 [c.2.1.flatMap (eI .i64)]),(5,.cel 1 [[.fn 153 [.ref 4 1 0 0,.ref 3 1 0 0,.ref 2 1 0 0]]]),(6,.cel 1 [[.hs 7 3 0 b.2.length]]),(7,.dat 3 (b.2.map Qa)),(8,.loop [(5,.ref 0 1 0 0),(6,.d (.nilsl)),(7,.ref 1 2 0 0),(8,.ref 2 1 0 0),(9,.ref 3 1 0 0),(10,.ref 4 1 0 0),(11,.ref 5 1 0 0),(17,.fn 188 [.ref 6 1 0 0])] [18] A154 B155 .busy none),(10,.dat 3 [[G a.at_,G a.list_,G a.by_]]),(11,.dat 3 [[G a.at_,G a.list_,G a.by_]])] 13 (qzi a.at_ c.2.2.2.1 c.2.2.1 c.2.2.2.2 n aj)<|qa<|qh<|Qd [Qh 1,q8,q8,qr 11,q8,qr 1,q8,qr 11,q8] qj<|O (.ref 11 3 0 1) J<|O (q6 a.list_) J ?_
    obtain ⟨t,y,f⟩:=q9 f
    refine Z4 y J J J J J<|q4x (enc:=(eI .i64)) (q6 t) y (fun _=>rfl) J J J J J J<|O (.ref 11 3 0 2) J<|O (q6 a.by_) J<|O (.d (G (w64 (t + a.by_)))) J ?_
    obtain ⟨ao,z,f⟩:=q9 f
    refine Z4 z J J J J J<|qb4 (enc:=(eI .i64)) (w64 (t + a.by_)) z (fun _=>rfl) J J J J J J J J<|qa<|Qd [Qh 4,Qh 3,q8,q8,qr 1,q8,q8,qr 1,q8,qr 0,qr 11,q8] qj<|O (.ref 11 3 0 0) J<|O (q6 a.at_) J<|O (.d (.fn p2F p2C)) J ?_
    obtain ⟨o,aa,f⟩:=q9 f
    refine Z4 aa J J J J J<|q4x (enc:=(eI .i64)) (q6 o) aa (fun _=>rfl) J J J J J J<|O (.d (.bool (decide (o > 0)))) J ?_
    obtain ⟨p,ab,f⟩:=q9 f
    refine Z4 ab J J J J J<|q4x (enc:=(eI .i64)) (q6 p) ab (fun _=>rfl) J J J J J J<|O (.d (.bool (decide (p > 0)))) J ?_
    obtain ⟨ac,ak,f⟩:=q9 f
    refine Yf [.d (.bool (decide (o > 0))),.d (.bool (decide (p > 0)))] (p2Ok (decide (o > 0)) (decide (p > 0)) ac ak) J J J (.inl J)<|qz 3 (.dat 1 [[G a.at_]]) J<|qz 4 (.dat 1 [[.bool ac]]) J<|qx<|Qj<|Qc ?_
    refine ⟨_,J,?_⟩
    obtain rfl:=qe f
    exact ⟨_,J,wkA [(9,12)] [] []⟩
   intro k hb
   subst hb
   refine O (qg false) J<|qa<|Z6 J<|qo<|Qc<|Qj<|qy<|O (.d (G (w64 (c.1 + 1)))) J<|q0 J<|qx ?_
   exact ⟨_,(Option.some.inj g).symm,wkA [(9,9)] [] []⟩
  refine Qb ?_
  refine ⟨_,(Option.some.inj g).symm,fun hm=>?_⟩
  subst hm
  refine ⟨.inl J,_,J,_,_,.nor,J,qt,?_⟩
  refine q6z<|Qc ?_
  obtain rfl:=qe s
  exact ⟨_,J,wkA [(0,2),(1,9)] [] []⟩
 intro j st hb hw
 subst hb
 refine Yj hw ?_ qf
 refine qc<|O (.hs 1 2 0 j.length) J<|qb J<|qv ?_
 obtain rfl:=qe h
 exact finD (.inr J) (v:=.hs 1 2 0 j.length) J (Jb J J) (.refl _)
theorem qzb (a : Bool) (b : Bool) (r : Bool) (c : q9h a b = some r) : Pure Tryz.prog tab 123 [.bool a,.bool b] (.bool r):=by
 unfold q9h at c
 refine Qi Tryz.func123 J qj qj J<|qc<|qb J<|qs<|q0 J<|qb J<|qv ?_
 obtain rfl:=qe c
 exact Q4 (qg a) J
theorem qm5 (c : List qm) (r : List qm × Int) (a : q2w c = some r) : Pure Tryz.prog tab 77 [.sl 2 (c.map Q3)] (.tup [.sl 2 (r.1.map Q3),G r.2]):=by
 unfold q2w at a
 refine Qi Tryz.func77 J qj qj J<|qc<|qb J<|qb J<|qa<|qh<|qc<|q0 J<|Qy J<|O (.d (.bool (decide ((c.length : Int) > 400)))) J<|qa ?_
 refine qp J a (fun _ a=>?_) (fun _ a=>?_)
 ·refine qc<|qb J<|qb J<|qv ?_
  obtain rfl:=qe a
  exact finD (.inr J) (v:=.d (.tup [.nilsl,G 4])) J J (Yc (.cons (.nil _) (.cons (.refl _) .nil)))
 refine qo<|qh<|qc<|q0 J ?_
 obtain ⟨h,j,a⟩:=q9 a
 refine Q5 (qvx c (fun b=>qc4 b) 120 [] (fun b r hr=>qza b r hr) h j) J<|qa ?_
 refine qp J a (fun _ a=>?_) (fun _ a=>?_)
 ·refine qc<|qb J<|qb J<|qv ?_
  obtain rfl:=qe a
  exact finD (.inr J) (v:=.d (.tup [.nilsl,G 8])) J J (Yc (.cons (.nil _) (.cons (.refl _) .nil)))
 refine qo<|qc<|q0 J ?_
 obtain ⟨g,k,a⟩:=q9 a
 refine Q5 (qkj (.cons (.refl _) (.cons (.nil _) (.cons (.refl _) .nil))) (qm7 c [] (fun b f=>q9h b f) 123 [] (fun b f r hr=>qzb b f r hr) g k)) J<|qb J<|qb J<|qv ?_
 obtain rfl:=qe a
 exact Q4 (.d (.tup [.sl 2 (g.map Q3),G 0])) J
theorem qw0 (c : List qm) (f : List qm) (r : Bool) (b : q8i c f = some r) : Pure Tryz.prog tab 114 [.sl 2 (c.map Q3),.sl 2 (f.map Q3)] (.bool r):=by
 unfold q8i at b
 refine Qi Tryz.func114 J qj qj J<|qc<|qb J<|qa<|qh<|qc<|q0 J<|Qy J<|q0 J<|Qy J<|O (.d (.bool ((c.length : Int) != (f.length : Int)))) J<|qa ?_
 refine qp J b (fun _ b=>?_) (fun _ b=>?_)
 ·refine qc<|qb J<|qv ?_
  obtain rfl:=qe b
  exact Q4 (qg false) J
 refine qo<|qh<|qc<|q0 J<|Qy J<|q0 J<|qa ?_
 obtain ⟨l,m,b⟩:=q9 b
 refine Qm (fun k=>.inl k = l) (fun (k : Unit)=>⟨[],[],0⟩) qf ?_ ?_
 ·refine Qf (qbq c f) (fun (g : Int)=>⟨[(0,.d (.sl 2 (c.map Q3))),(1,.d (.sl 2 (f.map Q3))),(12,q6 (c.length : Int)),(13,q6 g)],[],0⟩) 0 l m (wkA [] [] []) ?_
  intro g p a
  unfold qbq at a
  refine qc<|O (.d (.bool (decide (g < (c.length : Int))))) J<|qa<|qh ?_
  refine qp J a (fun _ a=>?_) (fun _ a=>?_)
  ·refine qo<|qh<|Q1<|qc<|q0 J<|qb J<|qa<|qh<|Qd [q8,q8,q8,q8,q8,q8,q8,q8,q8] qj<|q0 J<|q0 J ?_
   obtain ⟨h,n,a⟩:=q9 a
   refine Qz (enc:=Q3) n J<|O (.d (.agg [G h.Lo,G h.Hi])) J<|q0 J<|q0 J ?_
   obtain ⟨j,o,a⟩:=q9 a
   refine Qz (enc:=Q3) o J<|O (.d (.agg [G j.Lo,G j.Hi])) J<|O (.d (.bool (!((h.Lo == j.Lo) && ((h.Hi == j.Hi) && true))))) J<|qa ?_
   refine qp J a (fun _ a=>?_) (fun _ a=>?_)
   ·refine qc<|qb J<|qv ?_
    refine ⟨_,(Option.some.inj a).symm,fun hm=>?_⟩
    subst hm
    obtain rfl:=qe b
    exact Q4 (qg false) J
   refine qo<|Qc<|Qj<|qy<|O (.d (G (w64 (g + 1)))) J<|q0 J<|qx ?_
   exact ⟨_,(Option.some.inj a).symm,wkA [] [] []⟩
  refine Qb ?_
  refine ⟨_,(Option.some.inj a).symm,fun hm=>?_⟩
  subst hm
  exact ⟨_,J,wkA [] [] []⟩
 intro k hb
 subst hb
 refine qc<|qb J<|qv ?_
 obtain rfl:=qe b
 exact Q4 (qg true) J
theorem qkw (b : List ql) (m : List qm) (p : Int) (l : Int) (h : Int) (a : Int) (g : List qm) (r : List qm × Int × Int × List ql) (f : q5e  b m p l h a g = some r) : K0 Tryz.prog tab 138 [.ref 0 4 0 0,q6 h,q6 a,.d (.sl 2 (g.map Q3))] [(0,.cel 4 [[.hs 1 4 0 b.length,.d (.sl 2 (m.map Q3)),q6 p,q6 l]]),(1,.dat 4 (b.map qu))] 2 (.d (.tup [])) [(0,.cel 4 [[.hs 2 4 0 r.2.2.2.length,.d (.sl 2 (r.1.map Q3)),q6 r.2.1,q6 r.2.2.1]]),(2,.dat 4 (r.2.2.2.map qu))] 3:=by
 unfold q5e at f
 refine Ka Tryz.func138 J qj qj J<|qh<|qc<|q0 J<|Qy J<|O (.d (.bool (decide ((g.length : Int) > 0)))) J ?_
 obtain ⟨am,t,f⟩:=q9 f
 refine Q9 8 (fun A st=>∃ (v w x y z aa ab : V),st = A [(21,qg am),(20,ab),(19,aa),(18,z),(17,y),(16,x),(15,w),(14,v)]) ?_ ?_
 ·refine Q8 J J t (fun t=>?_) (fun t=>?_)
  ·refine q0 J<|O (.ref 0 4 0 0) J<|O (.ref 0 4 0 3) J<|O (q6 l) J<|q0 J<|O (qg (l == h)) J<|O (qg (l == h)) J<|qa ?_
   obtain rfl:=qe t
   exact ⟨_,_,_,_,_,_,_,J⟩
  refine qd J<|qd J<|qd J<|qd J<|qd J<|qd J<|O (qg false) J<|qa ?_
  obtain rfl:=qe t
  exact ⟨_,_,_,_,_,_,_,J⟩
 rintro _ ⟨v,w,x,y,z,aa,ab,rfl⟩
 obtain ⟨an,q,f⟩:=q9 f
 refine Q9 8 (fun A st=>∃ (ac ad ae af ag ah ai : V),st = A [(29,qg an),(28,ai),(27,ah),(26,ag),(25,af),(24,ae),(23,ad),(22,ac)]) ?_ ?_
 ·refine Q8 J J q (fun q=>?_) (fun q=>?_)
  ·refine q0 J<|O (.ref 0 4 0 0) J<|O (.ref 0 4 0 1) J<|O (.d (.sl 2 (m.map Q3))) J<|q0 J ?_
   obtain ⟨aj,ao,q⟩:=q9 q
   refine Q5 (qw0 m g aj ao) J<|O (qg aj) J<|qa ?_
   obtain rfl:=qe q
   exact ⟨_,_,_,_,_,_,_,J⟩
  refine qd J<|qd J<|qd J<|qd J<|qd J<|qd J<|O (qg false) J<|qa ?_
  obtain rfl:=qe q
  exact ⟨_,_,_,_,_,_,_,J⟩
 rintro _ ⟨ac,ad,ae,af,ag,ah,ai,rfl⟩
 refine qa ?_
 refine qp J f (fun _ f=>?_) (fun _ f=>?_)
 ·refine qh<|qc<|q0 J<|O (.ref 0 4 0 0) J<|O (.ref 0 4 0 2) J<|O (q6 p) J<|qb J<|qa ?_
  obtain ⟨ak,ap,f⟩:=q9 f
  refine Qm (fun s=>s = ak) (fun (s : List ql)=>⟨[(0,.ref 0 4 0 0),(2,q6 a)],[(0,.cel 4 [[.hs 1 4 0 s.length,.d (.sl 2 (m.map Q3)),q6 p,q6 l]]),(1,.dat 4 (s.map qu))],2⟩) qf ?_ ?_
  ·refine Qf (q5f a) (fun (j : Int × List ql)=>⟨[(0,.ref 0 4 0 0),(2,q6 a),(8,q6 j.1)],[(0,.cel 4 [[.hs 1 4 0 j.2.length,.d (.sl 2 (m.map Q3)),q6 p,q6 l]]),(1,.dat 4 (j.2.map qu))],2⟩) (p,b) ak ap (wkA [] [] []) ?_
   intro j ax n
   unfold q5f at n
   refine qh<|qc<|q0 J<|q0 J<|O (.ref 0 4 0 0) J<|O (.ref 0 4 0 0) J<|O (.hs 1 4 0 j.2.length) J<|O (q6 (j.2.length : Int)) J<|O (.d (.bool (decide (j.1 < (j.2.length : Int))))) J<|qa ?_
   refine qp J n (fun _ n=>?_) (fun _ n=>?_)
   ·refine qo<|qh<|Q1<|qy<|q0 J<|O (.ref 0 4 0 0) J<|O (.ref 0 4 0 0) J<|O (.hs 1 4 0 j.2.length) J<|q0 J<|q0 J ?_
    obtain ⟨u,al,n⟩:=q9 n
    refine qw al J J<|O (.ref 1 4 j.1.toNat 2) J<|Qt (ds:=[G a]) ({X0:=u.X0,Y0:=u.Y0,X1:=a,Y1:=u.Y1} : ql) al J J J J J J J J (leb J) J<|qx<|Qj<|qy<|q0 J<|O (.d (G (w64 (j.1 + 1)))) J<|qb J<|qx ?_
    exact ⟨_,(Option.some.inj n).symm,wkE [] [] [] J ⟨⟨_,J,.ref J qt (ltd J)⟩,qq J,qq J,trivial⟩ ⟨⟨ltd J,.inr ⟨qt,_,J,Zt (.cons (Qx qf J qt (ltd J)) J (.cons (.d (.refl _)) J (.cons (.d (.refl _)) J (.cons (.d (.refl _)) J .nil))))⟩⟩,Qg J J,trivial⟩⟩
   refine Qb ?_
   refine ⟨_,(Option.some.inj n).symm,fun hm=>?_⟩
   subst hm
   exact ⟨_,J,wkA [] [] []⟩
  intro s hb
  subst hb
  refine qc<|q0 J<|q0 J<|O (.ref 0 4 0 0) J<|O (.ref 0 4 0 3) J<|qz 0 (.cel 4 [[.hs 1 4 0 s.length,.d (.sl 2 (m.map Q3)),q6 p,q6 a]]) J<|qv ?_
  obtain rfl:=qe f
  exact ⟨.inr J,_,J,wkA [(2,1)] [] []⟩
 refine qo<|qc<|q0 J<|q0 J<|q0 J<|q0 J<|O (.ref 0 4 0 0) J<|O (.ref 0 4 0 0) J<|O (.hs 1 4 0 b.length) J<|O (q6 (b.length : Int)) J<|q0 J<|q0 J<|O (.ref 0 4 0 0) J<|O (.ref 0 4 0 2) J<|qz 0 (.cel 4 [[.hs 1 4 0 b.length,.d (.sl 2 (m.map Q3)),q6 (b.length : Int),q6 l]]) J<|O (.ref 0 4 0 0) J<|O (.ref 0 4 0 1) J<|qz 0 (.cel 4 [[.hs 1 4 0 b.length,.d (.sl 2 (g.map Q3)),q6 (b.length : Int),q6 l]]) J<|O (.ref 0 4 0 0) J<|O (.ref 0 4 0 3) J<|qz 0 (.cel 4 [[.hs 1 4 0 b.length,.d (.sl 2 (g.map Q3)),q6 (b.length : Int),q6 a]]) J<|qs<|q0 J<|Qy J<|q0 J<|qa ?_
 obtain ⟨aq,ar,f⟩:=q9 f
 refine Q1<|Qf (q5g g h a b) (fun (o : Int × List ql)=>⟨[(0,.ref 0 4 0 0),(1,q6 h),(2,q6 a),(71,.d (.sl 2 (g.map Q3))),(72,q6 (g.length : Int)),(73,q6 o.1)],[(0,.cel 4 [[.hs 2 4 0 o.2.length,.d (.sl 2 (g.map Q3)),q6 (b.length : Int),q6 a]]),(2,.dat 4 (o.2.map qu))],3⟩) (0,b) aq ar (wkA [(2,1)] [] []) ?_
 intro o ay k
 unfold q5g at k
 refine qc<|O (.d (.bool (decide (o.1 < (g.length : Int))))) J<|qa<|qh ?_
 refine qp J k (fun _ k=>?_) (fun _ k=>?_)
 ·refine qo<|qh<|Q1<|qc ?_
  obtain ⟨c,au,k⟩:=q9 k
  refine Qz (enc:=Q3) au J<|O (.d (.agg [G c.Lo,G c.Hi])) J<|Qe J J<|qz 3 (.dat 2 [[G c.Lo,G c.Hi]]) J<|qa<|Qd [Qh 0,q8,q8,(some [2,4],[2,5]),(some [],[4]),q8,qr 3,q8,q8,qr 3,q8,q8,qr 0,q8,q8,q8,q8] qj<|q0 J<|q0 J<|O (.ref 0 4 0 0) J<|O (.ref 0 4 0 0) J<|O (.hs 2 4 0 o.2.length) J<|q0 J<|O (.ref 3 2 0 0) J<|O (q6 c.Lo) J<|q0 J<|O (.ref 3 2 0 1) J<|O (q6 c.Hi) J<|O (.d (.agg [G h,G c.Lo,G a,G c.Hi])) J<|Ql (.hs 4 4 0 [({X0:=h,Y0:=c.Lo,X1:=a,Y1:=c.Hi} : ql)].length) (.dat 4 ([({X0:=h,Y0:=c.Lo,X1:=a,Y1:=c.Hi} : ql)].map qu)) J ?_
  obtain ⟨av,aw,k⟩:=q9 k
  refine Yr (xs:=o.2) (ys:=[({X0:=h,Y0:=c.Lo,X1:=a,Y1:=c.Hi} : ql)]) (enc:=qu) (.hs 4 4 0 [({X0:=h,Y0:=c.Lo,X1:=a,Y1:=c.Hi} : ql)].length) aw J J J J J J J (Yo J J) J J J J<|O (.ref 0 4 0 0) J<|O (.ref 0 4 0 0) J<|qz 0 (.cel 4 [[.hs 5 4 0 av.length,.d (.sl 2 (g.map Q3)),q6 (b.length : Int),q6 a]]) J<|qx<|Qj<|qy<|O (.d (G (w64 (o.1 + 1)))) J<|q0 J<|qx ?_
  exact ⟨_,(Option.some.inj k).symm,wkA [(2,5)] [] []⟩
 refine Qb ?_
 refine ⟨_,(Option.some.inj k).symm,fun hm=>?_⟩
 subst hm
 obtain rfl:=qe f
 exact ⟨.inl J,_,J,wkA [(2,2)] [] []⟩
theorem qkz (a : List ql) (r : List ql × Int) (u : q5i a = some r) : Pure Tryz.prog tab 96 [.sl 4 (a.map qu)] (.tup [.sl 4 (r.1.map qu),G r.2]):=by
 unfold q5i at u
 refine Qi Tryz.func96 J qj qj J<|qc<|qb J<|qb J<|qs<|Qe J J<|qa<|qh<|qc<|q0 J<|Ql (.hs 1 1 0 [a].length) (.dat 1 ([a].map Ke)) J ?_
 obtain ⟨aw,l,u⟩:=q9 u
 refine q2i [.hs 1 1 0 [a].length] (fun h=>h = aw) (fun (h : List Int)=>⟨[(2,.d (.nilsl)),(3,q6 0),(4,.ref 0 4 0 0),(10,.fn 161 [.ref 1 1 0 0,.ref 2 1 0 0])],[(0,.dat 4 [[.nilsl,.nilsl,G 0,G 0]]),(1,.cel 1 [[.d (.sl 1 (h.map (eI .i64)))]]),(2,.cel 1 [[.hs 3 1 0 [a].length]]),(3,.dat 1 ([a].map Ke))],4⟩) J J Tryz.func137 J qj qj J ?_ ?_
 ·refine qc<|Ql (.ref 2 1 0 0) (.cel 1 [[.hs 1 1 0 [a].length]]) J<|qb J<|qs<|Qe J J<|qa<|qh<|qc<|O (.hs 1 1 0 [a].length) J<|O (q6 1) J<|q0 J<|qa<|Q1<|Ya<|qc<|O (qg true) J<|qa<|qh<|Z7 J<|qo<|qh ?_
  obtain ⟨ax,ac,l⟩:=q9 l
  refine Qm (fun m=>m = ax) (fun (m : List Int)=>⟨[(1,.ref 2 1 0 0),(3,.ref 3 1 0 0),(8,.hs 1 1 0 [a].length),(9,q6 1),(10,q6 0)],[(0,.dat 4 [[.nilsl,.nilsl,G 0,G 0]]),(1,.dat 1 ([a].map Ke)),(2,.cel 1 [[.hs 1 1 0 [a].length]]),(3,.cel 1 [[.hs 4 1 0 m.length]]),(4,.dat 1 (m.map (eI .i64)))],5⟩) qf ?_ ?_
  ·refine qc ?_
   obtain ⟨ad,am,ac⟩:=q9 ac
   refine qw am J J<|Q7 (.d (.sl 4 (ad.map qu))) am J<|qb J<|qs<|q0 J<|Qy J<|q0 J<|qa ?_
   obtain ⟨ay,az,ac⟩:=q9 ac
   refine Q1<|Qf (Zr ad) (fun (w : Int × List Int)=>⟨[(1,.ref 2 1 0 0),(3,.ref 3 1 0 0),(8,.hs 1 1 0 [a].length),(9,q6 1),(10,q6 0),(14,.d (.sl 4 (ad.map qu))),(15,q6 (ad.length : Int)),(16,q6 w.1)],[(0,.dat 4 [[.nilsl,.nilsl,G 0,G 0]]),(1,.dat 1 ([a].map Ke)),(2,.cel 1 [[.hs 1 1 0 [a].length]]),(3,.cel 1 [[.hs 4 1 0 w.2.length]]),(4,.dat 1 (w.2.map (eI .i64)))],5⟩) (0,[]) ay az (wkA [(2,2),(3,3)] [] [4]) ?_
   intro w cd p
   unfold Zr at p
   refine qc<|O (.d (.bool (decide (w.1 < (ad.length : Int))))) J<|qa<|qh ?_
   refine qp J p (fun _ p=>?_) (fun _ p=>?_)
   ·refine qo<|qh<|Q1<|qc ?_
    obtain ⟨g,ba,p⟩:=q9 p
    refine Qz (enc:=qu) ba J<|O (.d (.agg [G g.X0,G g.Y0,G g.X1,G g.Y1])) J<|Qe J J<|qz 5 (.dat 4 [[G g.X0,G g.Y0,G g.X1,G g.Y1]]) J<|qa<|qy<|O (.hs 4 1 0 w.2.length) J<|O (.ref 5 4 0 0) J<|O (q6 g.X0) J<|O (.ref 5 4 0 2) J<|O (q6 g.X1) J<|Ql (.hs 6 1 0 [g.X0,g.X1].length) (.dat 1 ([g.X0,g.X1].map (eI .i64))) J ?_
    obtain ⟨bb,bc,p⟩:=q9 p
    refine Yr (xs:=w.2) (ys:=[g.X0,g.X1]) (enc:=(eI .i64)) (.hs 6 1 0 [g.X0,g.X1].length) bc J J J J J J J (Yo J J) J J J J<|qz 3 (.cel 1 [[.hs 7 1 0 bb.length]]) J<|qx<|Qj<|qy<|O (.d (G (w64 (w.1 + 1)))) J<|q0 J<|qx ?_
    exact ⟨_,(Option.some.inj p).symm,wkA [(2,2),(3,3),(4,7)] [] []⟩
   refine Qb ?_
   refine ⟨_,(Option.some.inj p).symm,fun hm=>?_⟩
   subst hm
   obtain rfl:=qe ac
   exact ⟨_,J,wkA [(2,2),(3,3),(4,4)] [] []⟩
  intro m hb
  subst hb
  refine qy<|O (q6 1) J<|q0 J<|qa<|Ya<|qc<|O (qg false) J<|qa<|qh<|Z6 J<|Qb<|Ji<|qc<|O (.hs 4 1 0 m.length) J ?_
  obtain ⟨ak,bd,l⟩:=q9 l
  obtain ⟨ce,be,l⟩:=q9 l
  have bf:=Kd be
  refine K2 [(0,4)] [(0,1),(1,1),(2,1),(3,1),(4,0)] [.hs 4 1 0 m.length] (.d (.tup [])) 1 [(4,.dat 1 (ak.map (eI .i64))),(0,.dat 4 [[.nilsl,.nilsl,G 0,G 0]]),(1,.dat 1 ([a].map Ke)),(2,.cel 1 [[.hs 1 1 0 [a].length]]),(3,.cel 1 [[.hs 4 1 0 m.length]])] 5 (qbv m ak bd)<|qs<|O (.hs 4 1 0 m.length) J ?_
  obtain ⟨z,bg,l⟩:=q9 l
  obtain ⟨cf,bh,l⟩:=q9 l
  have cg:=Kd bh
  obtain ⟨ch,bi,l⟩:=q9 l
  have bj:=qcg bi
  refine Jq [(0,4)] [(0,1),(1,1),(2,1),(3,1),(4,0)] [.hs 4 1 0 m.length] (.hs 4 1 z.1.1 z.1.2) [(4,.dat 1 (z.2.map (eI .i64)))] [(4,.dat 1 (z.2.map (eI .i64))),(0,.dat 4 [[.nilsl,.nilsl,G 0,G 0]]),(1,.dat 1 ([a].map Ke)),(2,.cel 1 [[.hs 1 1 0 [a].length]]),(3,.cel 1 [[.hs 4 1 0 m.length]])] 5 (qbm ak z bg) J J J (Y4 [(0,4)] [] [] J ⟨⟨_,J,Qx (by simp [bf]) J qt (ltd J)⟩,trivial⟩ ⟨Qg J J,trivial⟩) (Y4 [(0,1),(1,1),(2,1),(3,1),(4,0)] [] [] J ⟨⟨_,J,.hs J qt (ltd J)⟩,trivial⟩ ⟨Qg J J,trivial⟩) J ⟨.inl J,.inr ⟨J,J⟩,.inr ⟨J,J⟩,.inr ⟨J,J⟩,.inr ⟨J,J⟩,trivial⟩<|qz 3 (.cel 1 [[.hs 4 1 z.1.1 z.1.2]]) J<|qs<|O (.fn 161 [.ref 3 1 0 0,.ref 2 1 0 0]) J<|qb J<|qv ?_
  refine ⟨.inr J,_,J,?_⟩
  obtain rfl:=qe l
  exact ⟨_,J,wkE [(0,0),(1,3),(2,2),(3,1)] [4] [] J ⟨qq J,qq J,⟨_,J,.ref J qt (ltd J)⟩,⟨_,J,(q1u (.cons (.ref J qt (ltd J)) (.cons (.ref J qt (ltd J)) .nil)))⟩,trivial⟩ ⟨Qg J J,⟨ltd J,.inr ⟨qt,_,J,Zt (.cons (qci bj J qt) J .nil)⟩⟩,⟨ltd J,.inr ⟨qt,_,J,Zt (.cons (.hs J qt (ltd J)) J .nil)⟩⟩,Qg J J,trivial⟩⟩
 intro h hb
 subst hb
 refine qa<|Q1 ?_
 obtain ⟨bk,al,u⟩:=q9 u
 refine q88 (fun n=>n = bk) (fun (n : List qm × Int × Int × List ql)=>⟨[(4,.ref 0 4 0 0)],[(0,.cel 4 [[.hs 1 4 0 n.2.2.2.length,.d (.sl 2 (n.1.map Q3)),q6 n.2.1,q6 n.2.2.1]]),(1,.dat 4 (n.2.2.2.map qu))],2⟩) ?_ ?_
 ·refine Yj (st':=⟨[(2,.d (.nilsl)),(3,q6 0),(4,.ref 0 4 0 0),(10,.fn 161 [.ref 1 1 0 0,.ref 2 1 0 0])],[(0,.dat 4 [[.nilsl,.nilsl,G 0,G 0]]),(1,.cel 1 [[.d (.sl 1 (h.map (eI .i64)))]]),(2,.cel 1 [[.hs 3 1 0 [a].length]]),(3,.dat 1 ([a].map Ke))],4⟩) (wkA [(0,0),(1,1),(2,2),(3,3)] [] []) ?_ qf
  refine q89 [.ref 1 1 0 0,.ref 2 1 0 0] (.inl J) Tryz.func161 J qj qj J ?_
  intro A847 B848 hA847 hB848
  refine qc<|qb J<|qa ?_
  obtain ⟨bl,bm,al⟩:=q9 al
  refine Q1<|Qf (q2o h a) (fun (b : Int × List qm × Int × Int × List ql)=>⟨[(0,.yld 4),(1,.ref 1 1 0 0),(2,.ref 2 1 0 0),(4,q6 b.1)],[(0,.cel 4 [[.hs 5 4 0 b.2.2.2.2.length,.d (.sl 2 (b.2.1.map Q3)),q6 b.2.2.1,q6 b.2.2.2.1]]),(1,.cel 1 [[.d (.sl 1 (h.map (eI .i64)))]]),(2,.cel 1 [[.hs 3 1 0 [a].length]]),(3,.dat 1 ([a].map Ke)),(4,.loop [(2,.d (.nilsl)),(3,q6 0),(4,.ref 0 4 0 0),(10,.fn 161 [.ref 1 1 0 0,.ref 2 1 0 0])] [11] A847 B848 .ready none),(5,.dat 4 (b.2.2.2.2.map qu))],6⟩) (1,[],0,0,[]) bl bm (wkA [] [] [5]) ?_
  intro b ci j
  unfold q2o at j
  refine qh<|qc<|q0 J<|O (.d (.sl 1 (h.map (eI .i64)))) J<|Qy J<|O (.d (.bool (decide (b.1 < (h.length : Int))))) J<|qa ?_
  refine qp J j (fun _ j=>?_) (fun _ j=>?_)
  ·refine qo<|qh<|Q1<|qh<|Qd [Qh 7,(some [],[7]),q8,(some [],[6]),q8,qr 2,q8,q8,q8,qr 1,q8,q8,q8,q8,qr 1] qj<|O (.d (.sl 1 (h.map (eI .i64)))) J<|q0 J<|O (.d (G (w64 (b.1 - 1)))) J ?_
   obtain ⟨f,bn,j⟩:=q9 j
   refine Qz (enc:=(eI .i64)) bn J<|O (q6 f) J<|O (.d (.sl 1 (h.map (eI .i64)))) J<|q0 J ?_
   obtain ⟨k,bo,j⟩:=q9 j
   refine Qz (enc:=(eI .i64)) bo J<|O (q6 k) J<|O (.hs 3 1 0 [a].length) J<|O (q6 1) J<|Ql (.hs 6 1 0 1) (.dat 1 [[.nilsl]]) J<|O (.agg [q6 f,q6 k,.hs 6 1 0 1]) J<|Qe J J<|qz 7 (.cel 3 [[q6 f,q6 k,.hs 6 1 0 1]]) J<|qa<|qh<|qc<|O (.hs 3 1 0 [a].length) J<|O (q6 1) J<|q0 J<|qa<|Q1<|Ya<|qc<|O (qg true) J<|qa<|qh<|Z7 J<|qo<|qh ?_
   obtain ⟨bp,ae,j⟩:=q9 j
   refine Qm (fun s=>s = bp) (fun (s : List qm)=>⟨[(0,.yld 4),(1,.ref 1 1 0 0),(2,.ref 2 1 0 0),(4,q6 b.1),(5,.ref 5 3 0 0),(29,.hs 3 1 0 [a].length),(30,q6 1),(31,q6 0)],[(0,.cel 4 [[.hs 6 4 0 b.2.2.2.2.length,.d (.sl 2 (b.2.1.map Q3)),q6 b.2.2.1,q6 b.2.2.2.1]]),(1,.cel 1 [[.d (.sl 1 (h.map (eI .i64)))]]),(2,.cel 1 [[.hs 3 1 0 [a].length]]),(3,.dat 1 ([a].map Ke)),(4,.loop [(2,.d (.nilsl)),(3,q6 0),(4,.ref 0 4 0 0),(10,.fn 161 [.ref 1 1 0 0,.ref 2 1 0 0])] [11] A847 B848 .ready none),(5,.cel 3 [[q6 f,q6 k,.hs 7 1 0 1]]),(6,.dat 4 (b.2.2.2.2.map qu)),(7,.cel 1 [[.hs 8 2 0 s.length]]),(8,.dat 2 (s.map Q3))],9⟩) qf ?_ ?_
   ·refine qc<|q0 J ?_
    obtain ⟨aa,an,ae⟩:=q9 ae
    refine qw an J J<|Q7 (.d (.sl 4 (aa.map qu))) an J<|qb J<|qb J<|qs<|q0 J<|Qy J<|q0 J<|qa ?_
    obtain ⟨bq,br,ae⟩:=q9 ae
    refine Q1<|Qf (U6 aa f) (fun (t : Int × List qm)=>⟨[(0,.yld 4),(1,.ref 1 1 0 0),(2,.ref 2 1 0 0),(4,q6 b.1),(5,.ref 5 3 0 0),(6,q6 0),(29,.hs 3 1 0 [a].length),(30,q6 1),(31,q6 0),(36,.d (.sl 4 (aa.map qu))),(37,q6 (aa.length : Int)),(38,q6 t.1)],[(0,.cel 4 [[.hs 6 4 0 b.2.2.2.2.length,.d (.sl 2 (b.2.1.map Q3)),q6 b.2.2.1,q6 b.2.2.2.1]]),(1,.cel 1 [[.d (.sl 1 (h.map (eI .i64)))]]),(2,.cel 1 [[.hs 3 1 0 [a].length]]),(3,.dat 1 ([a].map Ke)),(4,.loop [(2,.d (.nilsl)),(3,q6 0),(4,.ref 0 4 0 0),(10,.fn 161 [.ref 1 1 0 0,.ref 2 1 0 0])] [11] A847 B848 .ready none),(5,.cel 3 [[q6 f,q6 k,.hs 7 1 0 1]]),(6,.dat 4 (b.2.2.2.2.map qu)),(7,.cel 1 [[.hs 8 2 0 t.2.length]]),(8,.dat 2 (t.2.map Q3))],9⟩) (0,[]) bq br (wkA [(5,7),(6,5),(7,6)] [] [8]) ?_
    intro t cj x
    unfold U6 at x
    refine qc<|O (.d (.bool (decide (t.1 < (aa.length : Int))))) J<|qa<|qh ?_
    refine qp J x (fun _ x=>?_) (fun _ x=>?_)
    ·refine qo<|qh ?_
     obtain ⟨bs,o,x⟩:=q9 x
     refine Qm (fun af=>af = bs) (fun (af : List qm)=>⟨[(0,.yld 4),(1,.ref 1 1 0 0),(2,.ref 2 1 0 0),(4,q6 b.1),(5,.ref 5 3 0 0),(6,q6 0),(29,.hs 3 1 0 [a].length),(30,q6 1),(31,q6 0),(36,.d (.sl 4 (aa.map qu))),(37,q6 (aa.length : Int)),(38,q6 t.1)],[(0,.cel 4 [[.hs 6 4 0 b.2.2.2.2.length,.d (.sl 2 (b.2.1.map Q3)),q6 b.2.2.1,q6 b.2.2.2.1]]),(1,.cel 1 [[.d (.sl 1 (h.map (eI .i64)))]]),(2,.cel 1 [[.hs 3 1 0 [a].length]]),(3,.dat 1 ([a].map Ke)),(4,.loop [(2,.d (.nilsl)),(3,q6 0),(4,.ref 0 4 0 0),(10,.fn 161 [.ref 1 1 0 0,.ref 2 1 0 0])] [11] A847 B848 .ready none),(5,.cel 3 [[q6 f,q6 k,.hs 7 1 0 1]]),(6,.dat 4 (b.2.2.2.2.map qu)),(7,.cel 1 [[.hs 8 2 0 af.length]]),(8,.dat 2 (af.map Q3))],9⟩) qf ?_ ?_
     ·refine qc ?_
      obtain ⟨c,bt,o⟩:=q9 o
      refine Qz (enc:=qu) bt J<|O (.d (.agg [G c.X0,G c.Y0,G c.X1,G c.Y1])) J<|Qe J J<|qz 9 (.dat 4 [[G c.X0,G c.Y0,G c.X1,G c.Y1]]) J<|qs<|O (.ref 9 4 0 0) J<|O (q6 c.X0) J<|O (.ref 5 3 0 0) J<|O (q6 f) J<|O (.d (.bool (decide (c.X0≤f)))) J ?_
      obtain ⟨bu,ag,o⟩:=q9 o
      refine Q9 7 (fun A st=>∃ (ao ap aq ar au av : V),st = A [(53,qg bu),(52,av),(51,au),(50,ar),(49,aq),(48,ap),(47,ao)]) ?_ ?_
      ·refine Q8 J J ag (fun ag=>?_) (fun ag=>?_)
       ·refine O (.ref 5 3 0 0) J<|O (q6 f) J<|O (.ref 9 4 0 2) J<|O (q6 c.X1) J<|O (.d (.bool (decide (f < c.X1)))) J<|O (.d (.bool (decide (f < c.X1)))) J<|qa ?_
        obtain rfl:=qe ag
        exact ⟨_,_,_,_,_,_,J⟩
       refine qd J<|qd J<|qd J<|qd J<|qd J<|O (qg false) J<|qa ?_
       obtain rfl:=qe ag
       exact ⟨_,_,_,_,_,_,J⟩
      rintro _ ⟨ao,ap,aq,ar,au,av,rfl⟩
      refine qa ?_
      refine qp J o (fun _ o=>?_) (fun _ o=>?_)
      ·refine Qd [Qh 7,q8,(some [8,10],[8,11]),(some [],[10]),q8,qr 9,q8,qr 9,q8,qr 7,q8,q8,qr 5,q8,q8,qr 5,q8] qj<|O (.ref 5 3 0 2) J<|O (.hs 7 1 0 1) J<|q0 J<|O (.ref 5 3 0 2) J<|O (.hs 7 1 0 1) J<|q0 J<|O (.ref 7 1 0 0) J<|O (.hs 8 2 0 t.2.length) J<|O (.ref 9 4 0 1) J<|O (q6 c.Y0) J<|O (.ref 9 4 0 3) J<|O (q6 c.Y1) J<|O (.d (.agg [G c.Y0,G c.Y1])) J<|Ql (.hs 10 2 0 [({Lo:=c.Y0,Hi:=c.Y1} : qm)].length) (.dat 2 ([({Lo:=c.Y0,Hi:=c.Y1} : qm)].map Q3)) J ?_
       obtain ⟨bv,bw,o⟩:=q9 o
       refine Yr (xs:=t.2) (ys:=[({Lo:=c.Y0,Hi:=c.Y1} : qm)]) (enc:=Q3) (.hs 10 2 0 [({Lo:=c.Y0,Hi:=c.Y1} : qm)].length) bw J J J J J J J (Yo J J) J J J J<|O (.ref 7 1 0 0) J<|qz 7 (.cel 1 [[.hs 11 2 0 bv.length]]) J<|qx ?_
       obtain rfl:=qe o
       exact ⟨_,J,wkA [(5,5),(6,6),(7,7),(8,11)] [] []⟩
      refine qo<|Qc ?_
      obtain rfl:=qe o
      exact ⟨_,J,wkA [(5,5),(6,6),(7,7),(8,8)] [] []⟩
     intro af hb
     subst hb
     refine qy<|O (.d (G (w64 (t.1 + 1)))) J<|q0 J<|qx ?_
     exact ⟨_,(Option.some.inj x).symm,wkA [(5,5),(6,6),(7,7),(8,8)] [] []⟩
    refine Qb ?_
    refine ⟨_,(Option.some.inj x).symm,fun hm=>?_⟩
    subst hm
    obtain rfl:=qe ae
    exact ⟨_,J,wkA [(5,5),(6,6),(7,7),(8,8)] [] []⟩
   intro s hb
   subst hb
   refine qy<|O (q6 1) J<|q0 J<|qa<|Ya<|qc<|O (qg false) J<|qa<|qh<|Z6 J<|Qb<|Ji<|qh ?_
   refine Yj (st':=⟨[(0,.yld 4),(1,.ref 1 1 0 0),(2,.ref 2 1 0 0),(4,q6 b.1),(5,.ref 5 3 0 0)],[(0,.cel 4 [[.hs 6 4 0 b.2.2.2.2.length,.d (.sl 2 (b.2.1.map Q3)),q6 b.2.2.1,q6 b.2.2.2.1]]),(1,.cel 1 [[.d (.sl 1 (h.map (eI .i64)))]]),(2,.cel 1 [[.hs 3 1 0 [a].length]]),(3,.dat 1 ([a].map Ke)),(4,.loop [(2,.d (.nilsl)),(3,q6 0),(4,.ref 0 4 0 0),(10,.fn 161 [.ref 1 1 0 0,.ref 2 1 0 0])] [11] A847 B848 .ready none),(5,.cel 3 [[q6 f,q6 k,.hs 7 1 0 1]]),(6,.dat 4 (b.2.2.2.2.map qu)),(7,.cel 1 [[.d (.sl 2 (s.map Q3))]])],8⟩) (wkA [(5,5),(6,6),(7,7)] [8] []) ?_ qf
   refine qy<|q0 J<|O (.agg [q6 f,q6 k,.hs 7 1 0 1]) J ?_
   obtain ⟨bz,ah,j⟩:=q9 j
   refine q7s (fun y=>y = bz) (fun (y : List qm × Int × Int × List ql)=>⟨[(0,.yld 4),(1,.ref 1 1 0 0),(2,.ref 2 1 0 0),(4,q6 b.1),(74,qg true)],[(0,.cel 4 [[.hs 5 4 0 y.2.2.2.length,.d (.sl 2 (y.1.map Q3)),q6 y.2.1,q6 y.2.2.1]]),(1,.cel 1 [[.d (.sl 1 (h.map (eI .i64)))]]),(2,.cel 1 [[.hs 3 1 0 [a].length]]),(3,.dat 1 ([a].map Ke)),(4,.loop [(2,.d (.nilsl)),(3,q6 0),(4,.ref 0 4 0 0),(10,.fn 161 [.ref 1 1 0 0,.ref 2 1 0 0])] [11] A847 B848 .ready none),(5,.dat 4 (y.2.2.2.map qu))],6⟩) hA847 hB848 J J J J J J ?_ ?_
   ·refine qy<|Qe J J<|qz 8 (.cel 3 [[q6 f,q6 k,.hs 7 1 0 1]]) J<|qx ?_
    refine ⟨J,_,J,?_⟩
    refine Q1<|qc<|O (.ref 8 3 0 2) J<|O (.hs 7 1 0 1) J<|O (.ref 7 1 0 0) J<|O (.d (.sl 2 (s.map Q3))) J ?_
    obtain ⟨ai,ca,ah⟩:=q9 ah
    refine Q5 (qm5 s ai ca) J<|q0 J<|O (.d (.sl 2 (ai.1.map Q3))) J<|O (q6 ai.2) J<|qb J<|qb J<|qa<|qy<|O (.ref 8 3 0 0) J<|O (q6 f) J<|O (.ref 8 3 0 1) J<|O (q6 k) J<|q0 J ?_
    obtain ⟨ab,cb,ah⟩:=q9 ah
    refine K2 [(0,0),(1,6)] [(0,0),(1,3),(2,3),(3,3),(4,3),(5,3),(6,1),(7,3),(8,3),(9,2)] [.ref 0 4 0 0,q6 f,q6 k,.d (.sl 2 (ai.1.map Q3))] (.d (.tup [])) 2 [(0,.cel 4 [[.hs 9 4 0 ab.2.2.2.length,.d (.sl 2 (ab.1.map Q3)),q6 ab.2.1,q6 ab.2.2.1]]),(9,.dat 4 (ab.2.2.2.map qu)),(1,.cel 1 [[.d (.sl 1 (h.map (eI .i64)))]]),(2,.cel 1 [[.hs 3 1 0 [a].length]]),(3,.dat 1 ([a].map Ke)),(4,.loop [(2,.d (.nilsl)),(3,q6 0),(4,.ref 0 4 0 0),(10,.fn 161 [.ref 1 1 0 0,.ref 2 1 0 0])] [11] A847 B848 .busy none),(5,.cel 3 [[q6 f,q6 k,.hs 7 1 0 1]]),(7,.cel 1 [[.d (.sl 2 (s.map Q3))]]),(8,.cel 3 [[q6 f,q6 k,.hs 7 1 0 1]])] 10 (qkw b.2.2.2.2 b.2.1 b.2.2.1 b.2.2.2.1 f k ai.1 ab cb)<|qx<|Qj<|Qc ?_
    refine ⟨_,J,?_⟩
    obtain rfl:=qe ah
    exact ⟨_,J,wkA [(5,9)] [] []⟩
   intro y hb
   subst hb
   refine O (qg false) J<|qa<|Z6 J<|qo<|Qc<|Qj<|qy<|q0 J<|O (.d (G (w64 (b.1 + 1)))) J<|qb J<|qx ?_
   exact ⟨_,(Option.some.inj j).symm,wkA [(5,5)] [] []⟩
  refine Qb ?_
  refine ⟨_,(Option.some.inj j).symm,fun hm=>?_⟩
  subst hm
  refine ⟨.inl J,_,J,_,_,.nor,J,qt,?_⟩
  refine q6z<|Qc ?_
  obtain rfl:=qe al
  exact ⟨_,J,wkA [(0,0),(1,5)] [] []⟩
 intro n st hb hw
 subst hb
 refine Yj hw ?_ qf
 refine qc ?_
 obtain ⟨cc,aj,u⟩:=q9 u
 refine q2i [.ref 0 4 0 0] (fun q=>q = cc) (fun (q : Int × List ql)=>⟨[(26,.tup [.hs 0 4 0 q.2.length,q6 q.1])],[(0,.dat 4 (q.2.map qu))],1⟩) J J Tryz.func139 J qj qj J ?_ ?_
 ·refine qc<|qb J<|qb J<|qa<|qh<|qc<|q0 J<|O (.ref 0 4 0 0) J<|O (.ref 0 4 0 0) J<|O (.hs 1 4 0 n.2.2.2.length) J<|O (q6 (n.2.2.2.length : Int)) J<|O (.d (.bool (decide ((n.2.2.2.length : Int) > 400)))) J<|qa ?_
  refine qp J aj (fun _ aj=>?_) (fun _ aj=>?_)
  ·refine qc<|qb J<|qb J<|qv ?_
   refine ⟨.inr J,_,J,?_⟩
   obtain rfl:=qe aj
   exact ⟨_,J,wkA [] [] [0]⟩
  refine qo<|qc<|q0 J<|O (.ref 0 4 0 0) J<|O (.ref 0 4 0 0) J<|O (.hs 1 4 0 n.2.2.2.length) J<|qb J<|qb J<|qv ?_
  refine ⟨.inr J,_,J,?_⟩
  obtain rfl:=qe aj
  exact ⟨_,J,wkA [(0,1)] [] []⟩
 intro q hb
 subst hb
 refine O (.hs 0 4 0 q.2.length) J<|O (q6 q.1) J<|qb J<|qb J<|qv ?_
 obtain rfl:=qe u
 exact finD (.inr J) (v:=.tup [.hs 0 4 0 q.2.length,q6 q.1]) J (q6y (Jp (Jb J J) (Jp J J))) (.refl _)
theorem qbo (g : List ql) (h : List ql) (r : Bool) (b : Ur g h = some r) : Pure Tryz.prog tab 97 [.sl 4 (g.map qu),.sl 4 (h.map qu)] (.bool r):=by
 unfold Ur at b
 refine Qi Tryz.func97 J qj qj J<|qc<|qb J<|qa<|qh<|qc<|q0 J<|Qy J<|q0 J<|Qy J<|O (.d (.bool ((g.length : Int) != (h.length : Int)))) J<|qa ?_
 refine qp J b (fun _ b=>?_) (fun _ b=>?_)
 ·refine qc<|qb J<|qv ?_
  obtain rfl:=qe b
  exact Q4 (qg false) J
 refine qo<|qh<|qc<|q0 J<|Qy J<|q0 J<|qa ?_
 obtain ⟨l,m,b⟩:=q9 b
 refine Qm (fun k=>.inl k = l) (fun (k : Unit)=>⟨[],[],0⟩) qf ?_ ?_
 ·refine Qf (qbn g h) (fun (j : Int)=>⟨[(0,.d (.sl 4 (g.map qu))),(1,.d (.sl 4 (h.map qu))),(12,q6 (g.length : Int)),(13,q6 j)],[],0⟩) 0 l m (wkA [] [] []) ?_
  intro j p a
  unfold qbn at a
  refine qc<|O (.d (.bool (decide (j < (g.length : Int))))) J<|qa<|qh ?_
  refine qp J a (fun _ a=>?_) (fun _ a=>?_)
  ·refine qo<|qh<|Q1<|qc<|q0 J<|qb J<|qa<|qh<|Qd [q8,q8,q8,q8,q8,q8,q8,q8,q8] qj<|q0 J<|q0 J ?_
   obtain ⟨c,n,a⟩:=q9 a
   refine Qz (enc:=qu) n J<|O (.d (.agg [G c.X0,G c.Y0,G c.X1,G c.Y1])) J<|q0 J<|q0 J ?_
   obtain ⟨f,o,a⟩:=q9 a
   refine Qz (enc:=qu) o J<|O (.d (.agg [G f.X0,G f.Y0,G f.X1,G f.Y1])) J<|O (.d (.bool (!((c.X0 == f.X0) && ((c.Y0 == f.Y0) && ((c.X1 == f.X1) && ((c.Y1 == f.Y1) && true))))))) J<|qa ?_
   refine qp J a (fun _ a=>?_) (fun _ a=>?_)
   ·refine qc<|qb J<|qv ?_
    refine ⟨_,(Option.some.inj a).symm,fun hm=>?_⟩
    subst hm
    obtain rfl:=qe b
    exact Q4 (qg false) J
   refine qo<|Qc<|Qj<|qy<|O (.d (G (w64 (j + 1)))) J<|q0 J<|qx ?_
   exact ⟨_,(Option.some.inj a).symm,wkA [] [] []⟩
  refine Qb ?_
  refine ⟨_,(Option.some.inj a).symm,fun hm=>?_⟩
  subst hm
  exact ⟨_,J,wkA [] [] []⟩
 intro k hb
 subst hb
 refine qc<|qb J<|qv ?_
 obtain rfl:=qe b
 exact Q4 (qg true) J
theorem qbd (c : List ql) (r : Int) (a : q2k c = some r) : Pure Tryz.prog tab 49 [.sl 4 (c.map qu)] (G r):=by
 unfold q2k at a
 refine Qi Tryz.func49 J qj qj J<|qc<|qb J<|qa<|qh<|qc<|q0 J<|Qy J<|O (.d (.bool (decide ((c.length : Int) > 400)))) J<|qa ?_
 refine qp J a (fun _ a=>?_) (fun _ a=>?_)
 ·refine qc<|qb J<|qv ?_
  obtain rfl:=qe a
  exact Q4 (q6 4) J
 refine qo<|qh<|qc<|q0 J ?_
 obtain ⟨o,p,a⟩:=q9 a
 refine Q5 (qvv c (fun g=>q2l g) 94 [] (fun g r hr=>qtq g r hr) o p) J<|qa ?_
 refine qp J a (fun _ a=>?_) (fun _ a=>?_)
 ·refine qc<|qb J<|qv ?_
  obtain rfl:=qe a
  exact Q4 (q6 8) J
 refine qo<|qh<|qc<|q0 J ?_
 obtain ⟨f,q,a⟩:=q9 a
 refine Q5 (qkz c f q) J<|q0 J<|O (.d (.sl 4 (f.1.map qu))) J<|O (q6 f.2) J<|qb J<|qb J<|qs<|q0 J<|O (qg (f.2 != 0)) J ?_
 obtain ⟨s,b,a⟩:=q9 a
 refine Q9 6 (fun A st=>∃ (j k l m n : V),st = A [(22,qg s),(21,n),(20,m),(19,l),(18,k),(17,j)]) ?_ ?_
 ·refine Q8 J J b (fun b=>?_) (fun b=>?_)
  ·refine qd J<|qd J<|qd J<|qd J<|O (qg true) J<|qa ?_
   obtain rfl:=qe b
   exact ⟨_,_,_,_,_,J⟩
  refine q0 J<|q0 J ?_
  obtain ⟨h,t,b⟩:=q9 b
  refine Q5 (qbo f.1 c h t) J<|O (qg (!h)) J<|O (qg (!h)) J<|qa ?_
  obtain rfl:=qe b
  exact ⟨_,_,_,_,_,J⟩
 rintro _ ⟨j,k,l,m,n,rfl⟩
 refine qa ?_
 refine qp J a (fun _ a=>?_) (fun _ a=>?_)
 ·refine qc<|qb J<|qv ?_
  obtain rfl:=qe a
  exact Q4 (q6 8) J
 refine qo<|qc<|qb J<|qv ?_
 obtain rfl:=qe a
 exact Q4 (q6 0) J
theorem qer (a : Int) (r : Bool) (c : q57 a = some r) : Pure Tryz.prog tab 50 [G a] (.bool r):=by
 unfold q57 at c
 refine Qi Tryz.func50 J qj qj J<|qc<|qb J<|qs<|q0 J<|O (.d (.bool (decide (a ≥ (-1000000))))) J ?_
 obtain ⟨f,b,c⟩:=q9 c
 refine Q9 4 (fun A st=>∃ (g h j : V),st = A [(8,qg f),(7,j),(6,h),(5,g)]) ?_ ?_
 ·refine Q8 J J b (fun b=>?_) (fun b=>?_)
  ·refine q0 J<|O (.d (.bool (decide (a≤1000000)))) J<|O (.d (.bool (decide (a≤1000000)))) J<|qa ?_
   obtain rfl:=qe b
   exact ⟨_,_,_,J⟩
  refine qd J<|qd J<|O (qg false) J<|qa ?_
  obtain rfl:=qe b
  exact ⟨_,_,_,J⟩
 rintro _ ⟨g,h,j,rfl⟩
 refine qb J<|qv ?_
 obtain rfl:=qe c
 exact Q4 (qg f) J
theorem qtm (j : Int) (k : Int) (f : Int) (b : Int) (g : List ql) (r : List ql × Int × Int × List qk) (c : q84  j k f b g = some r) : K0 Tryz.prog tab 51 [.ref 0 4 0 0,q6 f,q6 b,.d (.sl 4 (g.map qu))] [(0,.dat 4 [[.nilsl,.nilsl,G j,G k]])] 1 (.d (.tup [])) [(0,.cel 4 [[.hs 1 6 0 r.2.2.2.length,.d (.sl 4 (r.1.map qu)),q6 r.2.1,q6 r.2.2.1]]),(1,.dat 6 (r.2.2.2.map Q6))] 2:=by
 unfold q84 at c
 refine Ka Tryz.func51 J qj qj J<|qh<|qc<|q0 J<|Qy J<|O (.d (.bool (decide ((g.length : Int) > 0)))) J ?_
 obtain ⟨ah,o,c⟩:=q9 c
 refine Q9 8 (fun A st=>∃ (q s t u v w x : V),st = A [(21,qg ah),(20,x),(19,w),(18,v),(17,u),(16,t),(15,s),(14,q)]) ?_ ?_
 ·refine Q8 J J o (fun o=>?_) (fun o=>?_)
  ·refine q0 J<|O (.ref 0 4 0 0) J<|O (.ref 0 4 0 3) J<|O (q6 k) J<|q0 J<|O (qg (k == f)) J<|O (qg (k == f)) J<|qa ?_
   obtain rfl:=qe o
   exact ⟨_,_,_,_,_,_,_,J⟩
  refine qd J<|qd J<|qd J<|qd J<|qd J<|qd J<|O (qg false) J<|qa ?_
  obtain rfl:=qe o
  exact ⟨_,_,_,_,_,_,_,J⟩
 rintro _ ⟨q,s,t,u,v,w,x,rfl⟩
 obtain ⟨ai,m,c⟩:=q9 c
 refine Q9 8 (fun A st=>∃ (y z aa ab ac ad ae : V),st = A [(29,qg ai),(28,ae),(27,ad),(26,ac),(25,ab),(24,aa),(23,z),(22,y)]) ?_ ?_
 ·refine Q8 J J m (fun m=>?_) (fun m=>?_)
  ·refine q0 J<|O (.ref 0 4 0 0) J<|O (.ref 0 4 0 1) J<|O (.d (.nilsl)) J<|q0 J ?_
   obtain ⟨af,aj,m⟩:=q9 m
   refine Q5 (qkj (.cons (.nil _) (.cons (.refl _) .nil)) (qbo [] g af aj)) J<|O (qg af) J<|qa ?_
   obtain rfl:=qe m
   exact ⟨_,_,_,_,_,_,_,J⟩
  refine qd J<|qd J<|qd J<|qd J<|qd J<|qd J<|O (qg false) J<|qa ?_
  obtain rfl:=qe m
  exact ⟨_,_,_,_,_,_,_,J⟩
 rintro _ ⟨y,z,aa,ab,ac,ad,ae,rfl⟩
 refine qa ?_
 refine qp J c (fun _ c=>?_) (fun _ c=>?_)
 ·refine qh<|qc<|q0 J<|O (.ref 0 4 0 0) J<|O (.ref 0 4 0 2) J<|O (q6 j) J<|qb J<|qa ?_
  obtain ⟨ag,ak,c⟩:=q9 c
  refine Qm (fun p=>p = ag) (fun (p : Unit)=>⟨[(0,.ref 0 4 0 0),(2,q6 b)],[(0,.dat 4 [[.nilsl,.nilsl,G j,G k]])],1⟩) qf ?_ ?_
  ·refine Qf (qes j) (fun (al : Unit)=>⟨[(0,.ref 0 4 0 0),(2,q6 b),(8,q6 j)],[(0,.dat 4 [[.nilsl,.nilsl,G j,G k]])],1⟩) () ag ak (wkA [] [] []) ?_
   intro al ar n
   unfold qes at n
   refine qh<|qc<|q0 J<|q0 J<|O (.ref 0 4 0 0) J<|O (.ref 0 4 0 0) J<|O (.d (.nilsl)) J<|O (q6 0) J<|O (.d (.bool (decide (j < 0)))) J<|qa ?_
   refine qp J n (fun _ n=>?_) (fun _ n=>?_)
   ·refine qo<|qh<|Q1<|qy<|q0 J<|O (.ref 0 4 0 0) J<|O (.ref 0 4 0 0) J<|O (.d (.nilsl)) J<|q0 J<|q0 J ?_
    cases n
   refine Qb ?_
   refine ⟨_,(Option.some.inj n).symm,fun hm=>?_⟩
   subst hm
   exact ⟨_,J,wkA [] [] []⟩
  intro p hb
  subst hb
  refine qc<|q0 J<|q0 J<|O (.ref 0 4 0 0) J<|O (.ref 0 4 0 3) J<|qz 0 (.dat 4 [[.nilsl,.nilsl,G j,G b]]) J<|qv ?_
  obtain rfl:=qe c
  exact ⟨.inr J,_,J,wkA [] [] [1]⟩
 refine qo<|qc<|q0 J<|q0 J<|q0 J<|q0 J<|O (.ref 0 4 0 0) J<|O (.ref 0 4 0 0) J<|O (.d (.nilsl)) J<|O (q6 0) J<|q0 J<|q0 J<|O (.ref 0 4 0 0) J<|O (.ref 0 4 0 2) J<|qz 0 (.dat 4 [[.nilsl,.nilsl,G 0,G k]]) J<|O (.ref 0 4 0 0) J<|O (.ref 0 4 0 1) J<|qz 0 (.dat 4 [[.nilsl,.sl 4 (g.map qu),G 0,G k]]) J<|O (.ref 0 4 0 0) J<|O (.ref 0 4 0 3) J<|qz 0 (.dat 4 [[.nilsl,.sl 4 (g.map qu),G 0,G b]]) J<|qs<|q0 J<|Qy J<|q0 J<|qa ?_
 obtain ⟨am,an,c⟩:=q9 c
 refine Q1<|Qf (q58 g f b) (fun (l : Int × List qk)=>⟨[(0,.ref 0 4 0 0),(1,q6 f),(2,q6 b),(72,.d (.sl 4 (g.map qu))),(73,q6 (g.length : Int)),(74,q6 l.1)],[(0,.cel 4 [[.hs 1 6 0 l.2.length,.d (.sl 4 (g.map qu)),q6 0,q6 b]]),(1,.dat 6 (l.2.map Q6))],2⟩) (0,[]) am an (wkA [] [] [1]) ?_
 intro l au h
 unfold q58 at h
 refine qc<|O (.d (.bool (decide (l.1 < (g.length : Int))))) J<|qa<|qh ?_
 refine qp J h (fun _ h=>?_) (fun _ h=>?_)
 ·refine qo<|qh<|Q1<|qc ?_
  obtain ⟨a,ao,h⟩:=q9 h
  refine Qz (enc:=qu) ao J<|O (.d (.agg [G a.X0,G a.Y0,G a.X1,G a.Y1])) J<|Qe J J<|qz 2 (.dat 4 [[G a.X0,G a.Y0,G a.X1,G a.Y1]]) J<|qa<|Qd [Qh 0,q8,q8,(some [1,3],[1,4]),(some [],[3]),q8,q8,q8,qr 2,q8,qr 2,q8,q8,q8,qr 2,q8,qr 2,q8,qr 0,q8,q8,q8,q8] qj<|q0 J<|q0 J<|O (.ref 0 4 0 0) J<|O (.ref 0 4 0 0) J<|O (.hs 1 6 0 l.2.length) J<|O (.ref 2 4 0 0) J<|O (q6 a.X0) J<|O (.ref 2 4 0 1) J<|O (q6 a.Y0) J<|q0 J<|O (.d (.agg [G a.X0,G a.Y0,G f])) J<|O (.ref 2 4 0 2) J<|O (q6 a.X1) J<|O (.ref 2 4 0 3) J<|O (q6 a.Y1) J<|q0 J<|O (.d (.agg [G a.X1,G a.Y1,G b])) J<|O (.d (.agg [G a.X0,G a.Y0,G f,G a.X1,G a.Y1,G b])) J<|Ql (.hs 3 6 0 [({Lo:=({X:=a.X0,Y:=a.Y0,Z:=f} : qi),Hi:=({X:=a.X1,Y:=a.Y1,Z:=b} : qi)} : qk)].length) (.dat 6 ([({Lo:=({X:=a.X0,Y:=a.Y0,Z:=f} : qi),Hi:=({X:=a.X1,Y:=a.Y1,Z:=b} : qi)} : qk)].map Q6)) J ?_
  obtain ⟨ap,aq,h⟩:=q9 h
  refine Yr (xs:=l.2) (ys:=[({Lo:=({X:=a.X0,Y:=a.Y0,Z:=f} : qi),Hi:=({X:=a.X1,Y:=a.Y1,Z:=b} : qi)} : qk)]) (enc:=Q6) (.hs 3 6 0 [({Lo:=({X:=a.X0,Y:=a.Y0,Z:=f} : qi),Hi:=({X:=a.X1,Y:=a.Y1,Z:=b} : qi)} : qk)].length) aq J J J J J J J (Yo J J) J J J J<|O (.ref 0 4 0 0) J<|O (.ref 0 4 0 0) J<|qz 0 (.cel 4 [[.hs 4 6 0 ap.length,.d (.sl 4 (g.map qu)),q6 0,q6 b]]) J<|qx<|Qj<|qy<|O (.d (G (w64 (l.1 + 1)))) J<|q0 J<|qx ?_
  exact ⟨_,(Option.some.inj h).symm,wkA [(1,4)] [] []⟩
 refine Qb ?_
 refine ⟨_,(Option.some.inj h).symm,fun hm=>?_⟩
 subst hm
 obtain rfl:=qe c
 exact ⟨.inl J,_,J,wkA [(1,1)] [] []⟩
theorem qth (j : List ql) (f : Int) (g : Int) (r : List qk × Int) (a : q54 j f g = some r) : Pure Tryz.prog tab 11 [.sl 4 (j.map qu),G f,G g] (.tup [.sl 6 (r.1.map Q6),G r.2]):=by
 unfold q54 at a
 refine Qi Tryz.func11 J qj qj J<|qc<|qb J<|qb J<|qa<|qh<|qc<|q0 J ?_
 obtain ⟨m,z,a⟩:=q9 a
 refine Q5 (qbd j m z) J<|qb J<|qs<|q0 J<|O (qg (m != 0)) J<|qa ?_
 refine qp J a (fun _ a=>?_) (fun _ a=>?_)
 ·refine qc<|q0 J<|qb J<|qb J<|qv ?_
  obtain rfl:=qe a
  exact finD (.inr J) (v:=.d (.tup [.nilsl,G m])) J J (Yc (.cons (.nil _) (.cons (.refl _) .nil)))
 refine qo<|qh<|qc<|q0 J ?_
 obtain ⟨o,h4,a⟩:=q9 a
 refine Q5 (qer f o h4) J<|O (qg (!o)) J ?_
 obtain ⟨c7,h,a⟩:=q9 a
 refine Q9 5 (fun A st=>∃ (p q s t : V),st = A [(22,qg c7),(21,t),(20,s),(19,q),(18,p)]) ?_ ?_
 ·refine Q8 J J h (fun h=>?_) (fun h=>?_)
  ·refine qd J<|qd J<|qd J<|O (qg true) J<|qa ?_
   obtain rfl:=qe h
   exact ⟨_,_,_,_,J⟩
  refine q0 J ?_
  obtain ⟨n,ac,h⟩:=q9 h
  refine Q5 (qer g n ac) J<|O (qg (!n)) J<|O (qg (!n)) J<|qa ?_
  obtain rfl:=qe h
  exact ⟨_,_,_,_,J⟩
 rintro _ ⟨p,q,s,t,rfl⟩
 obtain ⟨ad,k,a⟩:=q9 a
 refine Q9 5 (fun A st=>∃ (u w x y : V),st = A [(27,qg ad),(26,y),(25,x),(24,w),(23,u)]) ?_ ?_
 ·refine Q8 J J k (fun k=>?_) (fun k=>?_)
  ·refine qd J<|qd J<|qd J<|O (qg true) J<|qa ?_
   obtain rfl:=qe k
   exact ⟨_,_,_,_,J⟩
  refine q0 J<|q0 J<|O (.d (.bool (decide (f ≥ g)))) J<|O (.d (.bool (decide (f ≥ g)))) J<|qa ?_
  obtain rfl:=qe k
  exact ⟨_,_,_,_,J⟩
 rintro _ ⟨u,w,x,y,rfl⟩
 refine qa ?_
 refine qp J a (fun _ a=>?_) (fun _ a=>?_)
 ·refine qc<|qb J<|qb J<|qv ?_
  obtain rfl:=qe a
  exact finD (.inr J) (v:=.d (.tup [.nilsl,G 2])) J J (Yc (.cons (.nil _) (.cons (.refl _) .nil)))
 refine qo<|qc<|Qe J J<|qs<|q0 J<|q0 J<|q0 J ?_
 obtain ⟨b,ae,a⟩:=q9 a
 refine K2 [(0,0)] [(0,0),(1,1)] [.ref 0 4 0 0,q6 f,q6 g,.d (.sl 4 (j.map qu))] (.d (.tup [])) 2 [(0,.cel 4 [[.hs 1 6 0 b.2.2.2.length,.d (.sl 4 (b.1.map qu)),q6 b.2.1,q6 b.2.2.1]]),(1,.dat 6 (b.2.2.2.map Q6))] 2 (qtm 0 0 f g j b ae)<|qs ?_
 obtain ⟨af,l,a⟩:=q9 a
 refine q2i [.ref 0 4 0 0] (fun c=>c = af) (fun (c : Int × List qk)=>⟨[(32,.tup [.hs 0 6 0 c.2.length,q6 c.1])],[(0,.dat 6 (c.2.map Q6))],1⟩) J J Tryz.func52 J qj qj J ?_ ?_
 ·refine qc<|qb J<|qb J<|qa<|qh<|qc<|q0 J<|O (.ref 0 4 0 0) J<|O (.ref 0 4 0 0) J<|O (.hs 1 6 0 b.2.2.2.length) J<|O (q6 (b.2.2.2.length : Int)) J<|O (.d (.bool (decide ((b.2.2.2.length : Int) > 400)))) J<|qa ?_
  refine qp J l (fun _ l=>?_) (fun _ l=>?_)
  ·refine qc<|qb J<|qb J<|qv ?_
   refine ⟨.inr J,_,J,?_⟩
   obtain rfl:=qe l
   exact ⟨_,J,wkA [] [] [0]⟩
  refine qo<|qc<|q0 J<|O (.ref 0 4 0 0) J<|O (.ref 0 4 0 0) J<|O (.hs 1 6 0 b.2.2.2.length) J<|qb J<|qb J<|qv ?_
  refine ⟨.inr J,_,J,?_⟩
  obtain rfl:=qe l
  exact ⟨_,J,wkA [(0,1)] [] []⟩
 intro c hb
 subst hb
 refine O (.hs 0 6 0 c.2.length) J<|O (q6 c.1) J<|qb J<|qb J<|qv ?_
 obtain rfl:=qe a
 exact finD (.inr J) (v:=.tup [.hs 0 6 0 c.2.length,q6 c.1]) J (q6y (Jp (Jb J J) (Jp J J))) (.refl _)
theorem qw3 (f : List qk) (j : qk→Option Bool) (p1F : FuncId) (p1C : List DV) (p1Ok : ∀ (c : qk) (r : Bool),j c = some r→Pure Tryz.prog tab p1F ([.agg [G c.Lo.X,G c.Lo.Y,G c.Lo.Z,G c.Hi.X,G c.Hi.Y,G c.Hi.Z]] ++ p1C) (.bool r)) (r : Int) (g : qbt f j = some r) : Pure Tryz.prog tab 117 [.sl 6 (f.map Q6),.fn p1F p1C] (G r):=by
 unfold qbt at g
 refine Qi Tryz.func117 J qj qj J<|qc<|qb J<|qa<|qh<|qc<|q0 J<|Qy J<|q0 J<|qa ?_
 obtain ⟨l,m,g⟩:=q9 g
 refine Qm (fun k=>.inl k = l) (fun (k : Unit)=>⟨[],[],0⟩) qf ?_ ?_
 ·refine Qf (q3p f j) (fun (h : Int)=>⟨[(0,.d (.sl 6 (f.map Q6))),(1,.d (.fn p1F p1C)),(7,q6 (f.length : Int)),(8,q6 h)],[],0⟩) 0 l m (wkA [] [] []) ?_
  intro h q a
  unfold q3p at a
  refine qc<|O (.d (.bool (decide (h < (f.length : Int))))) J<|qa<|qh ?_
  refine qp J a (fun _ a=>?_) (fun _ a=>?_)
  ·refine qo<|qh<|Q1<|qc<|q0 J<|qb J<|qs<|q0 J<|q0 J<|q0 J ?_
   obtain ⟨b,n,a⟩:=q9 a
   refine Qz (enc:=Q6) n J<|O (.d (.agg [G b.Lo.X,G b.Lo.Y,G b.Lo.Z,G b.Hi.X,G b.Hi.Y,G b.Hi.Z])) J ?_
   obtain ⟨o,p,a⟩:=q9 a
   refine Yf [.d (.agg [G b.Lo.X,G b.Lo.Y,G b.Lo.Z,G b.Hi.X,G b.Hi.Y,G b.Hi.Z])] (p1Ok b o p) J J J (.inl J)<|qa ?_
   refine qp J a (fun _ a=>?_) (fun _ a=>?_)
   ·refine qc<|q0 J<|qb J<|qv ?_
    refine ⟨_,(Option.some.inj a).symm,fun hm=>?_⟩
    subst hm
    obtain rfl:=qe g
    exact Q4 (q6 h) J
   refine qo<|Qc<|Qj<|qy<|O (.d (G (w64 (h + 1)))) J<|q0 J<|qx ?_
   exact ⟨_,(Option.some.inj a).symm,wkA [] [] []⟩
  refine Qb ?_
  refine ⟨_,(Option.some.inj a).symm,fun hm=>?_⟩
  subst hm
  exact ⟨_,J,wkA [] [] []⟩
 intro k hb
 subst hb
 refine qc<|qb J<|qv ?_
 obtain rfl:=qe g
 exact Q4 (q6 (-1)) J
theorem qvw (c : List qk) (f : qk→Option Bool) (p1F : FuncId) (p1C : List DV) (p1Ok : ∀ (a : qk) (r : Bool),f a = some r→Pure Tryz.prog tab p1F ([.agg [G a.Lo.X,G a.Lo.Y,G a.Lo.Z,G a.Hi.X,G a.Hi.Y,G a.Hi.Z]] ++ p1C) (.bool r)) (r : Bool) (b : q8f c f = some r) : Pure Tryz.prog tab 72 [.sl 6 (c.map Q6),.fn p1F p1C] (.bool r):=by
 unfold q8f at b
 refine Qi Tryz.func72 J qj qj J<|qc<|qb J<|qs<|q0 J<|q0 J ?_
 obtain ⟨g,h,b⟩:=q9 b
 refine Q5 (qw3 c f p1F p1C p1Ok g h) J<|O (.d (.bool (decide (g ≥ 0)))) J<|qb J<|qv ?_
 obtain rfl:=qe b
 exact Q4 (.d (.bool (decide (g ≥ 0)))) J
theorem qlw (a : qi) (r : Bool) (c : q6r a = some r) : Pure Tryz.prog tab 140 [.agg [G a.X,G a.Y,G a.Z]] (.bool r):=by
 unfold q6r at c
 refine Qi Tryz.func140 J qj qj J<|qc<|Ql (.ref 0 3 0 0) (.dat 3 [[G a.X,G a.Y,G a.Z]]) J<|qb J<|qs<|O (.ref 0 3 0 0) J<|O (q6 a.X) J<|O (.ref 0 3 0 1) J<|O (q6 a.Y) J<|O (.ref 0 3 0 2) J<|O (q6 a.Z) J<|Uo (r:=min (min a.X a.Y) a.Z) J J (by simp only [Um];rfl)<|O (.d (.bool (decide ((min (min a.X a.Y) a.Z) ≥ (-1000000))))) J ?_
 obtain ⟨f,b,c⟩:=q9 c
 refine Q9 10 (fun A st=>∃ (g h j k l m n o p : V),st = A [(20,qg f),(19,p),(18,o),(17,n),(16,m),(15,l),(14,k),(13,j),(12,h),(11,g)]) ?_ ?_
 ·refine Q8 J J b (fun b=>?_) (fun b=>?_)
  ·refine O (.ref 0 3 0 0) J<|O (q6 a.X) J<|O (.ref 0 3 0 1) J<|O (q6 a.Y) J<|O (.ref 0 3 0 2) J<|O (q6 a.Z) J<|Un (r:=max (max a.X a.Y) a.Z) J J (by simp only [Ul];rfl)<|O (.d (.bool (decide ((max (max a.X a.Y) a.Z)≤1000000)))) J<|O (.d (.bool (decide ((max (max a.X a.Y) a.Z)≤1000000)))) J<|qa ?_
   obtain rfl:=qe b
   exact ⟨_,_,_,_,_,_,_,_,_,J⟩
  refine qd J<|qd J<|qd J<|qd J<|qd J<|qd J<|qd J<|qd J<|O (qg false) J<|qa ?_
  obtain rfl:=qe b
  exact ⟨_,_,_,_,_,_,_,_,_,J⟩
 rintro _ ⟨g,h,j,k,l,m,n,o,p,rfl⟩
 refine qb J<|qv ?_
 obtain rfl:=qe c
 exact Q4 (qg f) J
theorem qz4 (a : qk) (r : Bool) (b : q9d a = some r) : Pure Tryz.prog tab 100 [.agg [G a.Lo.X,G a.Lo.Y,G a.Lo.Z,G a.Hi.X,G a.Hi.Y,G a.Hi.Z]] (.bool r):=by
 unfold q9d at b
 refine Qi Tryz.func100 J qj qj J<|qc<|Ql (.ref 0 6 0 0) (.dat 6 [[G a.Lo.X,G a.Lo.Y,G a.Lo.Z,G a.Hi.X,G a.Hi.Y,G a.Hi.Z]]) J<|qb J<|qs<|O (.ref 0 6 0 0) J<|O (.ref 0 6 0 0) J<|O (q6 a.Lo.X) J<|O (.ref 0 6 0 3) J<|O (.ref 0 6 0 3) J<|O (q6 a.Hi.X) J<|O (.d (.bool (decide (a.Lo.X < a.Hi.X)))) J ?_
 obtain ⟨c1,g,b⟩:=q9 b
 refine Q9 9 (fun A st=>∃ (j k l m n o p q : V),st = A [(18,qg c1),(17,q),(16,p),(15,o),(14,n),(13,m),(12,l),(11,k),(10,j)]) ?_ ?_
 ·refine Q8 J J g (fun g=>?_) (fun g=>?_)
  ·refine O (.ref 0 6 0 0) J<|O (.ref 0 6 0 1) J<|O (q6 a.Lo.Y) J<|O (.ref 0 6 0 3) J<|O (.ref 0 6 0 4) J<|O (q6 a.Hi.Y) J<|O (.d (.bool (decide (a.Lo.Y < a.Hi.Y)))) J<|O (.d (.bool (decide (a.Lo.Y < a.Hi.Y)))) J<|qa ?_
   obtain rfl:=qe g
   exact ⟨_,_,_,_,_,_,_,_,J⟩
  refine qd J<|qd J<|qd J<|qd J<|qd J<|qd J<|qd J<|O (qg false) J<|qa ?_
  obtain rfl:=qe g
  exact ⟨_,_,_,_,_,_,_,_,J⟩
 rintro _ ⟨j,k,l,m,n,o,p,q,rfl⟩
 obtain ⟨am,h,b⟩:=q9 b
 refine Q9 9 (fun A st=>∃ (s t u v w x y z : V),st = A [(27,qg am),(26,z),(25,y),(24,x),(23,w),(22,v),(21,u),(20,t),(19,s)]) ?_ ?_
 ·refine Q8 J J h (fun h=>?_) (fun h=>?_)
  ·refine O (.ref 0 6 0 0) J<|O (.ref 0 6 0 2) J<|O (q6 a.Lo.Z) J<|O (.ref 0 6 0 3) J<|O (.ref 0 6 0 5) J<|O (q6 a.Hi.Z) J<|O (.d (.bool (decide (a.Lo.Z < a.Hi.Z)))) J<|O (.d (.bool (decide (a.Lo.Z < a.Hi.Z)))) J<|qa ?_
   obtain rfl:=qe h
   exact ⟨_,_,_,_,_,_,_,_,J⟩
  refine qd J<|qd J<|qd J<|qd J<|qd J<|qd J<|qd J<|O (qg false) J<|qa ?_
  obtain rfl:=qe h
  exact ⟨_,_,_,_,_,_,_,_,J⟩
 rintro _ ⟨s,t,u,v,w,x,y,z,rfl⟩
 obtain ⟨an,c,b⟩:=q9 b
 refine Q9 5 (fun A st=>∃ (aa ab ac ad : V),st = A [(32,qg an),(31,ad),(30,ac),(29,ab),(28,aa)]) ?_ ?_
 ·refine Q8 J J c (fun c=>?_) (fun c=>?_)
  ·refine O (.ref 0 6 0 0) J<|O (.d (.agg [G a.Lo.X,G a.Lo.Y,G a.Lo.Z])) J ?_
   obtain ⟨ae,ao,c⟩:=q9 c
   refine Q5 (qlw a.Lo ae ao) J<|O (qg ae) J<|qa ?_
   obtain rfl:=qe c
   exact ⟨_,_,_,_,J⟩
  refine qd J<|qd J<|qd J<|O (qg false) J<|qa ?_
  obtain rfl:=qe c
  exact ⟨_,_,_,_,J⟩
 rintro _ ⟨aa,ab,ac,ad,rfl⟩
 obtain ⟨af,f,b⟩:=q9 b
 refine Q9 5 (fun A st=>∃ (ag ah ai aj : V),st = A [(37,qg af),(36,aj),(35,ai),(34,ah),(33,ag)]) ?_ ?_
 ·refine Q8 J J f (fun f=>?_) (fun f=>?_)
  ·refine O (.ref 0 6 0 3) J<|O (.d (.agg [G a.Hi.X,G a.Hi.Y,G a.Hi.Z])) J ?_
   obtain ⟨ak,ap,f⟩:=q9 f
   refine Q5 (qlw a.Hi ak ap) J<|O (qg ak) J<|qa ?_
   obtain rfl:=qe f
   exact ⟨_,_,_,_,J⟩
  refine qd J<|qd J<|qd J<|O (qg false) J<|qa ?_
  obtain rfl:=qe f
  exact ⟨_,_,_,_,J⟩
 rintro _ ⟨ag,ah,ai,aj,rfl⟩
 refine qb J<|qv ?_
 obtain rfl:=qe b
 exact Q4 (qg af) J
theorem qyt (a : qk) (r : Bool) (b : q2u a = some r) : Pure Tryz.prog tab 99 [.agg [G a.Lo.X,G a.Lo.Y,G a.Lo.Z,G a.Hi.X,G a.Hi.Y,G a.Hi.Z]] (.bool r):=by
 unfold q2u at b
 refine Qi Tryz.func99 J qj qj J<|qc<|Ql (.ref 0 6 0 0) (.dat 6 [[G a.Lo.X,G a.Lo.Y,G a.Lo.Z,G a.Hi.X,G a.Hi.Y,G a.Hi.Z]]) J<|qb J<|qs<|O (.d (.agg [G a.Lo.X,G a.Lo.Y,G a.Lo.Z,G a.Hi.X,G a.Hi.Y,G a.Hi.Z])) J ?_
 obtain ⟨c,f,b⟩:=q9 b
 refine Q5 (qz4 a c f) J<|O (qg (!c)) J<|qb J<|qv ?_
 obtain rfl:=qe b
 exact Q4 (qg (!c)) J
theorem qw1 (c : List ql) (j : ql→Option Bool) (p1F : FuncId) (p1C : List DV) (p1Ok : ∀ (f : ql) (r : Bool),j f = some r→Pure Tryz.prog tab p1F ([.agg [G f.X0,G f.Y0,G f.X1,G f.Y1]] ++ p1C) (.bool r)) (r : Int) (g : qbr c j = some r) : Pure Tryz.prog tab 112 [.sl 4 (c.map qu),.fn p1F p1C] (G r):=by
 unfold qbr at g
 refine Qi Tryz.func112 J qj qj J<|qc<|qb J<|qa<|qh<|qc<|q0 J<|Qy J<|q0 J<|qa ?_
 obtain ⟨l,m,g⟩:=q9 g
 refine Qm (fun k=>.inl k = l) (fun (k : Unit)=>⟨[],[],0⟩) qf ?_ ?_
 ·refine Qf (q3n c j) (fun (h : Int)=>⟨[(0,.d (.sl 4 (c.map qu))),(1,.d (.fn p1F p1C)),(7,q6 (c.length : Int)),(8,q6 h)],[],0⟩) 0 l m (wkA [] [] []) ?_
  intro h q a
  unfold q3n at a
  refine qc<|O (.d (.bool (decide (h < (c.length : Int))))) J<|qa<|qh ?_
  refine qp J a (fun _ a=>?_) (fun _ a=>?_)
  ·refine qo<|qh<|Q1<|qc<|q0 J<|qb J<|qs<|q0 J<|q0 J<|q0 J ?_
   obtain ⟨b,n,a⟩:=q9 a
   refine Qz (enc:=qu) n J<|O (.d (.agg [G b.X0,G b.Y0,G b.X1,G b.Y1])) J ?_
   obtain ⟨o,p,a⟩:=q9 a
   refine Yf [.d (.agg [G b.X0,G b.Y0,G b.X1,G b.Y1])] (p1Ok b o p) J J J (.inl J)<|qa ?_
   refine qp J a (fun _ a=>?_) (fun _ a=>?_)
   ·refine qc<|q0 J<|qb J<|qv ?_
    refine ⟨_,(Option.some.inj a).symm,fun hm=>?_⟩
    subst hm
    obtain rfl:=qe g
    exact Q4 (q6 h) J
   refine qo<|Qc<|Qj<|qy<|O (.d (G (w64 (h + 1)))) J<|q0 J<|qx ?_
   exact ⟨_,(Option.some.inj a).symm,wkA [] [] []⟩
  refine Qb ?_
  refine ⟨_,(Option.some.inj a).symm,fun hm=>?_⟩
  subst hm
  exact ⟨_,J,wkA [] [] []⟩
 intro k hb
 subst hb
 refine qc<|qb J<|qv ?_
 obtain rfl:=qe g
 exact Q4 (q6 (-1)) J
theorem qvu (c : List ql) (f : ql→Option Bool) (p1F : FuncId) (p1C : List DV) (p1Ok : ∀ (a : ql) (r : Bool),f a = some r→Pure Tryz.prog tab p1F ([.agg [G a.X0,G a.Y0,G a.X1,G a.Y1]] ++ p1C) (.bool r)) (r : Bool) (b : q8d c f = some r) : Pure Tryz.prog tab 104 [.sl 4 (c.map qu),.fn p1F p1C] (.bool r):=by
 unfold q8d at b
 refine Qi Tryz.func104 J qj qj J<|qc<|qb J<|qs<|q0 J<|q0 J ?_
 obtain ⟨g,h,b⟩:=q9 b
 refine Q5 (qw1 c f p1F p1C p1Ok g h) J<|O (.d (.bool (decide (g ≥ 0)))) J<|qb J<|qv ?_
 obtain rfl:=qe b
 exact Q4 (.d (.bool (decide (g ≥ 0)))) J
theorem qtr (a : ql) (r : Bool) (b : q2m a = some r) : Pure Tryz.prog tab 105 [.agg [G a.X0,G a.Y0,G a.X1,G a.Y1]] (.bool r):=by
 unfold q2m at b
 refine Qi Tryz.func105 J qj qj J<|qc<|Ql (.ref 0 4 0 0) (.dat 4 [[G a.X0,G a.Y0,G a.X1,G a.Y1]]) J<|qb J<|qs<|O (.d (.agg [G a.X0,G a.Y0,G a.X1,G a.Y1])) J ?_
 obtain ⟨c,f,b⟩:=q9 b
 refine Q5 (ql0 a c f) J<|O (qg (!c)) J<|qb J<|qv ?_
 obtain rfl:=qe b
 exact Q4 (qg (!c)) J
theorem qeu (b : List ql) (r : List ql × Int) (a : q1g b = some r) : Pure Tryz.prog tab 57 [.sl 4 (b.map qu)] (.tup [.sl 4 (r.1.map qu),G r.2]):=by
 unfold q1g at a
 refine Qi Tryz.func57 J qj qj J<|qc<|qb J<|qb J<|qa<|qh<|qc<|q0 J<|Qy J<|O (.d (.bool (decide ((b.length : Int) > 400)))) J<|qa ?_
 refine qp J a (fun _ a=>?_) (fun _ a=>?_)
 ·refine qc<|qb J<|qb J<|qv ?_
  obtain rfl:=qe a
  exact finD (.inr J) (v:=.d (.tup [.nilsl,G 4])) J J (Yc (.cons (.nil _) (.cons (.refl _) .nil)))
 refine qo<|qh<|qc<|q0 J ?_
 obtain ⟨g,h,a⟩:=q9 a
 refine Q5 (qvu b (fun f=>q2m f) 105 [] (fun f r hr=>qtr f r hr) g h) J<|qa ?_
 refine qp J a (fun _ a=>?_) (fun _ a=>?_)
 ·refine qc<|qb J<|qb J<|qv ?_
  obtain rfl:=qe a
  exact finD (.inr J) (v:=.d (.tup [.nilsl,G 8])) J J (Yc (.cons (.nil _) (.cons (.refl _) .nil)))
 refine qo<|qc<|q0 J ?_
 obtain ⟨c,j,a⟩:=q9 a
 refine Q5 (qkz b c j) J<|O (.d (.sl 4 (c.1.map qu))) J<|O (q6 c.2) J<|qb J<|qb J<|qv ?_
 obtain rfl:=qe a
 exact Q4 (.d (.tup [.sl 4 (c.1.map qu),G c.2])) J
theorem qlv (c : List qk) (m : List ql) (p : Int) (l : Int) (g : Int) (b : Int) (h : List ql) (r : List ql × Int × Int × List qk) (f : q6o  c m p l g b h = some r) : K0 Tryz.prog tab 142 [.ref 0 4 0 0,q6 g,q6 b,.d (.sl 4 (h.map qu))] [(0,.cel 4 [[.hs 1 6 0 c.length,.d (.sl 4 (m.map qu)),q6 p,q6 l]]),(1,.dat 6 (c.map Q6))] 2 (.d (.tup [])) [(0,.cel 4 [[.hs 2 6 0 r.2.2.2.length,.d (.sl 4 (r.1.map qu)),q6 r.2.1,q6 r.2.2.1]]),(2,.dat 6 (r.2.2.2.map Q6))] 3:=by
 unfold q6o at f
 refine Ka Tryz.func142 J qj qj J<|qh<|qc<|q0 J<|Qy J<|O (.d (.bool (decide ((h.length : Int) > 0)))) J ?_
 obtain ⟨am,t,f⟩:=q9 f
 refine Q9 8 (fun A st=>∃ (v w x y z aa ab : V),st = A [(21,qg am),(20,ab),(19,aa),(18,z),(17,y),(16,x),(15,w),(14,v)]) ?_ ?_
 ·refine Q8 J J t (fun t=>?_) (fun t=>?_)
  ·refine q0 J<|O (.ref 0 4 0 0) J<|O (.ref 0 4 0 3) J<|O (q6 l) J<|q0 J<|O (qg (l == g)) J<|O (qg (l == g)) J<|qa ?_
   obtain rfl:=qe t
   exact ⟨_,_,_,_,_,_,_,J⟩
  refine qd J<|qd J<|qd J<|qd J<|qd J<|qd J<|O (qg false) J<|qa ?_
  obtain rfl:=qe t
  exact ⟨_,_,_,_,_,_,_,J⟩
 rintro _ ⟨v,w,x,y,z,aa,ab,rfl⟩
 obtain ⟨an,q,f⟩:=q9 f
 refine Q9 8 (fun A st=>∃ (ac ad ae af ag ah ai : V),st = A [(29,qg an),(28,ai),(27,ah),(26,ag),(25,af),(24,ae),(23,ad),(22,ac)]) ?_ ?_
 ·refine Q8 J J q (fun q=>?_) (fun q=>?_)
  ·refine q0 J<|O (.ref 0 4 0 0) J<|O (.ref 0 4 0 1) J<|O (.d (.sl 4 (m.map qu))) J<|q0 J ?_
   obtain ⟨aj,ao,q⟩:=q9 q
   refine Q5 (qbo m h aj ao) J<|O (qg aj) J<|qa ?_
   obtain rfl:=qe q
   exact ⟨_,_,_,_,_,_,_,J⟩
  refine qd J<|qd J<|qd J<|qd J<|qd J<|qd J<|O (qg false) J<|qa ?_
  obtain rfl:=qe q
  exact ⟨_,_,_,_,_,_,_,J⟩
 rintro _ ⟨ac,ad,ae,af,ag,ah,ai,rfl⟩
 refine qa ?_
 refine qp J f (fun _ f=>?_) (fun _ f=>?_)
 ·refine qh<|qc<|q0 J<|O (.ref 0 4 0 0) J<|O (.ref 0 4 0 2) J<|O (q6 p) J<|qb J<|qa ?_
  obtain ⟨ak,ap,f⟩:=q9 f
  refine Qm (fun s=>s = ak) (fun (s : List qk)=>⟨[(0,.ref 0 4 0 0),(2,q6 b)],[(0,.cel 4 [[.hs 1 6 0 s.length,.d (.sl 4 (m.map qu)),q6 p,q6 l]]),(1,.dat 6 (s.map Q6))],2⟩) qf ?_ ?_
  ·refine Qf (q6p b) (fun (j : Int × List qk)=>⟨[(0,.ref 0 4 0 0),(2,q6 b),(8,q6 j.1)],[(0,.cel 4 [[.hs 1 6 0 j.2.length,.d (.sl 4 (m.map qu)),q6 p,q6 l]]),(1,.dat 6 (j.2.map Q6))],2⟩) (p,c) ak ap (wkA [] [] []) ?_
   intro j ax n
   unfold q6p at n
   refine qh<|qc<|q0 J<|q0 J<|O (.ref 0 4 0 0) J<|O (.ref 0 4 0 0) J<|O (.hs 1 6 0 j.2.length) J<|O (q6 (j.2.length : Int)) J<|O (.d (.bool (decide (j.1 < (j.2.length : Int))))) J<|qa ?_
   refine qp J n (fun _ n=>?_) (fun _ n=>?_)
   ·refine qo<|qh<|Q1<|qy<|q0 J<|O (.ref 0 4 0 0) J<|O (.ref 0 4 0 0) J<|O (.hs 1 6 0 j.2.length) J<|q0 J<|q0 J ?_
    obtain ⟨u,al,n⟩:=q9 n
    refine qw al J J<|O (.ref 1 6 j.1.toNat 3) J<|O (.ref 1 6 j.1.toNat 5) J<|Qt (ds:=[G b]) ({Lo:=u.Lo,Hi:=({X:=u.Hi.X,Y:=u.Hi.Y,Z:=b} : qi)} : qk) al J J J J J J J J (leb J) J<|qx<|Qj<|qy<|q0 J<|O (.d (G (w64 (j.1 + 1)))) J<|qb J<|qx ?_
    exact ⟨_,(Option.some.inj n).symm,wkE [] [] [] J ⟨⟨_,J,.ref J qt (ltd J)⟩,qq J,qq J,trivial⟩ ⟨⟨ltd J,.inr ⟨qt,_,J,Zt (.cons (Qx qf J qt (ltd J)) J (.cons (.d (.refl _)) J (.cons (.d (.refl _)) J (.cons (.d (.refl _)) J .nil))))⟩⟩,Qg J J,trivial⟩⟩
   refine Qb ?_
   refine ⟨_,(Option.some.inj n).symm,fun hm=>?_⟩
   subst hm
   exact ⟨_,J,wkA [] [] []⟩
  intro s hb
  subst hb
  refine qc<|q0 J<|q0 J<|O (.ref 0 4 0 0) J<|O (.ref 0 4 0 3) J<|qz 0 (.cel 4 [[.hs 1 6 0 s.length,.d (.sl 4 (m.map qu)),q6 p,q6 b]]) J<|qv ?_
  obtain rfl:=qe f
  exact ⟨.inr J,_,J,wkA [(2,1)] [] []⟩
 refine qo<|qc<|q0 J<|q0 J<|q0 J<|q0 J<|O (.ref 0 4 0 0) J<|O (.ref 0 4 0 0) J<|O (.hs 1 6 0 c.length) J<|O (q6 (c.length : Int)) J<|q0 J<|q0 J<|O (.ref 0 4 0 0) J<|O (.ref 0 4 0 2) J<|qz 0 (.cel 4 [[.hs 1 6 0 c.length,.d (.sl 4 (m.map qu)),q6 (c.length : Int),q6 l]]) J<|O (.ref 0 4 0 0) J<|O (.ref 0 4 0 1) J<|qz 0 (.cel 4 [[.hs 1 6 0 c.length,.d (.sl 4 (h.map qu)),q6 (c.length : Int),q6 l]]) J<|O (.ref 0 4 0 0) J<|O (.ref 0 4 0 3) J<|qz 0 (.cel 4 [[.hs 1 6 0 c.length,.d (.sl 4 (h.map qu)),q6 (c.length : Int),q6 b]]) J<|qs<|q0 J<|Qy J<|q0 J<|qa ?_
 obtain ⟨aq,ar,f⟩:=q9 f
 refine Q1<|Qf (q6q h g b c) (fun (o : Int × List qk)=>⟨[(0,.ref 0 4 0 0),(1,q6 g),(2,q6 b),(72,.d (.sl 4 (h.map qu))),(73,q6 (h.length : Int)),(74,q6 o.1)],[(0,.cel 4 [[.hs 2 6 0 o.2.length,.d (.sl 4 (h.map qu)),q6 (c.length : Int),q6 b]]),(2,.dat 6 (o.2.map Q6))],3⟩) (0,c) aq ar (wkA [(2,1)] [] []) ?_
 intro o ay k
 unfold q6q at k
 refine qc<|O (.d (.bool (decide (o.1 < (h.length : Int))))) J<|qa<|qh ?_
 refine qp J k (fun _ k=>?_) (fun _ k=>?_)
 ·refine qo<|qh<|Q1<|qc ?_
  obtain ⟨a,au,k⟩:=q9 k
  refine Qz (enc:=qu) au J<|O (.d (.agg [G a.X0,G a.Y0,G a.X1,G a.Y1])) J<|Qe J J<|qz 3 (.dat 4 [[G a.X0,G a.Y0,G a.X1,G a.Y1]]) J<|qa<|Qd [Qh 0,q8,q8,(some [2,4],[2,5]),(some [],[4]),q8,q8,q8,qr 3,q8,qr 3,q8,q8,q8,qr 3,q8,qr 3,q8,qr 0,q8,q8,q8,q8] qj<|q0 J<|q0 J<|O (.ref 0 4 0 0) J<|O (.ref 0 4 0 0) J<|O (.hs 2 6 0 o.2.length) J<|O (.ref 3 4 0 0) J<|O (q6 a.X0) J<|O (.ref 3 4 0 1) J<|O (q6 a.Y0) J<|q0 J<|O (.d (.agg [G a.X0,G a.Y0,G g])) J<|O (.ref 3 4 0 2) J<|O (q6 a.X1) J<|O (.ref 3 4 0 3) J<|O (q6 a.Y1) J<|q0 J<|O (.d (.agg [G a.X1,G a.Y1,G b])) J<|O (.d (.agg [G a.X0,G a.Y0,G g,G a.X1,G a.Y1,G b])) J<|Ql (.hs 4 6 0 [({Lo:=({X:=a.X0,Y:=a.Y0,Z:=g} : qi),Hi:=({X:=a.X1,Y:=a.Y1,Z:=b} : qi)} : qk)].length) (.dat 6 ([({Lo:=({X:=a.X0,Y:=a.Y0,Z:=g} : qi),Hi:=({X:=a.X1,Y:=a.Y1,Z:=b} : qi)} : qk)].map Q6)) J ?_
  obtain ⟨av,aw,k⟩:=q9 k
  refine Yr (xs:=o.2) (ys:=[({Lo:=({X:=a.X0,Y:=a.Y0,Z:=g} : qi),Hi:=({X:=a.X1,Y:=a.Y1,Z:=b} : qi)} : qk)]) (enc:=Q6) (.hs 4 6 0 [({Lo:=({X:=a.X0,Y:=a.Y0,Z:=g} : qi),Hi:=({X:=a.X1,Y:=a.Y1,Z:=b} : qi)} : qk)].length) aw J J J J J J J (Yo J J) J J J J<|O (.ref 0 4 0 0) J<|O (.ref 0 4 0 0) J<|qz 0 (.cel 4 [[.hs 5 6 0 av.length,.d (.sl 4 (h.map qu)),q6 (c.length : Int),q6 b]]) J<|qx<|Qj<|qy<|O (.d (G (w64 (o.1 + 1)))) J<|q0 J<|qx ?_
  exact ⟨_,(Option.some.inj k).symm,wkA [(2,5)] [] []⟩
 refine Qb ?_
 refine ⟨_,(Option.some.inj k).symm,fun hm=>?_⟩
 subst hm
 obtain rfl:=qe f
 exact ⟨.inl J,_,J,wkA [(2,2)] [] []⟩
theorem qz6 (c : List qk) (r : List qk × Int) (o : q9f c = some r) : Pure Tryz.prog tab 101 [.agg [.nilf],.sl 1 ([c].map Qs)] (.tup [.sl 6 (r.1.map Q6),G r.2]):=by
 unfold q9f at o
 refine Qi Tryz.func101 J qj qj J<|qc<|Ql (.ref 0 1 0 0) (.dat 1 [[.nilf]]) J<|Qe J J<|Qe J J<|qs<|Qe J J<|qa<|qh<|qc<|q0 J ?_
 obtain ⟨ar,m,o⟩:=q9 o
 refine q2i [.d (.sl 1 ([c].map Qs))] (fun h=>h = ar) (fun (h : List Int)=>⟨[(2,.ref 0 1 0 0),(4,.ref 1 1 0 0),(5,.ref 2 1 0 0),(6,.ref 3 4 0 0),(14,.fn 162 [.ref 4 1 0 0,.ref 5 1 0 0])],[(0,.dat 1 [[.nilf]]),(1,.dat 1 [[.nilsl]]),(2,.dat 1 [[G 0]]),(3,.dat 4 [[.nilsl,.nilsl,G 0,G 0]]),(4,.cel 1 [[.d (.sl 1 (h.map (eI .i64)))]]),(5,.dat 1 [[.sl 1 ([c].map Qs)]])],6⟩) J J Tryz.func141 J qj qj J ?_ ?_
 ·refine qc<|Ql (.ref 4 1 0 0) (.dat 1 [[.sl 1 ([c].map Qs)]]) J<|qb J<|qs<|Qe J J<|qa<|qh<|qc<|O (.d (.sl 1 ([c].map Qs))) J<|q4y 1 J J J J J<|q0 J<|qa<|Q1<|Ya<|qc<|O (qg true) J<|qa<|qh<|Z7 J<|qo<|qh ?_
  obtain ⟨au,ad,m⟩:=q9 m
  refine Qm (fun n=>n = au) (fun (n : List Int)=>⟨[(1,.ref 4 1 0 0),(3,.ref 5 1 0 0),(8,.d (.sl 1 ([c].map Qs))),(9,q6 1),(10,q6 0)],[(0,.dat 1 [[.nilf]]),(1,.dat 1 [[.nilsl]]),(2,.dat 1 [[G 0]]),(3,.dat 4 [[.nilsl,.nilsl,G 0,G 0]]),(4,.dat 1 [[.sl 1 ([c].map Qs)]]),(5,.cel 1 [[.hs 6 1 0 n.length]]),(6,.dat 1 (n.map (eI .i64)))],7⟩) qf ?_ ?_
  ·refine qc ?_
   obtain ⟨ae,av,ad⟩:=q9 ad
   refine Qz (enc:=Qs) av J<|O (.d (.sl 6 (ae.map Q6))) J<|qb J<|qs<|q0 J<|Qy J<|q0 J<|qa ?_
   obtain ⟨aw,ax,ad⟩:=q9 ad
   refine Q1<|Qf (q1n ae) (fun (w : Int × List Int)=>⟨[(1,.ref 4 1 0 0),(3,.ref 5 1 0 0),(8,.d (.sl 1 ([c].map Qs))),(9,q6 1),(10,q6 0),(14,.d (.sl 6 (ae.map Q6))),(15,q6 (ae.length : Int)),(16,q6 w.1)],[(0,.dat 1 [[.nilf]]),(1,.dat 1 [[.nilsl]]),(2,.dat 1 [[G 0]]),(3,.dat 4 [[.nilsl,.nilsl,G 0,G 0]]),(4,.dat 1 [[.sl 1 ([c].map Qs)]]),(5,.cel 1 [[.hs 6 1 0 w.2.length]]),(6,.dat 1 (w.2.map (eI .i64)))],7⟩) (0,[]) aw ax (wkA [(4,4),(5,5)] [] [6]) ?_
   intro w cb q
   unfold q1n at q
   refine qc<|O (.d (.bool (decide (w.1 < (ae.length : Int))))) J<|qa<|qh ?_
   refine qp J q (fun _ q=>?_) (fun _ q=>?_)
   ·refine qo<|qh<|Q1<|qc ?_
    obtain ⟨f,ay,q⟩:=q9 q
    refine Qz (enc:=Q6) ay J<|O (.d (.agg [G f.Lo.X,G f.Lo.Y,G f.Lo.Z,G f.Hi.X,G f.Hi.Y,G f.Hi.Z])) J<|Qe J J<|qz 7 (.dat 6 [[G f.Lo.X,G f.Lo.Y,G f.Lo.Z,G f.Hi.X,G f.Hi.Y,G f.Hi.Z]]) J<|qa<|qy<|O (.hs 6 1 0 w.2.length) J<|O (.ref 7 6 0 0) J<|O (.ref 7 6 0 2) J<|O (q6 f.Lo.Z) J<|O (.ref 7 6 0 3) J<|O (.ref 7 6 0 5) J<|O (q6 f.Hi.Z) J<|Ql (.hs 8 1 0 [f.Lo.Z,f.Hi.Z].length) (.dat 1 ([f.Lo.Z,f.Hi.Z].map (eI .i64))) J ?_
    obtain ⟨az,ba,q⟩:=q9 q
    refine Yr (xs:=w.2) (ys:=[f.Lo.Z,f.Hi.Z]) (enc:=(eI .i64)) (.hs 8 1 0 [f.Lo.Z,f.Hi.Z].length) ba J J J J J J J (Yo J J) J J J J<|qz 5 (.cel 1 [[.hs 9 1 0 az.length]]) J<|qx<|Qj<|qy<|O (.d (G (w64 (w.1 + 1)))) J<|q0 J<|qx ?_
    exact ⟨_,(Option.some.inj q).symm,wkA [(4,4),(5,5),(6,9)] [] []⟩
   refine Qb ?_
   refine ⟨_,(Option.some.inj q).symm,fun hm=>?_⟩
   subst hm
   obtain rfl:=qe ad
   exact ⟨_,J,wkA [(4,4),(5,5),(6,6)] [] []⟩
  intro n hb
  subst hb
  refine qy<|O (q6 1) J<|q0 J<|qa<|Ya<|qc<|O (qg false) J<|qa<|qh<|Z6 J<|Qb<|Ji<|qc<|O (.hs 6 1 0 n.length) J ?_
  obtain ⟨aj,bb,m⟩:=q9 m
  obtain ⟨cc,bc,m⟩:=q9 m
  have bd:=Kd bc
  refine K2 [(0,6)] [(0,1),(1,1),(2,1),(3,1),(4,1),(5,1),(6,0)] [.hs 6 1 0 n.length] (.d (.tup [])) 1 [(6,.dat 1 (aj.map (eI .i64))),(0,.dat 1 [[.nilf]]),(1,.dat 1 [[.nilsl]]),(2,.dat 1 [[G 0]]),(3,.dat 4 [[.nilsl,.nilsl,G 0,G 0]]),(4,.dat 1 [[.sl 1 ([c].map Qs)]]),(5,.cel 1 [[.hs 6 1 0 n.length]])] 7 (qbv n aj bb)<|qs<|O (.hs 6 1 0 n.length) J ?_
  obtain ⟨aa,be,m⟩:=q9 m
  obtain ⟨cd,bf,m⟩:=q9 m
  have ce:=Kd bf
  obtain ⟨cf,bg,m⟩:=q9 m
  have bh:=qcg bg
  refine Jq [(0,6)] [(0,1),(1,1),(2,1),(3,1),(4,1),(5,1),(6,0)] [.hs 6 1 0 n.length] (.hs 6 1 aa.1.1 aa.1.2) [(6,.dat 1 (aa.2.map (eI .i64)))] [(6,.dat 1 (aa.2.map (eI .i64))),(0,.dat 1 [[.nilf]]),(1,.dat 1 [[.nilsl]]),(2,.dat 1 [[G 0]]),(3,.dat 4 [[.nilsl,.nilsl,G 0,G 0]]),(4,.dat 1 [[.sl 1 ([c].map Qs)]]),(5,.cel 1 [[.hs 6 1 0 n.length]])] 7 (qbm aj aa be) J J J (Y4 [(0,6)] [] [] J ⟨⟨_,J,Qx (by simp [bd]) J qt (ltd J)⟩,trivial⟩ ⟨Qg J J,trivial⟩) (Y4 [(0,1),(1,1),(2,1),(3,1),(4,1),(5,1),(6,0)] [] [] J ⟨⟨_,J,.hs J qt (ltd J)⟩,trivial⟩ ⟨Qg J J,trivial⟩) J ⟨.inl J,.inr ⟨J,J⟩,.inr ⟨J,J⟩,.inr ⟨J,J⟩,.inr ⟨J,J⟩,.inr ⟨J,J⟩,.inr ⟨J,J⟩,trivial⟩<|qz 5 (.cel 1 [[.hs 6 1 aa.1.1 aa.1.2]]) J<|qs<|O (.fn 162 [.ref 5 1 0 0,.ref 4 1 0 0]) J<|qb J<|qv ?_
  refine ⟨.inr J,_,J,?_⟩
  obtain rfl:=qe m
  exact ⟨_,J,wkE [(0,0),(1,1),(2,2),(3,3),(4,5),(5,4)] [6] [] J ⟨⟨_,J,.ref J qt (ltd J)⟩,⟨_,J,.ref J qt (ltd J)⟩,⟨_,J,.ref J qt (ltd J)⟩,⟨_,J,.ref J qt (ltd J)⟩,⟨_,J,(q1u (.cons (.ref J qt (ltd J)) (.cons (.ref J qt (ltd J)) .nil)))⟩,trivial⟩ ⟨Qg J J,Qg J J,Qg J J,Qg J J,⟨ltd J,.inr ⟨qt,_,J,Zt (.cons (qci bh J qt) J .nil)⟩⟩,Qg J J,trivial⟩⟩
 intro h hb
 subst hb
 refine qa<|Q1 ?_
 obtain ⟨bi,ai,o⟩:=q9 o
 refine q88 (fun k=>.inl k = bi) (fun (k : List ql × Int × Int × List qk)=>⟨[(4,.ref 0 1 0 0),(5,.ref 1 1 0 0),(6,.ref 2 4 0 0)],[(0,.dat 1 [[.nilsl]]),(1,.dat 1 [[G 0]]),(2,.cel 4 [[.hs 3 6 0 k.2.2.2.length,.d (.sl 4 (k.1.map qu)),q6 k.2.1,q6 k.2.2.1]]),(3,.dat 6 (k.2.2.2.map Q6))],4⟩) ?_ ?_
 ·refine Yj (st':=⟨[(2,.ref 0 1 0 0),(4,.ref 1 1 0 0),(5,.ref 2 1 0 0),(6,.ref 3 4 0 0),(14,.fn 162 [.ref 4 1 0 0,.ref 5 1 0 0])],[(0,.dat 1 [[.nilf]]),(1,.dat 1 [[.nilsl]]),(2,.dat 1 [[G 0]]),(3,.dat 4 [[.nilsl,.nilsl,G 0,G 0]]),(4,.cel 1 [[.d (.sl 1 (h.map (eI .i64)))]]),(5,.dat 1 [[.sl 1 ([c].map Qs)]])],6⟩) (wkA [(0,0),(1,1),(2,2),(3,3),(4,4),(5,5)] [] []) ?_ qf
  refine q89 [.ref 4 1 0 0,.ref 5 1 0 0] (.inl J) Tryz.func162 J qj qj J ?_
  intro A879 B880 hA879 hB880
  refine qc<|qb J<|qa ?_
  obtain ⟨bj,bk,ai⟩:=q9 ai
  refine Q1<|Qf (q42 h c) (fun (b : Int × List ql × Int × Int × List qk)=>⟨[(0,.yld 6),(1,.ref 4 1 0 0),(2,.ref 5 1 0 0),(4,q6 b.1)],[(0,.dat 1 [[.nilf]]),(1,.dat 1 [[.nilsl]]),(2,.dat 1 [[G 0]]),(3,.cel 4 [[.hs 7 6 0 b.2.2.2.2.length,.d (.sl 4 (b.2.1.map qu)),q6 b.2.2.1,q6 b.2.2.2.1]]),(4,.cel 1 [[.d (.sl 1 (h.map (eI .i64)))]]),(5,.dat 1 [[.sl 1 ([c].map Qs)]]),(6,.loop [(2,.ref 0 1 0 0),(4,.ref 1 1 0 0),(5,.ref 2 1 0 0),(6,.ref 3 4 0 0),(14,.fn 162 [.ref 4 1 0 0,.ref 5 1 0 0])] [15] A879 B880 .ready none),(7,.dat 6 (b.2.2.2.2.map Q6))],8⟩) (1,[],0,0,[]) bj bk (wkA [] [] [7]) ?_
  intro b cg j
  unfold q42 at j
  refine qh<|qc<|q0 J<|O (.d (.sl 1 (h.map (eI .i64)))) J<|Qy J<|O (.d (.bool (decide (b.1 < (h.length : Int))))) J<|qa ?_
  refine qp J j (fun _ j=>?_) (fun _ j=>?_)
  ·refine qo<|qh<|Q1<|qh<|Qd [Qh 9,(some [],[9]),q8,(some [],[8]),q8,qr 5,q8,q8,q8,qr 4,q8,q8,q8,q8,qr 4] qj<|O (.d (.sl 1 (h.map (eI .i64)))) J<|q0 J<|O (.d (G (w64 (b.1 - 1)))) J ?_
   obtain ⟨g,bl,j⟩:=q9 j
   refine Qz (enc:=(eI .i64)) bl J<|O (q6 g) J<|O (.d (.sl 1 (h.map (eI .i64)))) J<|q0 J ?_
   obtain ⟨l,bm,j⟩:=q9 j
   refine Qz (enc:=(eI .i64)) bm J<|O (q6 l) J<|O (.d (.sl 1 ([c].map Qs))) J<|q4y 1 J J J J J<|Ql (.hs 8 1 0 1) (.dat 1 [[.nilsl]]) J<|O (.agg [q6 g,q6 l,.hs 8 1 0 1]) J<|Qe J J<|qz 9 (.cel 3 [[q6 g,q6 l,.hs 8 1 0 1]]) J<|qa<|qh<|qc<|O (.d (.sl 1 ([c].map Qs))) J<|q4y 1 J J J J J<|q0 J<|qa<|Q1<|Ya<|qc<|O (qg true) J<|qa<|qh<|Z7 J<|qo<|qh ?_
   obtain ⟨bn,af,j⟩:=q9 j
   refine Qm (fun s=>s = bn) (fun (s : List ql)=>⟨[(0,.yld 6),(1,.ref 4 1 0 0),(2,.ref 5 1 0 0),(4,q6 b.1),(5,.ref 7 3 0 0),(29,.d (.sl 1 ([c].map Qs))),(30,q6 1),(31,q6 0)],[(0,.dat 1 [[.nilf]]),(1,.dat 1 [[.nilsl]]),(2,.dat 1 [[G 0]]),(3,.cel 4 [[.hs 8 6 0 b.2.2.2.2.length,.d (.sl 4 (b.2.1.map qu)),q6 b.2.2.1,q6 b.2.2.2.1]]),(4,.cel 1 [[.d (.sl 1 (h.map (eI .i64)))]]),(5,.dat 1 [[.sl 1 ([c].map Qs)]]),(6,.loop [(2,.ref 0 1 0 0),(4,.ref 1 1 0 0),(5,.ref 2 1 0 0),(6,.ref 3 4 0 0),(14,.fn 162 [.ref 4 1 0 0,.ref 5 1 0 0])] [15] A879 B880 .ready none),(7,.cel 3 [[q6 g,q6 l,.hs 9 1 0 1]]),(8,.dat 6 (b.2.2.2.2.map Q6)),(9,.cel 1 [[.hs 10 4 0 s.length]]),(10,.dat 4 (s.map qu))],11⟩) qf ?_ ?_
   ·refine qc<|q0 J ?_
    obtain ⟨ab,bo,af⟩:=q9 af
    refine Qz (enc:=Qs) bo J<|O (.d (.sl 6 (ab.map Q6))) J<|qb J<|qb J<|qs<|q0 J<|Qy J<|q0 J<|qa ?_
    obtain ⟨bp,bq,af⟩:=q9 af
    refine Q1<|Qf (q1o ab g) (fun (t : Int × List ql)=>⟨[(0,.yld 6),(1,.ref 4 1 0 0),(2,.ref 5 1 0 0),(4,q6 b.1),(5,.ref 7 3 0 0),(6,q6 0),(29,.d (.sl 1 ([c].map Qs))),(30,q6 1),(31,q6 0),(36,.d (.sl 6 (ab.map Q6))),(37,q6 (ab.length : Int)),(38,q6 t.1)],[(0,.dat 1 [[.nilf]]),(1,.dat 1 [[.nilsl]]),(2,.dat 1 [[G 0]]),(3,.cel 4 [[.hs 8 6 0 b.2.2.2.2.length,.d (.sl 4 (b.2.1.map qu)),q6 b.2.2.1,q6 b.2.2.2.1]]),(4,.cel 1 [[.d (.sl 1 (h.map (eI .i64)))]]),(5,.dat 1 [[.sl 1 ([c].map Qs)]]),(6,.loop [(2,.ref 0 1 0 0),(4,.ref 1 1 0 0),(5,.ref 2 1 0 0),(6,.ref 3 4 0 0),(14,.fn 162 [.ref 4 1 0 0,.ref 5 1 0 0])] [15] A879 B880 .ready none),(7,.cel 3 [[q6 g,q6 l,.hs 9 1 0 1]]),(8,.dat 6 (b.2.2.2.2.map Q6)),(9,.cel 1 [[.hs 10 4 0 t.2.length]]),(10,.dat 4 (t.2.map qu))],11⟩) (0,[]) bp bq (wkA [(7,9),(8,7),(9,8)] [] [10]) ?_
    intro t ch x
    unfold q1o at x
    refine qc<|O (.d (.bool (decide (t.1 < (ab.length : Int))))) J<|qa<|qh ?_
    refine qp J x (fun _ x=>?_) (fun _ x=>?_)
    ·refine qo<|qh ?_
     obtain ⟨br,p,x⟩:=q9 x
     refine Qm (fun ag=>ag = br) (fun (ag : List ql)=>⟨[(0,.yld 6),(1,.ref 4 1 0 0),(2,.ref 5 1 0 0),(4,q6 b.1),(5,.ref 7 3 0 0),(6,q6 0),(29,.d (.sl 1 ([c].map Qs))),(30,q6 1),(31,q6 0),(36,.d (.sl 6 (ab.map Q6))),(37,q6 (ab.length : Int)),(38,q6 t.1)],[(0,.dat 1 [[.nilf]]),(1,.dat 1 [[.nilsl]]),(2,.dat 1 [[G 0]]),(3,.cel 4 [[.hs 8 6 0 b.2.2.2.2.length,.d (.sl 4 (b.2.1.map qu)),q6 b.2.2.1,q6 b.2.2.2.1]]),(4,.cel 1 [[.d (.sl 1 (h.map (eI .i64)))]]),(5,.dat 1 [[.sl 1 ([c].map Qs)]]),(6,.loop [(2,.ref 0 1 0 0),(4,.ref 1 1 0 0),(5,.ref 2 1 0 0),(6,.ref 3 4 0 0),(14,.fn 162 [.ref 4 1 0 0,.ref 5 1 0 0])] [15] A879 B880 .ready none),(7,.cel 3 [[q6 g,q6 l,.hs 9 1 0 1]]),(8,.dat 6 (b.2.2.2.2.map Q6)),(9,.cel 1 [[.hs 10 4 0 ag.length]]),(10,.dat 4 (ag.map qu))],11⟩) qf ?_ ?_
     ·refine qc ?_
      obtain ⟨a,bs,p⟩:=q9 p
      refine Qz (enc:=Q6) bs J<|O (.d (.agg [G a.Lo.X,G a.Lo.Y,G a.Lo.Z,G a.Hi.X,G a.Hi.Y,G a.Hi.Z])) J<|Qe J J<|qz 11 (.dat 6 [[G a.Lo.X,G a.Lo.Y,G a.Lo.Z,G a.Hi.X,G a.Hi.Y,G a.Hi.Z]]) J<|qs<|O (.ref 11 6 0 0) J<|O (.ref 11 6 0 2) J<|O (q6 a.Lo.Z) J<|O (.ref 7 3 0 0) J<|O (q6 g) J<|O (.d (.bool (decide (a.Lo.Z≤g)))) J ?_
      obtain ⟨bt,ah,p⟩:=q9 p
      refine Q9 8 (fun A st=>∃ (ak al am an ao ap aq : V),st = A [(55,qg bt),(54,aq),(53,ap),(52,ao),(51,an),(50,am),(49,al),(48,ak)]) ?_ ?_
      ·refine Q8 J J ah (fun ah=>?_) (fun ah=>?_)
       ·refine O (.ref 7 3 0 0) J<|O (q6 g) J<|O (.ref 11 6 0 3) J<|O (.ref 11 6 0 5) J<|O (q6 a.Hi.Z) J<|O (.d (.bool (decide (g < a.Hi.Z)))) J<|O (.d (.bool (decide (g < a.Hi.Z)))) J<|qa ?_
        obtain rfl:=qe ah
        exact ⟨_,_,_,_,_,_,_,J⟩
       refine qd J<|qd J<|qd J<|qd J<|qd J<|qd J<|O (qg false) J<|qa ?_
       obtain rfl:=qe ah
       exact ⟨_,_,_,_,_,_,_,J⟩
      rintro _ ⟨ak,al,am,an,ao,ap,aq,rfl⟩
      refine qa ?_
      refine qp J p (fun _ p=>?_) (fun _ p=>?_)
      ·refine Qd [Qh 9,q8,(some [10,12],[10,13]),(some [],[12]),q8,qr 11,q8,q8,qr 11,q8,q8,qr 11,q8,q8,qr 11,q8,q8,qr 9,q8,q8,qr 7,q8,q8,qr 7,q8] qj<|O (.ref 7 3 0 2) J<|O (.hs 9 1 0 1) J<|q0 J<|O (.ref 7 3 0 2) J<|O (.hs 9 1 0 1) J<|q0 J<|O (.ref 9 1 0 0) J<|O (.hs 10 4 0 t.2.length) J<|O (.ref 11 6 0 0) J<|O (.ref 11 6 0 0) J<|O (q6 a.Lo.X) J<|O (.ref 11 6 0 0) J<|O (.ref 11 6 0 1) J<|O (q6 a.Lo.Y) J<|O (.ref 11 6 0 3) J<|O (.ref 11 6 0 3) J<|O (q6 a.Hi.X) J<|O (.ref 11 6 0 3) J<|O (.ref 11 6 0 4) J<|O (q6 a.Hi.Y) J<|O (.d (.agg [G a.Lo.X,G a.Lo.Y,G a.Hi.X,G a.Hi.Y])) J<|Ql (.hs 12 4 0 [({X0:=a.Lo.X,Y0:=a.Lo.Y,X1:=a.Hi.X,Y1:=a.Hi.Y} : ql)].length) (.dat 4 ([({X0:=a.Lo.X,Y0:=a.Lo.Y,X1:=a.Hi.X,Y1:=a.Hi.Y} : ql)].map qu)) J ?_
       obtain ⟨bu,bv,p⟩:=q9 p
       refine Yr (xs:=t.2) (ys:=[({X0:=a.Lo.X,Y0:=a.Lo.Y,X1:=a.Hi.X,Y1:=a.Hi.Y} : ql)]) (enc:=qu) (.hs 12 4 0 [({X0:=a.Lo.X,Y0:=a.Lo.Y,X1:=a.Hi.X,Y1:=a.Hi.Y} : ql)].length) bv J J J J J J J (Yo J J) J J J J<|O (.ref 9 1 0 0) J<|qz 9 (.cel 1 [[.hs 13 4 0 bu.length]]) J<|qx ?_
       obtain rfl:=qe p
       exact ⟨_,J,wkA [(7,7),(8,8),(9,9),(10,13)] [] []⟩
      refine qo<|Qc ?_
      obtain rfl:=qe p
      exact ⟨_,J,wkA [(7,7),(8,8),(9,9),(10,10)] [] []⟩
     intro ag hb
     subst hb
     refine qy<|O (.d (G (w64 (t.1 + 1)))) J<|q0 J<|qx ?_
     exact ⟨_,(Option.some.inj x).symm,wkA [(7,7),(8,8),(9,9),(10,10)] [] []⟩
    refine Qb ?_
    refine ⟨_,(Option.some.inj x).symm,fun hm=>?_⟩
    subst hm
    obtain rfl:=qe af
    exact ⟨_,J,wkA [(7,7),(8,8),(9,9),(10,10)] [] []⟩
   intro s hb
   subst hb
   refine qy<|O (q6 1) J<|q0 J<|qa<|Ya<|qc<|O (qg false) J<|qa<|qh<|Z6 J<|Qb<|Ji<|qh ?_
   refine Yj (st':=⟨[(0,.yld 6),(1,.ref 4 1 0 0),(2,.ref 5 1 0 0),(4,q6 b.1),(5,.ref 7 3 0 0)],[(0,.dat 1 [[.nilf]]),(1,.dat 1 [[.nilsl]]),(2,.dat 1 [[G 0]]),(3,.cel 4 [[.hs 8 6 0 b.2.2.2.2.length,.d (.sl 4 (b.2.1.map qu)),q6 b.2.2.1,q6 b.2.2.2.1]]),(4,.cel 1 [[.d (.sl 1 (h.map (eI .i64)))]]),(5,.dat 1 [[.sl 1 ([c].map Qs)]]),(6,.loop [(2,.ref 0 1 0 0),(4,.ref 1 1 0 0),(5,.ref 2 1 0 0),(6,.ref 3 4 0 0),(14,.fn 162 [.ref 4 1 0 0,.ref 5 1 0 0])] [15] A879 B880 .ready none),(7,.cel 3 [[q6 g,q6 l,.hs 9 1 0 1]]),(8,.dat 6 (b.2.2.2.2.map Q6)),(9,.cel 1 [[.d (.sl 4 (s.map qu))]])],10⟩) (wkA [(7,7),(8,8),(9,9)] [10] []) ?_ qf
   refine qy<|q0 J<|O (.agg [q6 g,q6 l,.hs 9 1 0 1]) J ?_
   obtain ⟨bw,u,j⟩:=q9 j
   refine q7s (fun y=>.inl y = bw) (fun (y : List ql × Int × Int × List qk)=>⟨[(0,.yld 6),(1,.ref 4 1 0 0),(2,.ref 5 1 0 0),(4,q6 b.1),(84,qg true)],[(0,.dat 1 [[.nilf]]),(1,.dat 1 [[.nilsl]]),(2,.dat 1 [[G 0]]),(3,.cel 4 [[.hs 7 6 0 y.2.2.2.length,.d (.sl 4 (y.1.map qu)),q6 y.2.1,q6 y.2.2.1]]),(4,.cel 1 [[.d (.sl 1 (h.map (eI .i64)))]]),(5,.dat 1 [[.sl 1 ([c].map Qs)]]),(6,.loop [(2,.ref 0 1 0 0),(4,.ref 1 1 0 0),(5,.ref 2 1 0 0),(6,.ref 3 4 0 0),(14,.fn 162 [.ref 4 1 0 0,.ref 5 1 0 0])] [15] A879 B880 .ready none),(7,.dat 6 (y.2.2.2.map Q6))],8⟩) hA879 hB880 J J J J J J ?_ ?_
   ·refine qy<|Qe J J<|qz 10 (.cel 3 [[q6 g,q6 l,.hs 9 1 0 1]]) J<|qx ?_
    refine ⟨J,_,J,?_⟩
    refine Q1<|qc<|O (.ref 10 3 0 2) J<|O (.hs 9 1 0 1) J<|O (.ref 9 1 0 0) J<|O (.d (.sl 4 (s.map qu))) J ?_
    obtain ⟨z,bz,u⟩:=q9 u
    refine Q5 (qeu s z bz) J<|q0 J<|O (.d (.sl 4 (z.1.map qu))) J<|O (q6 z.2) J<|qb J<|qb J<|qa<|qh<|qc<|O (.ref 10 3 0 2) J<|O (.hs 9 1 0 1) J<|O (.hs 9 1 1 0) J<|O (q6 0) J<|q0 J<|qa<|Q1<|Ya<|qc<|O (qg false) J<|qa<|qh<|Z6 J<|Qb<|Ji<|qh<|qc<|q0 J<|O (qg (z.2 != 0)) J<|qa ?_
    refine qp J u (fun _ u=>?_) (fun _ u=>?_)
    ·refine qc<|q0 J<|qz 1 (.dat 1 [[.nilsl]]) J<|qz 2 (.dat 1 [[G z.2]]) J<|qv ?_
     obtain rfl:=qe u
     refine ⟨_,J,?_⟩
     refine O (qg true) J<|qa<|Z7 J<|q1h ?_
     refine ⟨_,(Option.some.inj j).symm,fun hm=>?_⟩
     subst hm
     refine ⟨.inr J,_,J,_,_,.ret,J,qt,?_⟩
     refine qcs ?_
     obtain rfl:=qe ai
     obtain rfl:=qe o
     exact finD (.inr J) (v:=.d (.tup [.nilsl,G z.2])) J J (Yc (.cons (.nil _) (.cons (.refl _) .nil)))
    refine qo<|qy<|O (.ref 10 3 0 0) J<|O (q6 g) J<|O (.ref 10 3 0 1) J<|O (q6 l) J<|q0 J ?_
    obtain ⟨ac,ca,u⟩:=q9 u
    refine K2 [(0,3),(1,8)] [(0,3),(1,3),(2,3),(3,0),(4,3),(5,3),(6,3),(7,3),(8,1),(9,3),(10,3),(11,2)] [.ref 3 4 0 0,q6 g,q6 l,.d (.sl 4 (z.1.map qu))] (.d (.tup [])) 2 [(3,.cel 4 [[.hs 11 6 0 ac.2.2.2.length,.d (.sl 4 (ac.1.map qu)),q6 ac.2.1,q6 ac.2.2.1]]),(11,.dat 6 (ac.2.2.2.map Q6)),(0,.dat 1 [[.nilf]]),(1,.dat 1 [[.nilsl]]),(2,.dat 1 [[G 0]]),(4,.cel 1 [[.d (.sl 1 (h.map (eI .i64)))]]),(5,.dat 1 [[.sl 1 ([c].map Qs)]]),(6,.loop [(2,.ref 0 1 0 0),(4,.ref 1 1 0 0),(5,.ref 2 1 0 0),(6,.ref 3 4 0 0),(14,.fn 162 [.ref 4 1 0 0,.ref 5 1 0 0])] [15] A879 B880 .busy none),(7,.cel 3 [[q6 g,q6 l,.hs 9 1 0 1]]),(9,.cel 1 [[.d (.sl 4 (s.map qu))]]),(10,.cel 3 [[q6 g,q6 l,.hs 9 1 0 1]])] 12 (qlv b.2.2.2.2 b.2.1 b.2.2.1 b.2.2.2.1 g l z.1 ac ca)<|qx<|Qj<|Qc ?_
    refine ⟨_,J,?_⟩
    obtain rfl:=qe u
    exact ⟨_,J,wkA [(7,11)] [] []⟩
   intro y hb
   subst hb
   refine O (qg false) J<|qa<|Z6 J<|qo<|Qc<|Qj<|qy<|q0 J<|O (.d (G (w64 (b.1 + 1)))) J<|qb J<|qx ?_
   exact ⟨_,(Option.some.inj j).symm,wkA [(7,7)] [] []⟩
  refine Qb ?_
  refine ⟨_,(Option.some.inj j).symm,fun hm=>?_⟩
  subst hm
  refine ⟨.inl J,_,J,_,_,.nor,J,qt,?_⟩
  refine q6z<|Qc ?_
  obtain rfl:=qe ai
  exact ⟨_,J,wkA [(0,1),(1,2),(2,3),(3,7)] [] []⟩
 intro k st hb hw
 subst hb
 refine Yj hw ?_ qf
 refine qh<|qc<|O (.ref 2 4 0 0) J<|O (.hs 3 6 0 k.2.2.2.length) J<|O (q6 (k.2.2.2.length : Int)) J<|O (.d (.bool (decide ((k.2.2.2.length : Int) > 400)))) J<|qa ?_
 refine qp J o (fun _ o=>?_) (fun _ o=>?_)
 ·refine qc<|qz 0 (.dat 1 [[.nilsl]]) J<|qz 1 (.dat 1 [[G 4]]) J<|qv ?_
  obtain rfl:=qe o
  exact finD (.inr J) (v:=.d (.tup [.nilsl,G 4])) J J (Yc (.cons (.nil _) (.cons (.refl _) .nil)))
 refine qo<|qc<|O (.ref 2 4 0 0) J<|O (.hs 3 6 0 k.2.2.2.length) J<|qz 0 (.cel 1 [[.hs 3 6 0 k.2.2.2.length]]) J<|qz 1 (.dat 1 [[G 0]]) J<|qv ?_
 obtain rfl:=qe o
 exact finD (.inr J) (v:=.tup [.hs 3 6 0 k.2.2.2.length,q6 0]) J (q6y (Jp (Jb J J) (Jp J J))) (.refl _)
theorem qvz (g : List qk) (h : List qk) (r : Bool) (f : qbp g h = some r) : Pure Tryz.prog tab 102 [.sl 6 (g.map Q6),.sl 6 (h.map Q6)] (.bool r):=by
 unfold qbp at f
 refine Qi Tryz.func102 J qj qj J<|qc<|qb J<|qa<|qh<|qc<|q0 J<|Qy J<|q0 J<|Qy J<|O (.d (.bool ((g.length : Int) != (h.length : Int)))) J<|qa ?_
 refine qp J f (fun _ f=>?_) (fun _ f=>?_)
 ·refine qc<|qb J<|qv ?_
  obtain rfl:=qe f
  exact Q4 (qg false) J
 refine qo<|qh<|qc<|q0 J<|Qy J<|q0 J<|qa ?_
 obtain ⟨l,m,f⟩:=q9 f
 refine Qm (fun k=>.inl k = l) (fun (k : Unit)=>⟨[],[],0⟩) qf ?_ ?_
 ·refine Qf (qf9 g h) (fun (j : Int)=>⟨[(0,.d (.sl 6 (g.map Q6))),(1,.d (.sl 6 (h.map Q6))),(12,q6 (g.length : Int)),(13,q6 j)],[],0⟩) 0 l m (wkA [] [] []) ?_
  intro j p a
  unfold qf9 at a
  refine qc<|O (.d (.bool (decide (j < (g.length : Int))))) J<|qa<|qh ?_
  refine qp J a (fun _ a=>?_) (fun _ a=>?_)
  ·refine qo<|qh<|Q1<|qc<|q0 J<|qb J<|qa<|qh<|Qd [q8,q8,q8,q8,q8,q8,q8,q8,q8] qj<|q0 J<|q0 J ?_
   obtain ⟨b,n,a⟩:=q9 a
   refine Qz (enc:=Q6) n J<|O (.d (.agg [G b.Lo.X,G b.Lo.Y,G b.Lo.Z,G b.Hi.X,G b.Hi.Y,G b.Hi.Z])) J<|q0 J<|q0 J ?_
   obtain ⟨c,o,a⟩:=q9 a
   refine Qz (enc:=Q6) o J<|O (.d (.agg [G c.Lo.X,G c.Lo.Y,G c.Lo.Z,G c.Hi.X,G c.Hi.Y,G c.Hi.Z])) J<|O (.d (.bool (!((b.Lo.X == c.Lo.X) && ((b.Lo.Y == c.Lo.Y) && ((b.Lo.Z == c.Lo.Z) && ((b.Hi.X == c.Hi.X) && ((b.Hi.Y == c.Hi.Y) && ((b.Hi.Z == c.Hi.Z) && true))))))))) J<|qa ?_
   refine qp J a (fun _ a=>?_) (fun _ a=>?_)
   ·refine qc<|qb J<|qv ?_
    refine ⟨_,(Option.some.inj a).symm,fun hm=>?_⟩
    subst hm
    obtain rfl:=qe f
    exact Q4 (qg false) J
   refine qo<|Qc<|Qj<|qy<|O (.d (G (w64 (j + 1)))) J<|q0 J<|qx ?_
   exact ⟨_,(Option.some.inj a).symm,wkA [] [] []⟩
  refine Qb ?_
  refine ⟨_,(Option.some.inj a).symm,fun hm=>?_⟩
  subst hm
  exact ⟨_,J,wkA [] [] []⟩
 intro k hb
 subst hb
 refine qc<|qb J<|qv ?_
 obtain rfl:=qe f
 exact Q4 (qg true) J
theorem q9b (b : List qk) (r : Int) (a : q1m b = some r) : Pure Tryz.prog tab 55 [.sl 6 (b.map Q6)] (G r):=by
 unfold q1m at a
 refine Qi Tryz.func55 J qj qj J<|qc<|qb J<|qa<|qh<|qc<|q0 J<|Qy J<|O (.d (.bool (decide ((b.length : Int) > 400)))) J<|qa ?_
 refine qp J a (fun _ a=>?_) (fun _ a=>?_)
 ·refine qc<|qb J<|qv ?_
  obtain rfl:=qe a
  exact Q4 (q6 4) J
 refine qo<|qh<|qc<|q0 J ?_
 obtain ⟨o,p,a⟩:=q9 a
 refine Q5 (qvw b (fun g=>q2u g) 99 [] (fun g r hr=>qyt g r hr) o p) J<|qa ?_
 refine qp J a (fun _ a=>?_) (fun _ a=>?_)
 ·refine qc<|qb J<|qv ?_
  obtain rfl:=qe a
  exact Q4 (q6 8) J
 refine qo<|qh<|qc<|O (.d (.agg [.nilf])) J<|q0 J<|q3g (es:=1) ([b].map Qs) J J J J J ?_
 obtain ⟨f,q,a⟩:=q9 a
 refine Q5 (qz6 b f q) J<|q0 J<|O (.d (.sl 6 (f.1.map Q6))) J<|O (q6 f.2) J<|qb J<|qb J<|qs<|q0 J<|O (qg (f.2 != 0)) J ?_
 obtain ⟨s,c,a⟩:=q9 a
 refine Q9 6 (fun A st=>∃ (j k l m n : V),st = A [(24,qg s),(23,n),(22,m),(21,l),(20,k),(19,j)]) ?_ ?_
 ·refine Q8 J J c (fun c=>?_) (fun c=>?_)
  ·refine qd J<|qd J<|qd J<|qd J<|O (qg true) J<|qa ?_
   obtain rfl:=qe c
   exact ⟨_,_,_,_,_,J⟩
  refine q0 J<|q0 J ?_
  obtain ⟨h,t,c⟩:=q9 c
  refine Q5 (qvz f.1 b h t) J<|O (qg (!h)) J<|O (qg (!h)) J<|qa ?_
  obtain rfl:=qe c
  exact ⟨_,_,_,_,_,J⟩
 rintro _ ⟨j,k,l,m,n,rfl⟩
 refine qa ?_
 refine qp J a (fun _ a=>?_) (fun _ a=>?_)
 ·refine qc<|qb J<|qv ?_
  obtain rfl:=qe a
  exact Q4 (q6 8) J
 refine qo<|qc<|qb J<|qv ?_
 obtain rfl:=qe a
 exact Q4 (q6 0) J
theorem qly (a : qk) (r : Int × Int × Int) (b : q6t a = some r) : Pure Tryz.prog tab 86 [.agg [G a.Lo.X,G a.Lo.Y,G a.Lo.Z,G a.Hi.X,G a.Hi.Y,G a.Hi.Z]] (.tup [G r.1,G r.2.1,G r.2.2]):=by
 unfold q6t at b
 refine Qi Tryz.func86 J qj qj J<|qc<|Ql (.ref 0 6 0 0) (.dat 6 [[G a.Lo.X,G a.Lo.Y,G a.Lo.Z,G a.Hi.X,G a.Hi.Y,G a.Hi.Z]]) J<|qb J<|qb J<|qb J<|qa<|qh<|Qd [q8,q8,q8,q8,qr 0,q8,q8,qr 0,q8,q8,q8,qr 0,q8,q8,qr 0,q8,q8,q8,qr 0,q8,q8,qr 0,q8,q8] qj<|O (.ref 0 6 0 3) J<|O (.ref 0 6 0 3) J<|O (q6 a.Hi.X) J<|O (.ref 0 6 0 0) J<|O (.ref 0 6 0 0) J<|O (q6 a.Lo.X) J<|O (.d (G (w64 (a.Hi.X - a.Lo.X)))) J<|O (.ref 0 6 0 3) J<|O (.ref 0 6 0 4) J<|O (q6 a.Hi.Y) J<|O (.ref 0 6 0 0) J<|O (.ref 0 6 0 1) J<|O (q6 a.Lo.Y) J<|O (.d (G (w64 (a.Hi.Y - a.Lo.Y)))) J<|O (.ref 0 6 0 3) J<|O (.ref 0 6 0 5) J<|O (q6 a.Hi.Z) J<|O (.ref 0 6 0 0) J<|O (.ref 0 6 0 2) J<|O (q6 a.Lo.Z) J<|O (.d (G (w64 (a.Hi.Z - a.Lo.Z)))) J<|qb J<|qb J<|qb J<|qv ?_
 obtain rfl:=qe b
 exact Q4 (.d (.tup [G (w64 (a.Hi.X - a.Lo.X)),G (w64 (a.Hi.Y - a.Lo.Y)),G (w64 (a.Hi.Z - a.Lo.Z))])) J
theorem qlt (g : List qk) (r : Int × Int) (c : q6m g = some r) : Pure Tryz.prog tab 40 [.sl 6 (g.map Q6)] (.tup [G r.1,G r.2]):=by
 unfold q6m at c
 refine Qi Tryz.func40 J qj qj J<|qc<|qb J<|qb J<|qa<|qh<|qc<|q0 J ?_
 obtain ⟨k,m,c⟩:=q9 c
 refine Q5 (q9b g k m) J<|qb J<|qs<|q0 J<|O (qg (k != 0)) J<|qa ?_
 refine qp J c (fun _ c=>?_) (fun _ c=>?_)
 ·refine qc<|q0 J<|qb J<|qb J<|qv ?_
  obtain rfl:=qe c
  exact Q4 (.d (.tup [G 0,G k])) J
 refine qo<|qc<|qb J<|qa<|qh<|qc<|q0 J<|Qy J<|q0 J<|qa ?_
 obtain ⟨l,n,c⟩:=q9 c
 refine Qm (fun j=>j = l) (fun (j : Int)=>⟨[(5,q6 j)],[],0⟩) qf ?_ ?_
 ·refine Qf (q6n g) (fun (h : Int × Int)=>⟨[(5,q6 h.1),(16,.d (.sl 6 (g.map Q6))),(17,q6 (g.length : Int)),(18,q6 h.2)],[],0⟩) (0,0) l n (wkA [] [] []) ?_
  intro h q f
  unfold q6n at f
  refine qc<|O (.d (.bool (decide (h.2 < (g.length : Int))))) J<|qa<|qh ?_
  refine qp J f (fun _ f=>?_) (fun _ f=>?_)
  ·refine qo<|qh<|Q1<|qc ?_
   obtain ⟨a,o,f⟩:=q9 f
   refine Qz (enc:=Q6) o J<|O (.d (.agg [G a.Lo.X,G a.Lo.Y,G a.Lo.Z,G a.Hi.X,G a.Hi.Y,G a.Hi.Z])) J<|Qe J J<|qz 0 (.dat 6 [[G a.Lo.X,G a.Lo.Y,G a.Lo.Z,G a.Hi.X,G a.Hi.Y,G a.Hi.Z]]) J<|qs<|O (.d (.agg [G a.Lo.X,G a.Lo.Y,G a.Lo.Z,G a.Hi.X,G a.Hi.Y,G a.Hi.Z])) J ?_
   obtain ⟨b,p,f⟩:=q9 f
   refine Q5 (qly a b p) J<|q0 J<|O (q6 b.1) J<|O (q6 b.2.1) J<|O (q6 b.2.2) J<|qb J<|qb J<|qb J<|qa<|qy<|q0 J<|q0 J<|q0 J<|O (.d (G (w64 (b.1 * b.2.1)))) J<|q0 J<|O (.d (G (w64 ((w64 (b.1 * b.2.1)) * b.2.2)))) J<|O (.d (G (w64 (h.1 + (w64 ((w64 (b.1 * b.2.1)) * b.2.2)))))) J<|qb J<|qx<|Qj<|qy<|O (.d (G (w64 (h.2 + 1)))) J<|q0 J<|qx ?_
   exact ⟨_,(Option.some.inj f).symm,wkA [] [] []⟩
  refine Qb ?_
  refine ⟨_,(Option.some.inj f).symm,fun hm=>?_⟩
  subst hm
  exact ⟨_,J,wkA [] [] []⟩
 intro j hb
 subst hb
 refine qc<|q0 J<|qb J<|qb J<|qv ?_
 obtain rfl:=qe c
 exact Q4 (.d (.tup [G j,G 0])) J
theorem qw5 (b : List K4) (h : K4→Option Bool) (p1F : FuncId) (p1C : List DV) (p1Ok : ∀ (j : K4) (r : Bool),h j = some r→Pure Tryz.prog tab p1F ([.agg [.sl 4 (j.Region.map qu),G j.Height]] ++ p1C) (.bool r)) (r : Int) (c : qbu b h = some r) : Pure Tryz.prog tab 98 [.sl 2 (b.map Jk),.fn p1F p1C] (G r):=by
 unfold qbu at c
 refine Qi Tryz.func98 J qj qj J<|qc<|qb J<|qa<|qh<|qc<|q0 J<|Qy J<|q0 J<|qa ?_
 obtain ⟨l,m,c⟩:=q9 c
 refine Qm (fun k=>.inl k = l) (fun (k : Unit)=>⟨[],[],0⟩) qf ?_ ?_
 ·refine Qf (q3q b h) (fun (f : Int)=>⟨[(0,.d (.sl 2 (b.map Jk))),(1,.d (.fn p1F p1C)),(7,q6 (b.length : Int)),(8,q6 f)],[],0⟩) 0 l m (wkA [] [] []) ?_
  intro f q a
  unfold q3q at a
  refine qc<|O (.d (.bool (decide (f < (b.length : Int))))) J<|qa<|qh ?_
  refine qp J a (fun _ a=>?_) (fun _ a=>?_)
  ·refine qo<|qh<|Q1<|qc<|q0 J<|qb J<|qs<|q0 J<|q0 J<|q0 J ?_
   obtain ⟨g,n,a⟩:=q9 a
   refine Qz (enc:=Jk) n J<|O (.d (.agg [.sl 4 (g.Region.map qu),G g.Height])) J ?_
   obtain ⟨o,p,a⟩:=q9 a
   refine Yf [.d (.agg [.sl 4 (g.Region.map qu),G g.Height])] (p1Ok g o p) J J J (.inl J)<|qa ?_
   refine qp J a (fun _ a=>?_) (fun _ a=>?_)
   ·refine qc<|q0 J<|qb J<|qv ?_
    refine ⟨_,(Option.some.inj a).symm,fun hm=>?_⟩
    subst hm
    obtain rfl:=qe c
    exact Q4 (q6 f) J
   refine qo<|Qc<|Qj<|qy<|O (.d (G (w64 (f + 1)))) J<|q0 J<|qx ?_
   exact ⟨_,(Option.some.inj a).symm,wkA [] [] []⟩
  refine Qb ?_
  refine ⟨_,(Option.some.inj a).symm,fun hm=>?_⟩
  subst hm
  exact ⟨_,J,wkA [] [] []⟩
 intro k hb
 subst hb
 refine qc<|qb J<|qv ?_
 obtain rfl:=qe c
 exact Q4 (q6 (-1)) J
theorem qvy (b : List K4) (c : K4→Option Bool) (p1F : FuncId) (p1C : List DV) (p1Ok : ∀ (f : K4) (r : Bool),c f = some r→Pure Tryz.prog tab p1F ([.agg [.sl 4 (f.Region.map qu),G f.Height]] ++ p1C) (.bool r)) (r : Bool) (a : q8h b c = some r) : Pure Tryz.prog tab 53 [.sl 2 (b.map Jk),.fn p1F p1C] (.bool r):=by
 unfold q8h at a
 refine Qi Tryz.func53 J qj qj J<|qc<|qb J<|qs<|q0 J<|q0 J ?_
 obtain ⟨g,h,a⟩:=q9 a
 refine Q5 (qw5 b c p1F p1C p1Ok g h) J<|O (.d (.bool (decide (g ≥ 0)))) J<|qb J<|qv ?_
 obtain rfl:=qe a
 exact Q4 (.d (.bool (decide (g ≥ 0)))) J
theorem qtj (a : K4) (r : Bool) (c : q1f a = some r) : Pure Tryz.prog tab 54 [.agg [.sl 4 (a.Region.map qu),G a.Height]] (.bool r):=by
 unfold q1f at c
 refine Qi Tryz.func54 J qj qj J<|qc<|Ql (.ref 0 2 0 0) (.dat 2 [[.sl 4 (a.Region.map qu),G a.Height]]) J<|qb J<|qs<|O (.ref 0 2 0 1) J<|O (q6 a.Height) J<|O (.d (.bool (decide (a.Height < 1)))) J ?_
 obtain ⟨f,b,c⟩:=q9 c
 refine Q9 5 (fun A st=>∃ (g h j k : V),st = A [(10,qg f),(9,k),(8,j),(7,h),(6,g)]) ?_ ?_
 ·refine Q8 J J b (fun b=>?_) (fun b=>?_)
  ·refine qd J<|qd J<|qd J<|O (qg true) J<|qa ?_
   obtain rfl:=qe b
   exact ⟨_,_,_,_,J⟩
  refine O (.ref 0 2 0 1) J<|O (q6 a.Height) J<|O (.d (.bool (decide (a.Height > 1000000)))) J<|O (.d (.bool (decide (a.Height > 1000000)))) J<|qa ?_
  obtain rfl:=qe b
  exact ⟨_,_,_,_,J⟩
 rintro _ ⟨g,h,j,k,rfl⟩
 refine qb J<|qv ?_
 obtain rfl:=qe c
 exact Q4 (qg f) J
end Go.Proofs.YtlchefooafpdlaaGreat
