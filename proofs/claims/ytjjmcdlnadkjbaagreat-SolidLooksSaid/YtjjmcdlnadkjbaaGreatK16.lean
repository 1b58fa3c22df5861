/- W_Allb -/
import Derived.Test.YtjjmcdlnadkjbaaGreatK15
namespace Go.Proofs.YtjjmcdlnadkjbaaGreat
open Go Go.Am Go.Sh
set_option maxHeartbeats 8000000
set_option maxRecDepth 100000
theorem qu6 (q1 : qg→qg→Option Int) (q1F : FuncId) (q1C : List DV) (q1Ok : ∀ (x0 : qg) (x1 : qg) (r : Int),q1 x0 x1 = some r→Pure Tryz.prog tab q1F ([.agg [G x0.at_,G x0.list_,G x0.by_],.agg [G x1.at_,G x1.list_,G x1.by_]] ++ q1C) (G r)) (j : List qg) (b : Int) (s : Int) (k : Int) (r : Int × Bool × List qg) (a : q88 q1 j b s k = some r) : Qo Tryz.prog tab 177 [.hs 0 3 0 j.length,q6 b,q6 s,q6 k,.d (.fn q1F q1C)] [(0,.dat 3 (j.map Q0))] 1 (.d (.tup [G r.1,.bool r.2.1])) [(0,.dat 3 (r.2.2.map Q0))] 1:=by
 unfold q88 at a
 refine Qz Tryz.func177 J (by kernel_rfl) (by kernel_rfl) J<|qa<|q8 J<|q8 J<|q9<|qe<|Q2 [Q7 0,q0,Q7 0,q0,qm 0,q0,q0,q0,qm 0,q0,q0,q0,q0,q0,q0,q0] (by kernel_rfl)<|U J<|U J<|U J<|U J<|U J<|U J ?_
 obtain ⟨f,bd,a⟩:=q7 a
 refine qn bd J J<|qx (.d (.agg [G f.at_,G f.list_,G f.by_])) bd J<|U J<|U J ?_
 obtain ⟨g,be,a⟩:=q7 a
 refine qn be J J<|qx (.d (.agg [G g.at_,G g.list_,G g.by_])) be J ?_
 obtain ⟨gc,bf,a⟩:=q7 a
 refine qn bf J J<|Qi (ds:=[G f.at_,G f.list_,G f.by_]) f bf J J J J J J J J (leb J) J ?_
 obtain ⟨gd,bg,a⟩:=q7 a
 refine qn bg (by simp) J<|Qi (ds:=[G g.at_,G g.list_,G g.by_]) g bg J J J J J J J J (leb J) J<|qp<|U J<|O (.d (G (w64 (b + 1)))) J<|U J<|O (.d (G (w64 (s - 1)))) J<|q8 J<|q8 J<|q9<|qe ?_
 obtain ⟨bh,fo,a⟩:=q7 a
 refine Q9 (fun l=>l = bh) (fun (l : Int)=>⟨[(0,.hs 0 3 0 ((j.set b.toNat f).set k.toNat g).length),(1,q6 b),(4,.d (.fn q1F q1C)),(12,q6 l),(13,.d (G (w64 (s - 1))))],[(0,.dat 3 (((j.set b.toNat f).set k.toNat g).map Q0))],1⟩) (by simp) ?_ ?_
 ·refine Q4 (q89 s j b f k g q1) (fun (av : Int)=>⟨[(0,.hs 0 3 0 ((j.set b.toNat f).set k.toNat g).length),(1,q6 b),(4,.d (.fn q1F q1C)),(12,q6 av),(13,.d (G (w64 (s - 1))))],[(0,.dat 3 (((j.set b.toNat f).set k.toNat g).map Q0))],1⟩) (w64 (b + 1)) bh fo (wkE [] [] [] J ⟨⟨_,J,Ql (by simp) J (by decide) (ltd J)⟩,⟨_,J,.d (.refl _)⟩,⟨_,J,.d (.refl _)⟩,⟨_,J,.d (.refl _)⟩,⟨_,J,.d (.refl _)⟩,trivial⟩ ⟨⟨ltd J,.inr ⟨by decide,_,J,.dat _ _⟩⟩,trivial⟩) ?_
  intro av ge t
  unfold q89 at t
  refine qe<|qe<|Q2 [q0,q0,q0,qm 0,q0,q0,q0,qm 0,q0,q0,q0,q0,q0,q0,q0,q0] (by kernel_rfl)<|U J<|U J<|O (.d (.bool (decide (av≤(w64 (s - 1)))))) J ?_
  obtain ⟨fq,m,t⟩:=q7 t
  refine Q5 13 (fun A st=>∃ (bi bj bk bl bm bn bo bp bq br bs bt : V),st = A [(47,qf fq),(46,bt),(45,bs),(44,br),(43,bq),(42,bp),(41,bo),(40,bn),(39,bm),(38,bl),(37,bk),(36,bj),(35,bi)]) ?_ ?_
  ·refine Q6 J J m (fun m=>?_) (fun m=>?_)
   ·refine U J<|U J<|U J ?_
    obtain ⟨ab,bu,m⟩:=q7 m
    refine qn bu J J<|qx (.d (.agg [G ab.at_,G ab.list_,G ab.by_])) bu J<|U J<|U J ?_
    obtain ⟨ac,bv,m⟩:=q7 m
    refine qn bv J J<|qx (.d (.agg [G ac.at_,G ac.list_,G ac.by_])) bv J ?_
    obtain ⟨bb,fr,m⟩:=q7 m
    refine Ye [.d (.agg [G ab.at_,G ab.list_,G ab.by_]),.d (.agg [G ac.at_,G ac.list_,G ac.by_])] (q1Ok ab ac bb fr) J J J (.inl J)<|O (.d (.bool (decide (bb < 0)))) J<|O (.d (.bool (decide (bb < 0)))) J<|q9 ?_
    obtain rfl:=qc m
    exact ⟨_,_,_,_,_,_,_,_,_,_,_,_,J⟩
   refine qb J<|qb J<|qb J<|qb J<|qb J<|qb J<|qb J<|qb J<|qb J<|qb J<|qb J<|O (qf false) J<|q9 ?_
   obtain rfl:=qc m
   exact ⟨_,_,_,_,_,_,_,_,_,_,_,_,J⟩
  rintro _ ⟨bi,bj,bk,bl,bm,bn,bo,bp,bq,br,bs,bt,rfl⟩
  refine q9 ?_
  refine qj J t (fun _ t=>?_) (fun _ t=>?_)
  ·refine qk<|qw<|qt<|U J<|O (.d (G (w64 (av + 1)))) J<|q8 J<|qq<|Qa<|Q8 ?_
   exact ⟨_,(Option.some.inj t).symm,wkA [] [] []⟩
  refine Q1 ?_
  refine ⟨_,(Option.some.inj t).symm,fun hm=>?_⟩
  subst hm
  exact ⟨_,J,wkA [] [] []⟩
 intro l hb
 subst hb
 refine qe ?_
 obtain ⟨bw,fs,a⟩:=q7 a
 refine Q9 (fun u=>u = bw) (fun (u : Int)=>⟨[(0,.hs 0 3 0 ((j.set b.toNat f).set k.toNat g).length),(1,q6 b),(4,.d (.fn q1F q1C)),(12,q6 l),(13,q6 u)],[(0,.dat 3 (((j.set b.toNat f).set k.toNat g).map Q0))],1⟩) (by simp) ?_ ?_
 ·refine Q4 (q8a l j b f k g q1) (fun (aw : Int)=>⟨[(0,.hs 0 3 0 ((j.set b.toNat f).set k.toNat g).length),(1,q6 b),(4,.d (.fn q1F q1C)),(12,q6 l),(13,q6 aw)],[(0,.dat 3 (((j.set b.toNat f).set k.toNat g).map Q0))],1⟩) (w64 (s - 1)) bw fs (wkA [] [] []) ?_
  intro aw gf v
  unfold q8a at v
  refine qe<|qe<|Q2 [q0,q0,q0,q0,qm 0,q0,q0,q0,qm 0,q0,q0,q0,q0,q0,q0,q0,q0] (by kernel_rfl)<|U J<|U J<|O (.d (.bool (decide (l≤aw)))) J ?_
  obtain ⟨ft,n,v⟩:=q7 v
  refine Q5 14 (fun A st=>∃ (bx bz ca cb cc cd ce cf cg ch ci cj ck : V),st = A [(66,qf ft),(65,ck),(64,cj),(63,ci),(62,ch),(61,cg),(60,cf),(59,ce),(58,cd),(57,cc),(56,cb),(55,ca),(54,bz),(53,bx)]) ?_ ?_
  ·refine Q6 J J n (fun n=>?_) (fun n=>?_)
   ·refine U J<|U J<|U J ?_
    obtain ⟨ad,cl,n⟩:=q7 n
    refine qn cl J J<|qx (.d (.agg [G ad.at_,G ad.list_,G ad.by_])) cl J<|U J<|U J ?_
    obtain ⟨ae,cm,n⟩:=q7 n
    refine qn cm J J<|qx (.d (.agg [G ae.at_,G ae.list_,G ae.by_])) cm J ?_
    obtain ⟨ax,fu,n⟩:=q7 n
    refine Ye [.d (.agg [G ad.at_,G ad.list_,G ad.by_]),.d (.agg [G ae.at_,G ae.list_,G ae.by_])] (q1Ok ad ae ax fu) J J J (.inl J)<|O (.d (.bool (decide (ax < 0)))) J<|O (.d (.bool (!(decide (ax < 0))))) J<|O (.d (.bool (!(decide (ax < 0))))) J<|q9 ?_
    obtain rfl:=qc n
    exact ⟨_,_,_,_,_,_,_,_,_,_,_,_,_,J⟩
   refine qb J<|qb J<|qb J<|qb J<|qb J<|qb J<|qb J<|qb J<|qb J<|qb J<|qb J<|qb J<|O (qf false) J<|q9 ?_
   obtain rfl:=qc n
   exact ⟨_,_,_,_,_,_,_,_,_,_,_,_,_,J⟩
  rintro _ ⟨bx,bz,ca,cb,cc,cd,ce,cf,cg,ch,ci,cj,ck,rfl⟩
  refine q9 ?_
  refine qj J v (fun _ v=>?_) (fun _ v=>?_)
  ·refine qk<|qw<|qt<|U J<|O (.d (G (w64 (aw - 1)))) J<|q8 J<|qq<|Qa<|Q8 ?_
   exact ⟨_,(Option.some.inj v).symm,wkA [] [] []⟩
  refine Q1 ?_
  refine ⟨_,(Option.some.inj v).symm,fun hm=>?_⟩
  subst hm
  exact ⟨_,J,wkA [] [] []⟩
 intro u hb
 subst hb
 refine qe<|qa<|U J<|U J<|O (.d (.bool (decide (l > u)))) J<|q9 ?_
 refine qj J a (fun _ a=>?_) (fun _ a=>?_)
 ·refine qe<|Q2 [Q7 0,q0,Q7 0,q0,qm 0,q0,q0,q0,qm 0,q0,q0,q0,q0,q0,q0,q0] (by kernel_rfl)<|U J<|U J<|U J<|U J<|U J<|U J ?_
  obtain ⟨af,cn,a⟩:=q7 a
  refine qn cn J J<|qx (.d (.agg [G af.at_,G af.list_,G af.by_])) cn J<|U J<|U J ?_
  obtain ⟨ag,co,a⟩:=q7 a
  refine qn co J J<|qx (.d (.agg [G ag.at_,G ag.list_,G ag.by_])) co J ?_
  obtain ⟨gg,cp,a⟩:=q7 a
  refine qn cp J J<|Qi (ds:=[G af.at_,G af.list_,G af.by_]) af cp J J J J J J J J (leb J) J ?_
  obtain ⟨gh,cq,a⟩:=q7 a
  refine qn cq (by simp) J<|Qi (ds:=[G ag.at_,G ag.list_,G ag.by_]) ag cq J J J J J J J J (leb J) J<|qp<|U J<|q8 J<|q8 J<|qo ?_
  obtain rfl:=qc a
  exact ⟨.inr J,_,J,wkA [] [] []⟩
 refine qk<|qe<|Q2 [Q7 0,q0,Q7 0,q0,qm 0,q0,q0,q0,qm 0,q0,q0,q0,q0,q0,q0,q0] (by kernel_rfl)<|U J<|U J<|U J<|U J<|U J<|U J ?_
 obtain ⟨w,cr,a⟩:=q7 a
 refine qn cr J J<|qx (.d (.agg [G w.at_,G w.list_,G w.by_])) cr J<|U J<|U J ?_
 obtain ⟨x,cs,a⟩:=q7 a
 refine qn cs J J<|qx (.d (.agg [G x.at_,G x.list_,G x.by_])) cs J ?_
 obtain ⟨gi,ct,a⟩:=q7 a
 refine qn ct J J<|Qi (ds:=[G w.at_,G w.list_,G w.by_]) w ct J J J J J J J J (leb J) J ?_
 obtain ⟨gj,cu,a⟩:=q7 a
 refine qn cu (by simp) J<|Qi (ds:=[G x.at_,G x.list_,G x.by_]) x cu J J J J J J J J (leb J) J<|qp<|U J<|O (.d (G (w64 (l + 1)))) J<|q8 J<|qp<|U J<|O (.d (G (w64 (u - 1)))) J<|q8 J<|q9<|qe ?_
 obtain ⟨cv,fv,a⟩:=q7 a
 refine Q9 (fun ap=>ap = cv) (fun (ap : Int × List qg)=>⟨[(0,.hs 0 3 0 ap.2.length),(1,q6 b),(13,q6 ap.1)],[(0,.dat 3 (ap.2.map Q0))],1⟩) (by simp) ?_ ?_
 ·refine Q4 (q8b b q1) (fun (c : Int × Int × List qg)=>⟨[(0,.hs 0 3 0 c.2.2.length),(1,q6 b),(4,.d (.fn q1F q1C)),(12,q6 c.1),(13,q6 c.2.1)],[(0,.dat 3 (c.2.2.map Q0))],1⟩) (w64 (l + 1),w64 (u - 1),(((j.set b.toNat f).set k.toNat g).set l.toNat w).set u.toNat x) cv fv (wkE [] [] [] J ⟨⟨_,J,Ql (by simp) J (by decide) (ltd J)⟩,⟨_,J,.d (.refl _)⟩,⟨_,J,.d (.refl _)⟩,⟨_,J,.d (.refl _)⟩,⟨_,J,.d (.refl _)⟩,trivial⟩ ⟨⟨ltd J,.inr ⟨by decide,_,J,.dat _ _⟩⟩,trivial⟩) ?_
  intro c gk h
  unfold q8b at h
  refine qw<|qe ?_
  obtain ⟨cw,fw,h⟩:=q7 h
  refine Q9 (fun q=>q = cw) (fun (q : Int)=>⟨[(0,.hs 0 3 0 c.2.2.length),(1,q6 b),(4,.d (.fn q1F q1C)),(12,q6 q),(13,q6 c.2.1)],[(0,.dat 3 (c.2.2.map Q0))],1⟩) (by simp) ?_ ?_
  ·refine Q4 (q8c c b q1) (fun (ay : Int)=>⟨[(0,.hs 0 3 0 c.2.2.length),(1,q6 b),(4,.d (.fn q1F q1C)),(12,q6 ay),(13,q6 c.2.1)],[(0,.dat 3 (c.2.2.map Q0))],1⟩) c.1 cw fw (wkA [] [] []) ?_
   intro ay gl y
   unfold q8c at y
   refine qe<|qe<|Q2 [q0,q0,q0,qm 0,q0,q0,q0,qm 0,q0,q0,q0,q0,q0,q0,q0,q0] (by kernel_rfl)<|U J<|U J<|O (.d (.bool (decide (ay≤c.2.1)))) J ?_
   obtain ⟨fx,o,y⟩:=q7 y
   refine Q5 13 (fun A st=>∃ (cx cy cz da dc dd de df dg dh dj dk : V),st = A [(120,qf fx),(119,dk),(118,dj),(117,dh),(116,dg),(115,df),(114,de),(113,dd),(112,dc),(111,da),(110,cz),(109,cy),(108,cx)]) ?_ ?_
   ·refine Q6 J J o (fun o=>?_) (fun o=>?_)
    ·refine U J<|U J<|U J ?_
     obtain ⟨ah,dl,o⟩:=q7 o
     refine qn dl J J<|qx (.d (.agg [G ah.at_,G ah.list_,G ah.by_])) dl J<|U J<|U J ?_
     obtain ⟨ai,dm,o⟩:=q7 o
     refine qn dm J J<|qx (.d (.agg [G ai.at_,G ai.list_,G ai.by_])) dm J ?_
     obtain ⟨bc,fy,o⟩:=q7 o
     refine Ye [.d (.agg [G ah.at_,G ah.list_,G ah.by_]),.d (.agg [G ai.at_,G ai.list_,G ai.by_])] (q1Ok ah ai bc fy) J J J (.inl J)<|O (.d (.bool (decide (bc < 0)))) J<|O (.d (.bool (decide (bc < 0)))) J<|q9 ?_
     obtain rfl:=qc o
     exact ⟨_,_,_,_,_,_,_,_,_,_,_,_,J⟩
    refine qb J<|qb J<|qb J<|qb J<|qb J<|qb J<|qb J<|qb J<|qb J<|qb J<|qb J<|O (qf false) J<|q9 ?_
    obtain rfl:=qc o
    exact ⟨_,_,_,_,_,_,_,_,_,_,_,_,J⟩
   rintro _ ⟨cx,cy,cz,da,dc,dd,de,df,dg,dh,dj,dk,rfl⟩
   refine q9 ?_
   refine qj J y (fun _ y=>?_) (fun _ y=>?_)
   ·refine qk<|qw<|qt<|U J<|O (.d (G (w64 (ay + 1)))) J<|q8 J<|qq<|Qa<|Q8 ?_
    exact ⟨_,(Option.some.inj y).symm,wkA [] [] []⟩
   refine Q1 ?_
   refine ⟨_,(Option.some.inj y).symm,fun hm=>?_⟩
   subst hm
   exact ⟨_,J,wkA [] [] []⟩
  intro q hb
  subst hb
  refine qe ?_
  obtain ⟨dn,fz,h⟩:=q7 h
  refine Q9 (fun aq=>aq = dn) (fun (aq : Int)=>⟨[(0,.hs 0 3 0 c.2.2.length),(1,q6 b),(4,.d (.fn q1F q1C)),(12,q6 q),(13,q6 aq)],[(0,.dat 3 (c.2.2.map Q0))],1⟩) (by simp) ?_ ?_
  ·refine Q4 (q8d q c b q1) (fun (az : Int)=>⟨[(0,.hs 0 3 0 c.2.2.length),(1,q6 b),(4,.d (.fn q1F q1C)),(12,q6 q),(13,q6 az)],[(0,.dat 3 (c.2.2.map Q0))],1⟩) c.2.1 dn fz (wkA [] [] []) ?_
   intro az gm z
   unfold q8d at z
   refine qe<|qe<|Q2 [q0,q0,q0,q0,qm 0,q0,q0,q0,qm 0,q0,q0,q0,q0,q0,q0,q0,q0] (by kernel_rfl)<|U J<|U J<|O (.d (.bool (decide (q≤az)))) J ?_
   obtain ⟨ga,p,z⟩:=q7 z
   refine Q5 14 (fun A st=>∃ (dp dq dr dt du dv dw dx dy dz fa fb fc : V),st = A [(139,qf ga),(138,fc),(137,fb),(136,fa),(135,dz),(134,dy),(133,dx),(132,dw),(131,dv),(130,du),(129,dt),(128,dr),(127,dq),(126,dp)]) ?_ ?_
   ·refine Q6 J J p (fun p=>?_) (fun p=>?_)
    ·refine U J<|U J<|U J ?_
     obtain ⟨aj,fd,p⟩:=q7 p
     refine qn fd J J<|qx (.d (.agg [G aj.at_,G aj.list_,G aj.by_])) fd J<|U J<|U J ?_
     obtain ⟨ak,fe,p⟩:=q7 p
     refine qn fe J J<|qx (.d (.agg [G ak.at_,G ak.list_,G ak.by_])) fe J ?_
     obtain ⟨ba,gb,p⟩:=q7 p
     refine Ye [.d (.agg [G aj.at_,G aj.list_,G aj.by_]),.d (.agg [G ak.at_,G ak.list_,G ak.by_])] (q1Ok aj ak ba gb) J J J (.inl J)<|O (.d (.bool (decide (ba < 0)))) J<|O (.d (.bool (!(decide (ba < 0))))) J<|O (.d (.bool (!(decide (ba < 0))))) J<|q9 ?_
     obtain rfl:=qc p
     exact ⟨_,_,_,_,_,_,_,_,_,_,_,_,_,J⟩
    refine qb J<|qb J<|qb J<|qb J<|qb J<|qb J<|qb J<|qb J<|qb J<|qb J<|qb J<|qb J<|O (qf false) J<|q9 ?_
    obtain rfl:=qc p
    exact ⟨_,_,_,_,_,_,_,_,_,_,_,_,_,J⟩
   rintro _ ⟨dp,dq,dr,dt,du,dv,dw,dx,dy,dz,fa,fb,fc,rfl⟩
   refine q9 ?_
   refine qj J z (fun _ z=>?_) (fun _ z=>?_)
   ·refine qk<|qw<|qt<|U J<|O (.d (G (w64 (az - 1)))) J<|q8 J<|qq<|Qa<|Q8 ?_
    exact ⟨_,(Option.some.inj z).symm,wkA [] [] []⟩
   refine Q1 ?_
   refine ⟨_,(Option.some.inj z).symm,fun hm=>?_⟩
   subst hm
   exact ⟨_,J,wkA [] [] []⟩
  intro aq hb
  subst hb
  refine qe<|qa<|U J<|U J<|O (.d (.bool (decide (q > aq)))) J<|q9 ?_
  refine qj J h (fun _ h=>?_) (fun _ h=>?_)
  ·refine Q1 ?_
   refine ⟨_,(Option.some.inj h).symm,fun hm=>?_⟩
   subst hm
   exact ⟨_,J,wkA [] [] []⟩
  refine qk<|qe<|Q2 [Q7 0,q0,Q7 0,q0,qm 0,q0,q0,q0,qm 0,q0,q0,q0,q0,q0,q0,q0] (by kernel_rfl)<|U J<|U J<|U J<|U J<|U J<|U J ?_
  obtain ⟨al,ff,h⟩:=q7 h
  refine qn ff J J<|qx (.d (.agg [G al.at_,G al.list_,G al.by_])) ff J<|U J<|U J ?_
  obtain ⟨am,fg,h⟩:=q7 h
  refine qn fg J J<|qx (.d (.agg [G am.at_,G am.list_,G am.by_])) fg J ?_
  obtain ⟨gn,fh,h⟩:=q7 h
  refine qn fh J J<|Qi (ds:=[G al.at_,G al.list_,G al.by_]) al fh J J J J J J J J (leb J) J ?_
  obtain ⟨go,fi,h⟩:=q7 h
  refine qn fi (by simp) J<|Qi (ds:=[G am.at_,G am.list_,G am.by_]) am fi J J J J J J J J (leb J) J<|qp<|U J<|O (.d (G (w64 (q + 1)))) J<|q8 J<|q9<|qt<|U J<|O (.d (G (w64 (aq - 1)))) J<|q8 J<|qq<|Qa<|Q8 ?_
  exact ⟨_,(Option.some.inj h).symm,wkE [] [] [] J ⟨⟨_,J,Ql (by simp) J (by decide) (ltd J)⟩,⟨_,J,.d (.refl _)⟩,⟨_,J,.d (.refl _)⟩,⟨_,J,.d (.refl _)⟩,⟨_,J,.d (.refl _)⟩,trivial⟩ ⟨⟨ltd J,.inr ⟨by decide,_,J,.dat _ _⟩⟩,trivial⟩⟩
 intro ap hb
 subst hb
 refine qe<|Q2 [Q7 0,q0,Q7 0,q0,qm 0,q0,q0,q0,qm 0,q0,q0,q0,q0,q0,q0,q0] (by kernel_rfl)<|U J<|U J<|U J<|U J<|U J<|U J ?_
 obtain ⟨an,fj,a⟩:=q7 a
 refine qn fj J J<|qx (.d (.agg [G an.at_,G an.list_,G an.by_])) fj J<|U J<|U J ?_
 obtain ⟨ao,fk,a⟩:=q7 a
 refine qn fk J J<|qx (.d (.agg [G ao.at_,G ao.list_,G ao.by_])) fk J ?_
 obtain ⟨gp,fl,a⟩:=q7 a
 refine qn fl J J<|Qi (ds:=[G an.at_,G an.list_,G an.by_]) an fl J J J J J J J J (leb J) J ?_
 obtain ⟨gq,fm,a⟩:=q7 a
 refine qn fm (by simp) J<|Qi (ds:=[G ao.at_,G ao.list_,G ao.by_]) ao fm J J J J J J J J (leb J) J<|qp<|U J<|q8 J<|q8 J<|qo ?_
 obtain rfl:=qc a
 exact ⟨.inr J,_,J,wkA [] [] []⟩
theorem qtw (s : qg→qg→Option Int) (q1F : FuncId) (q1C : List DV) (_q1Ok : ∀ (o : qg) (p : qg) (r : Int),s o p = some r→Pure Tryz.prog tab q1F ([.agg [G o.at_,G o.list_,G o.by_],.agg [G p.at_,G p.list_,G p.by_]] ++ q1C) (G r)) (q : List qg) (a : Int) (b : Int) (r : List qg) (g : q7v s q a b = some r) : Qo Tryz.prog tab 172 [.hs 0 3 0 q.length,q6 a,q6 b,.d (.fn q1F q1C)] [(0,.dat 3 (q.map Q0))] 1 (.d (.tup [])) [(0,.dat 3 (r.map Q0))] 1:=by
 unfold q7v at g
 refine Qz Tryz.func172 J (by kernel_rfl) (by kernel_rfl) J<|qa<|U J<|U J<|O (.d (G (w64 (b - a)))) J<|q8 J<|qp<|U J<|O (.d (.bool (decide ((w64 (b - a)) ≥ 8)))) J<|q9 ?_
 refine qj J g (fun _ g=>?_) (fun _ g=>?_)
 ·refine qa<|U J<|O (.d (.int .u64 (IntKind.wrap .u64 (w64 (b - a))))) J<|Qk J J<|qz 1 (.dat 1 [[.int .u64 (IntKind.wrap .u64 (w64 (b - a)))]]) J<|qp<|U J ?_
  obtain ⟨h,x,g⟩:=q7 g
  refine qv (qjk (w64 (b - a)) h x) J<|q8 J<|qp<|U J<|U J<|O (.d (G (w64 (Int.tdiv (w64 (b - a)) 4)))) J<|O (.d (G (w64 ((w64 (Int.tdiv (w64 (b - a)) 4)) * 2)))) J<|O (.d (G (w64 (a + (w64 ((w64 (Int.tdiv (w64 (b - a)) 4)) * 2)))))) J<|O (.d (G (w64 ((w64 (a + (w64 ((w64 (Int.tdiv (w64 (b - a)) 4)) * 2)))) - 1)))) J<|q8 J<|q9 ?_
  obtain ⟨y,z,g⟩:=q7 g
  refine qw<|Q4 (q7w a b h) (fun (f : Int × List qg × Int)=>⟨[(0,.hs 0 3 0 f.2.1.length),(1,q6 a),(8,.d (G (w64 (b - a)))),(9,.ref 1 1 0 0),(10,.d (.int .u64 h)),(11,q6 f.1)],[(0,.dat 3 (f.2.1.map Q0)),(1,.dat 1 [[.int .u64 f.2.2]])],2⟩) (w64 ((w64 (a + (w64 ((w64 (Int.tdiv (w64 (b - a)) 4)) * 2)))) - 1),q,IntKind.wrap .u64 (w64 (b - a))) y z (wkA [(1,1)] [] []) ?_
  intro f ac c
  unfold q7w at c
  refine qe<|qa<|U J<|U J<|U J<|O (.d (G (w64 (Int.tdiv (w64 (b - a)) 4)))) J<|O (.d (G (w64 ((w64 (Int.tdiv (w64 (b - a)) 4)) * 2)))) J<|O (.d (G (w64 (a + (w64 ((w64 (Int.tdiv (w64 (b - a)) 4)) * 2)))))) J<|O (.d (G (w64 ((w64 (a + (w64 ((w64 (Int.tdiv (w64 (b - a)) 4)) * 2)))) + 1)))) J<|O (.d (.bool (decide (f.1≤(w64 ((w64 (a + (w64 ((w64 (Int.tdiv (w64 (b - a)) 4)) * 2)))) + 1)))))) J<|q9 ?_
  refine qj J c (fun _ c=>?_) (fun _ c=>?_)
  ·refine qk<|qe<|qw<|qa ?_
   obtain ⟨j,aa,c⟩:=q7 c
   refine Qr [(0,1)] [(0,1),(1,0)] [.ref 1 1 0 0] (.d (.int .u64 j)) 1 [(1,.dat 1 [[.int .u64 j]]),(0,.dat 3 (f.2.1.map Q0))] 2 (qjn f.2.2 j aa)<|U J<|O (.d (.int .u64 (IntKind.wrap .u64 (h - 1)))) J<|O (.d (.int .u64 (andI .u64 j (IntKind.wrap .u64 (h - 1))))) J<|O (.d (G (w64 (andI .u64 j (IntKind.wrap .u64 (h - 1)))))) J<|q8 J<|q9<|qe<|qa<|U J<|U J<|O (.d (.bool (decide ((w64 (andI .u64 j (IntKind.wrap .u64 (h - 1)))) ≥ (w64 (b - a)))))) J<|q9 ?_
   obtain ⟨ab,n,c⟩:=q7 c
   refine Kv (fun m=>m = ab) (fun (m : Int)=>⟨[(0,.hs 0 3 0 f.2.1.length),(1,q6 a),(8,.d (G (w64 (b - a)))),(9,.ref 1 1 0 0),(10,.d (.int .u64 h)),(11,q6 f.1),(12,q6 m)],[(0,.dat 3 (f.2.1.map Q0)),(1,.dat 1 [[.int .u64 j]])],2⟩) (by simp) ?_ ?_
   ·refine qj J n (fun _ n=>?_) (fun _ n=>?_)
    ·refine qt<|U J<|U J<|O (.d (G (w64 ((w64 (andI .u64 j (IntKind.wrap .u64 (h - 1)))) - (w64 (b - a)))))) J<|q8 J<|qq ?_
     obtain rfl:=qc n
     exact ⟨_,J,wkA [(1,1)] [] []⟩
    refine qk<|Q8 ?_
    obtain rfl:=qc n
    exact ⟨_,J,wkA [(1,1)] [] []⟩
   intro m hb
   subst hb
   refine Q2 [Q7 0,q0,Q7 0,q0,qm 0,q0,q0,q0,qm 0,q0,q0,q0,q0,q0,q0,q0,q0,q0,q0,q0] (by kernel_rfl)<|U J<|U J<|U J<|U J<|U J<|O (.d (G (w64 (a + m)))) J<|U J<|U J<|U J<|O (.d (G (w64 (a + m)))) J ?_
   obtain ⟨k,t,c⟩:=q7 c
   refine qn t J J<|qx (.d (.agg [G k.at_,G k.list_,G k.by_])) t J<|U J<|U J ?_
   obtain ⟨l,u,c⟩:=q7 c
   refine qn u J J<|qx (.d (.agg [G l.at_,G l.list_,G l.by_])) u J ?_
   obtain ⟨ad,v,c⟩:=q7 c
   refine qn v J J<|Qi (ds:=[G k.at_,G k.list_,G k.by_]) k v J J J J J J J J (leb J) J ?_
   obtain ⟨ae,w,c⟩:=q7 c
   refine qn w (by simp) J<|Qi (ds:=[G l.at_,G l.list_,G l.by_]) l w J J J J J J J J (leb J) J<|qq<|Qa<|qt<|U J<|O (.d (G (w64 (f.1 + 1)))) J<|q8 J<|qq ?_
   exact ⟨_,(Option.some.inj c).symm,wkE [(1,1)] [] [] J ⟨⟨_,J,Ql (by simp) J (by decide) (ltd J)⟩,⟨_,J,.d (.refl _)⟩,⟨_,J,.d (.refl _)⟩,⟨_,J,.ref J (by decide) (ltd J)⟩,⟨_,J,.d (.refl _)⟩,⟨_,J,.d (.refl _)⟩,trivial⟩ ⟨⟨ltd J,.inr ⟨by decide,_,J,.dat _ _⟩⟩,⟨ltd J,.inr ⟨by decide,_,J,.dat _ _⟩⟩,trivial⟩⟩
  refine Q1 ?_
  refine ⟨_,(Option.some.inj c).symm,fun hm=>?_⟩
  subst hm
  obtain rfl:=qc g
  exact ⟨.inl J,_,J,wkA [] [] []⟩
 refine qk<|Q8 ?_
 obtain rfl:=qc g
 exact ⟨.inl J,_,J,wkA [] [] []⟩
theorem qua (rec : List qg→Int→Int→Int→Option (List qg)) (j : qg→qg→Option Int) (q1F : FuncId) (q1C : List DV) (q1Ok : ∀ (z : qg) (x1 : qg) (r : Int),j z x1 = some r→Pure Tryz.prog tab q1F ([.agg [G z.at_,G z.list_,G z.by_],.agg [G x1.at_,G x1.list_,G x1.by_]] ++ q1C) (G r)) (hrec : ∀ (o : List qg) (s : Int) (t : Int) (u : Int) (r : List qg),rec o s t u = some r→Qo Tryz.prog tab 168 [.hs 0 3 0 o.length,q6 s,q6 t,q6 u,.d (.fn q1F q1C)] [(0,.dat 3 (o.map Q0))] 1 (.d (.tup [])) [(0,.dat 3 (r.map Q0))] 1) (o : List qg) (s : Int) (t : Int) (u : Int) (r : List qg) (v : q5w rec j o s t u = some r) : Qo Tryz.prog tab 168 [.hs 0 3 0 o.length,q6 s,q6 t,q6 u,.d (.fn q1F q1C)] [(0,.dat 3 (o.map Q0))] 1 (.d (.tup [])) [(0,.dat 3 (r.map Q0))] 1:=by
 unfold q5w at v
 refine Qz Tryz.func168 J (by kernel_rfl) (by kernel_rfl) J<|qa<|q8 J<|qp<|q8 J<|q9 ?_
 obtain ⟨bi,bj,v⟩:=q7 v
 refine qw<|Q4 (q5v j rec) (fun (a : Int × Int × Int × Bool × Bool × List qg)=>⟨[(0,.hs 0 3 0 a.2.2.2.2.2.length),(1,q6 a.1),(2,q6 a.2.1),(3,q6 a.2.2.1),(4,.d (.fn q1F q1C)),(10,qf a.2.2.2.1),(11,qf a.2.2.2.2.1)],[(0,.dat 3 (a.2.2.2.2.2.map Q0))],1⟩) (s,t,u,true,true,o) bi bj (wkA [] [] []) ?_
 intro a cr b
 unfold q5v at b
 refine qw<|qa<|U J<|U J<|O (.d (G (w64 (a.2.1 - a.1)))) J<|q8 J<|q9<|qe<|qa<|U J<|O (.d (.bool (decide ((w64 (a.2.1 - a.1))≤12)))) J<|q9 ?_
 refine qj J b (fun _ b=>?_) (fun _ b=>?_)
 ·refine qa<|U J<|U J<|U J<|U J ?_
  obtain ⟨ah,bk,b⟩:=q7 b
  obtain ⟨cs,bl,b⟩:=q7 b
  have ct:=K3 bl
  refine Qr [(0,0)] [(0,0)] [.hs 0 3 0 a.2.2.2.2.2.length,q6 a.1,q6 a.2.1,.d (.fn q1F q1C)] (.d (.tup [])) 1 [(0,.dat 3 (ah.map Q0))] 1 (qu2 j q1F q1C q1Ok a.2.2.2.2.2 a.1 a.2.1 ah bk)<|qo ?_
  refine ⟨_,(Option.some.inj b).symm,fun hm=>?_⟩
  subst hm
  obtain rfl:=qc v
  exact ⟨.inr J,_,J,wkA [] [] []⟩
 refine qk<|qe<|qa<|U J<|O (qf (a.2.2.1 == 0)) J<|q9 ?_
 refine qj J b (fun _ b=>?_) (fun _ b=>?_)
 ·refine qa<|U J<|U J<|U J<|U J ?_
  obtain ⟨ai,bm,b⟩:=q7 b
  obtain ⟨cu,bn,b⟩:=q7 b
  have cv:=K3 bn
  refine Qr [(0,0)] [(0,0)] [.hs 0 3 0 a.2.2.2.2.2.length,q6 a.1,q6 a.2.1,.d (.fn q1F q1C)] (.d (.tup [])) 1 [(0,.dat 3 (ai.map Q0))] 1 (qu0 j q1F q1C q1Ok a.2.2.2.2.2 a.1 a.2.1 ai bm)<|qo ?_
  refine ⟨_,(Option.some.inj b).symm,fun hm=>?_⟩
  subst hm
  obtain rfl:=qc v
  exact ⟨.inr J,_,J,wkA [] [] []⟩
 refine qk<|qe<|qa<|U J<|O (qf (!a.2.2.2.1)) J<|q9 ?_
 obtain ⟨bo,m,b⟩:=q7 b
 refine Kv (fun f=>f = bo) (fun (f : Int × List qg)=>⟨[(0,.hs 0 3 0 f.2.length),(1,q6 a.1),(2,q6 a.2.1),(3,q6 f.1),(4,.d (.fn q1F q1C)),(10,qf a.2.2.2.1),(11,qf a.2.2.2.2.1),(12,.d (G (w64 (a.2.1 - a.1))))],[(0,.dat 3 (f.2.map Q0))],1⟩) (by simp) ?_ ?_
 ·refine qj J m (fun _ m=>?_) (fun _ m=>?_)
  ·refine qa<|U J<|U J<|U J<|U J ?_
   obtain ⟨aj,bp,m⟩:=q7 m
   obtain ⟨cw,bq,m⟩:=q7 m
   have br:=K3 bq
   refine Qr [(0,0)] [(0,0)] [.hs 0 3 0 a.2.2.2.2.2.length,q6 a.1,q6 a.2.1,.d (.fn q1F q1C)] (.d (.tup [])) 1 [(0,.dat 3 (aj.map Q0))] 1 (qtw j q1F q1C q1Ok a.2.2.2.2.2 a.1 a.2.1 aj bp)<|q9<|qt<|U J<|O (.d (G (w64 (a.2.2.1 - 1)))) J<|q8 J<|qq ?_
   obtain rfl:=qc m
   exact ⟨_,J,wkE [] [] [] J ⟨⟨_,J,Ql (by simp [br]) J (by decide) (ltd J)⟩,⟨_,J,.d (.refl _)⟩,⟨_,J,.d (.refl _)⟩,⟨_,J,.d (.refl _)⟩,⟨_,J,.d (.refl _)⟩,⟨_,J,.d (.refl _)⟩,⟨_,J,.d (.refl _)⟩,⟨_,J,.d (.refl _)⟩,trivial⟩ ⟨⟨ltd J,.inr ⟨by decide,_,J,.dat _ _⟩⟩,trivial⟩⟩
  refine qk<|Q8 ?_
  obtain rfl:=qc m
  exact ⟨_,J,wkA [] [] []⟩
 intro f hb
 subst hb
 refine qa<|U J<|U J<|U J<|U J ?_
 obtain ⟨w,bs,b⟩:=q7 b
 refine qd5 [.hs 0 3 0 f.2.length,q6 a.1,q6 a.2.1,.d (.fn q1F q1C)] (qty f.2 a.1 a.2.1 j q1F q1C q1Ok w bs) J J (q27 (Jf J J) (q27 J (q27 J (q27 J J)))) (.inr J)<|U J<|O (q6 w.1) J<|O (q6 w.2) J<|q8 J<|q8 J<|q9<|qe<|qa<|U J<|O (qf (w.2 == 2)) J<|q9 ?_
 obtain ⟨bt,n,b⟩:=q7 b
 refine Kv (fun g=>g = bt) (fun (g : Int × Int × List qg)=>⟨[(0,.hs 0 3 0 g.2.2.length),(1,q6 a.1),(2,q6 a.2.1),(3,q6 f.1),(4,.d (.fn q1F q1C)),(10,qf a.2.2.2.1),(11,qf a.2.2.2.2.1),(12,.d (G (w64 (a.2.1 - a.1)))),(13,q6 g.1),(14,q6 g.2.1)],[(0,.dat 3 (g.2.2.map Q0))],1⟩) (by simp) ?_ ?_
 ·refine qj J n (fun _ n=>?_) (fun _ n=>?_)
  ·refine qa<|U J<|U J<|U J<|U J ?_
   obtain ⟨ak,bu,n⟩:=q7 n
   obtain ⟨cx,bv,n⟩:=q7 n
   have bw:=K3 bv
   refine Qr [(0,0)] [(0,0)] [.hs 0 3 0 f.2.length,q6 a.1,q6 a.2.1,.d (.fn q1F q1C)] (.d (.tup [])) 1 [(0,.dat 3 (ak.map Q0))] 1 (que j q1F q1C q1Ok f.2 a.1 a.2.1 ak bu)<|qp<|U J<|O (.d (G (w64 (a.2.1 - 1)))) J<|U J<|U J<|O (.d (G (w64 (w.1 - a.1)))) J<|O (.d (G (w64 ((w64 (a.2.1 - 1)) - (w64 (w.1 - a.1)))))) J<|q8 J<|q9<|qt<|q8 J<|qq ?_
   obtain rfl:=qc n
   exact ⟨_,J,wkE [] [] [] J ⟨⟨_,J,Ql (by simp [bw]) J (by decide) (ltd J)⟩,⟨_,J,.d (.refl _)⟩,⟨_,J,.d (.refl _)⟩,⟨_,J,.d (.refl _)⟩,⟨_,J,.d (.refl _)⟩,⟨_,J,.d (.refl _)⟩,⟨_,J,.d (.refl _)⟩,⟨_,J,.d (.refl _)⟩,⟨_,J,.d (.refl _)⟩,⟨_,J,.d (.refl _)⟩,trivial⟩ ⟨⟨ltd J,.inr ⟨by decide,_,J,.dat _ _⟩⟩,trivial⟩⟩
  refine qk<|Q8 ?_
  obtain rfl:=qc n
  exact ⟨_,J,wkA [] [] []⟩
 intro g hb
 subst hb
 refine qe<|qa<|U J ?_
 obtain ⟨bx,x,b⟩:=q7 b
 refine Q5 3 (fun A st=>∃ (al am : V),st = A [(71,qf bx),(70,am),(69,al)]) ?_ ?_
 ·refine Q6 J J x (fun x=>?_) (fun x=>?_)
  ·refine U J<|O (qf a.2.2.2.2.1) J<|q9 ?_
   obtain rfl:=qc x
   exact ⟨_,_,J⟩
  refine qb J<|O (qf false) J<|q9 ?_
  obtain rfl:=qc x
  exact ⟨_,_,J⟩
 rintro _ ⟨al,am,rfl⟩
 obtain ⟨bz,y,b⟩:=q7 b
 refine Q5 4 (fun A st=>∃ (an ao ap : V),st = A [(75,qf bz),(74,ap),(73,ao),(72,an)]) ?_ ?_
 ·refine Q6 J J y (fun y=>?_) (fun y=>?_)
  ·refine U J<|O (qf (g.2.1 == 1)) J<|O (qf (g.2.1 == 1)) J<|q9 ?_
   obtain rfl:=qc y
   exact ⟨_,_,_,J⟩
  refine qb J<|qb J<|O (qf false) J<|q9 ?_
  obtain rfl:=qc y
  exact ⟨_,_,_,J⟩
 rintro _ ⟨an,ao,ap,rfl⟩
 refine q9 ?_
 obtain ⟨ca,h,b⟩:=q7 b
 refine Kv (fun k=>.inl k = ca) (fun (k : List qg)=>⟨[(0,.hs 0 3 0 k.length),(1,q6 a.1),(2,q6 a.2.1),(3,q6 f.1),(4,.d (.fn q1F q1C)),(10,qf a.2.2.2.1),(11,qf a.2.2.2.2.1),(12,.d (G (w64 (a.2.1 - a.1)))),(13,q6 g.1)],[(0,.dat 3 (k.map Q0))],1⟩) (by simp) ?_ ?_
 ·refine qj J h (fun _ h=>?_) (fun _ h=>?_)
  ·refine qa<|U J<|U J<|U J<|U J ?_
   obtain ⟨ad,cb,h⟩:=q7 h
   obtain ⟨cy,cc,h⟩:=q7 h
   have cd:=K3 cc
   refine Qr [(0,0)] [(0,0)] [.hs 0 3 0 g.2.2.length,q6 a.1,q6 a.2.1,.d (.fn q1F q1C)] (qf ad.1) 1 [(0,.dat 3 (ad.2.map Q0))] 1 (qu4 j q1F q1C q1Ok g.2.2 a.1 a.2.1 ad cb)<|q9 ?_
   refine qj J h (fun _ h=>?_) (fun _ h=>?_)
   ·refine q36 ?_
    obtain rfl:=qc h
    refine ⟨_,(Option.some.inj b).symm,fun hm=>?_⟩
    subst hm
    obtain rfl:=qc v
    exact ⟨.inr J,_,J,wkA [] [] []⟩
   refine qk<|Q8 ?_
   obtain rfl:=qc h
   exact ⟨_,J,wkE [] [] [] J ⟨⟨_,J,Ql (by simp [cd]) J (by decide) (ltd J)⟩,⟨_,J,.d (.refl _)⟩,⟨_,J,.d (.refl _)⟩,⟨_,J,.d (.refl _)⟩,⟨_,J,.d (.refl _)⟩,⟨_,J,.d (.refl _)⟩,⟨_,J,.d (.refl _)⟩,⟨_,J,.d (.refl _)⟩,⟨_,J,.d (.refl _)⟩,trivial⟩ ⟨⟨ltd J,.inr ⟨by decide,_,J,.dat _ _⟩⟩,trivial⟩⟩
  refine qk<|Q8 ?_
  obtain rfl:=qc h
  exact ⟨_,J,wkA [] [] []⟩
 intro k hb
 subst hb
 refine qe<|qe<|Q2 [q0,q0,q0,q0,qm 0,q0,q0,q0,qm 0,q0,q0,q0,q0,q0,q0,q0,q0] (by kernel_rfl)<|U J<|O (.d (.bool (decide (a.1 > 0)))) J ?_
 obtain ⟨ce,l,b⟩:=q7 b
 refine Q5 15 (fun A st=>∃ (aq ar au av aw ax ay az ba bb bc bd be bf : V),st = A [(97,qf ce),(96,bf),(95,be),(94,bd),(93,bc),(92,bb),(91,ba),(90,az),(89,ay),(88,ax),(87,aw),(86,av),(85,au),(84,ar),(83,aq)]) ?_ ?_
 ·refine Q6 J J l (fun l=>?_) (fun l=>?_)
  ·refine U J<|U J<|U J<|O (.d (G (w64 (a.1 - 1)))) J ?_
   obtain ⟨p,bg,l⟩:=q7 l
   refine qn bg J J<|qx (.d (.agg [G p.at_,G p.list_,G p.by_])) bg J<|U J<|U J ?_
   obtain ⟨q,bh,l⟩:=q7 l
   refine qn bh J J<|qx (.d (.agg [G q.at_,G q.list_,G q.by_])) bh J ?_
   obtain ⟨ab,cf,l⟩:=q7 l
   refine Ye [.d (.agg [G p.at_,G p.list_,G p.by_]),.d (.agg [G q.at_,G q.list_,G q.by_])] (q1Ok p q ab cf) J J J (.inl J)<|O (.d (.bool (decide (ab < 0)))) J<|O (.d (.bool (!(decide (ab < 0))))) J<|O (.d (.bool (!(decide (ab < 0))))) J<|q9 ?_
   obtain rfl:=qc l
   exact ⟨_,_,_,_,_,_,_,_,_,_,_,_,_,_,J⟩
  refine qb J<|qb J<|qb J<|qb J<|qb J<|qb J<|qb J<|qb J<|qb J<|qb J<|qb J<|qb J<|qb J<|O (qf false) J<|q9 ?_
  obtain rfl:=qc l
  exact ⟨_,_,_,_,_,_,_,_,_,_,_,_,_,_,J⟩
 rintro _ ⟨aq,ar,au,av,aw,ax,ay,az,ba,bb,bc,bd,be,bf,rfl⟩
 refine q9 ?_
 refine qj J b (fun _ b=>?_) (fun _ b=>?_)
 ·refine qa<|U J<|U J<|U J<|U J<|U J ?_
  obtain ⟨ae,cg,b⟩:=q7 b
  obtain ⟨cz,ch,b⟩:=q7 b
  have ci:=K3 ch
  refine Qr [(0,0)] [(0,0)] [.hs 0 3 0 k.length,q6 a.1,q6 a.2.1,q6 g.1,.d (.fn q1F q1C)] (q6 ae.1) 1 [(0,.dat 3 (ae.2.map Q0))] 1 (qu7 j q1F q1C q1Ok k a.1 a.2.1 g.1 ae cg)<|q8 J<|qp<|U J<|q8 J<|q9<|Q1<|q29<|Q8 ?_
  exact ⟨_,(Option.some.inj b).symm,wkE [] [] [] J ⟨⟨_,J,Ql (by simp [ci]) J (by decide) (ltd J)⟩,⟨_,J,.d (.refl _)⟩,⟨_,J,.d (.refl _)⟩,⟨_,J,.d (.refl _)⟩,⟨_,J,.d (.refl _)⟩,⟨_,J,.d (.refl _)⟩,⟨_,J,.d (.refl _)⟩,trivial⟩ ⟨⟨ltd J,.inr ⟨by decide,_,J,.dat _ _⟩⟩,trivial⟩⟩
 refine qk<|qa<|U J<|U J<|U J<|U J<|U J ?_
 obtain ⟨c,cj,b⟩:=q7 b
 obtain ⟨da,ck,b⟩:=q7 b
 have ac:=K3 ck
 refine Qr [(0,0)] [(0,0)] [.hs 0 3 0 k.length,q6 a.1,q6 a.2.1,q6 g.1,.d (.fn q1F q1C)] (.d (.tup [G c.1,.bool c.2.1])) 1 [(0,.dat 3 (c.2.2.map Q0))] 1 (qu6 j q1F q1C q1Ok k a.1 a.2.1 g.1 c cj)<|U J<|O (q6 c.1) J<|O (qf c.2.1) J<|q8 J<|q8 J<|qp<|U J<|q8 J<|qp<|U J<|U J<|O (.d (G (w64 (c.1 - a.1)))) J<|U J<|U J<|O (.d (G (w64 (a.2.1 - c.1)))) J<|q8 J<|q8 J<|qp<|U J<|O (.d (G (w64 (Int.tdiv (w64 (a.2.1 - a.1)) 8)))) J<|q8 J<|qp<|U J<|U J<|O (.d (.bool (decide ((w64 (c.1 - a.1)) < (w64 (a.2.1 - c.1)))))) J<|q9 ?_
 refine qj J b (fun _ b=>?_) (fun _ b=>?_)
 ·refine qa<|U J<|U J<|O (.d (.bool (decide ((w64 (c.1 - a.1)) ≥ (w64 (Int.tdiv (w64 (a.2.1 - a.1)) 8)))))) J<|q8 J<|qp<|U J<|U J<|U J<|U J<|U J ?_
  obtain ⟨af,cl,b⟩:=q7 b
  obtain ⟨dc,cm,b⟩:=q7 b
  have cn:=K3 cm
  refine Jx [(0,0)] [(0,0)] [.hs 0 3 0 k.length,q6 a.1,q6 c.1,q6 f.1,.d (.fn q1F q1C)] (.d (.tup [])) [(0,.dat 3 (af.map Q0))] [(0,.dat 3 (af.map Q0))] 1 (hrec c.2.2 a.1 c.1 f.1 af cl) J J J (Y6 [(0,0)] [] [] J ⟨⟨_,J,Ql (by simp [ac]) J (by decide) (ltd J)⟩,⟨_,J,.d (.refl _)⟩,⟨_,J,.d (.refl _)⟩,⟨_,J,.d (.refl _)⟩,⟨_,J,.d (.refl _)⟩,trivial⟩ ⟨⟨ltd J,.inr ⟨by decide,_,J,.dat _ _⟩⟩,trivial⟩) (Y6 [(0,0)] [] [] J ⟨⟨_,J,.d (.refl _)⟩,trivial⟩ ⟨⟨ltd J,.inr ⟨by decide,_,J,.dat _ _⟩⟩,trivial⟩) J ⟨.inl J,trivial⟩<|q9<|qt<|U J<|O (.d (G (w64 (c.1 + 1)))) J<|q8 J<|qq<|Qa<|Q8 ?_
  exact ⟨_,(Option.some.inj b).symm,wkE [] [] [] J ⟨⟨_,J,Ql (by simp [ac,cn]) J (by decide) (ltd J)⟩,⟨_,J,.d (.refl _)⟩,⟨_,J,.d (.refl _)⟩,⟨_,J,.d (.refl _)⟩,⟨_,J,.d (.refl _)⟩,⟨_,J,.d (.refl _)⟩,⟨_,J,.d (.refl _)⟩,trivial⟩ ⟨⟨ltd J,.inr ⟨by decide,_,J,.dat _ _⟩⟩,trivial⟩⟩
 refine qa<|U J<|U J<|O (.d (.bool (decide ((w64 (a.2.1 - c.1)) ≥ (w64 (Int.tdiv (w64 (a.2.1 - a.1)) 8)))))) J<|q8 J<|qp<|U J<|U J<|O (.d (G (w64 (c.1 + 1)))) J<|U J<|U J<|U J ?_
 obtain ⟨ag,co,b⟩:=q7 b
 obtain ⟨dd,cp,b⟩:=q7 b
 have cq:=K3 cp
 refine Jx [(0,0)] [(0,0)] [.hs 0 3 0 k.length,.d (G (w64 (c.1 + 1))),q6 a.2.1,q6 f.1,.d (.fn q1F q1C)] (.d (.tup [])) [(0,.dat 3 (ag.map Q0))] [(0,.dat 3 (ag.map Q0))] 1 (hrec c.2.2 (w64 (c.1 + 1)) a.2.1 f.1 ag co) J J J (Y6 [(0,0)] [] [] J ⟨⟨_,J,Ql (by simp [ac]) J (by decide) (ltd J)⟩,⟨_,J,.d (.refl _)⟩,⟨_,J,.d (.refl _)⟩,⟨_,J,.d (.refl _)⟩,⟨_,J,.d (.refl _)⟩,trivial⟩ ⟨⟨ltd J,.inr ⟨by decide,_,J,.dat _ _⟩⟩,trivial⟩) (Y6 [(0,0)] [] [] J ⟨⟨_,J,.d (.refl _)⟩,trivial⟩ ⟨⟨ltd J,.inr ⟨by decide,_,J,.dat _ _⟩⟩,trivial⟩) J ⟨.inl J,trivial⟩<|q9<|qt<|U J<|q8 J<|qq<|Qa<|Q8 ?_
 exact ⟨_,(Option.some.inj b).symm,wkE [] [] [] J ⟨⟨_,J,Ql (by simp [ac,cq]) J (by decide) (ltd J)⟩,⟨_,J,.d (.refl _)⟩,⟨_,J,.d (.refl _)⟩,⟨_,J,.d (.refl _)⟩,⟨_,J,.d (.refl _)⟩,⟨_,J,.d (.refl _)⟩,⟨_,J,.d (.refl _)⟩,trivial⟩ ⟨⟨ltd J,.inr ⟨by decide,_,J,.dat _ _⟩⟩,trivial⟩⟩
theorem qub (n : Nat) (g : qg→qg→Option Int) (q1F : FuncId) (q1C : List DV) (q1Ok : ∀ (h : qg) (j : qg) (r : Int),g h j = some r→Pure Tryz.prog tab q1F ([.agg [G h.at_,G h.list_,G h.by_],.agg [G j.at_,G j.list_,G j.by_]] ++ q1C) (G r)) : ∀ (a : List qg) (b : Int) (c : Int) (f : Int) (r : List qg),q5u n g a b c f = some r→Qo Tryz.prog tab 168 [.hs 0 3 0 a.length,q6 b,q6 c,q6 f,.d (.fn q1F q1C)] [(0,.dat 3 (a.map Q0))] 1 (.d (.tup [])) [(0,.dat 3 (r.map Q0))] 1:=by
 induction n with
 | zero=>intro a b c f r k;cases k
 | succ n ih=>intro a b c f r k;exact qua (q5u n g) g q1F q1C q1Ok ih a b c f r k
theorem qtu (g : qg→qg→Option Int) (q1F : FuncId) (q1C : List DV) (q1Ok : ∀ (c : qg) (f : qg) (r : Int),g c f = some r→Pure Tryz.prog tab q1F ([.agg [G c.at_,G c.list_,G c.by_],.agg [G f.at_,G f.list_,G f.by_]] ++ q1C) (G r)) (a : List qg) (r : List qg) (b : q55 g a = some r) : Qo Tryz.prog tab 164 [.hs 0 3 0 a.length,.d (.fn q1F q1C)] [(0,.dat 3 (a.map Q0))] 1 (.d (.tup [])) [(0,.dat 3 (r.map Q0))] 1:=by
 unfold q55 at b
 refine Qz Tryz.func164 J (by kernel_rfl) (by kernel_rfl) J<|qa<|U J<|O (q6 (a.length : Int)) J<|q8 J<|q9<|qt<|U J<|U J<|U J<|O (.d (.int .u64 (IntKind.wrap .u64 (a.length : Int)))) J ?_
 obtain ⟨h,l,b⟩:=q7 b
 refine qv (qcp (IntKind.wrap .u64 (a.length : Int)) h l) J<|U J ?_
 obtain ⟨k,j,b⟩:=q7 b
 obtain ⟨o,m,b⟩:=q7 b
 have p:=K3 m
 obtain ⟨n,j⟩:=qcl j
 refine Qr [(0,0)] [(0,0)] [.hs 0 3 0 a.length,q6 0,q6 (a.length : Int),q6 h,.d (.fn q1F q1C)] (.d (.tup [])) 1 [(0,.dat 3 (k.map Q0))] 1 (qub n g q1F q1C q1Ok a 0 (a.length : Int) h k j)<|qq ?_
 obtain rfl:=qc b
 exact ⟨.inl J,_,J,wkA [] [] []⟩
theorem qtv (a : List qg) (r : List qg) (b : qap  a = some r) : Qo Tryz.prog tab 166 [.hs 0 3 0 a.length] [(0,.dat 3 (a.map Q0))] 1 (.fn 169 [.ref 1 1 0 0]) [(0,.dat 3 (r.map Q0)),(1,.cel 1 [[.hs 0 3 0 r.length]])] 2:=by
 unfold qap at b
 refine Qz Tryz.func166 J (by kernel_rfl) (by kernel_rfl) J<|qa<|Qe (.ref 1 1 0 0) (.cel 1 [[.hs 0 3 0 a.length]]) J<|q8 J<|qp<|O (.fn 169 [.ref 1 1 0 0]) J<|q8 J<|qo ?_
 obtain rfl:=qc b
 exact ⟨.inr J,_,J,wkA [(1,1)] [] []⟩
theorem qxa (b : List (List qi)) (r : List (List qi) × List qg) (f : q8w  b = some r) : Qo Tryz.prog tab 156 [.hs 0 1 0 b.length] [(0,.dat 1 (b.map Jk))] 1 (.fn 169 [.ref 1 1 0 0]) [(0,.dat 1 (r.1.map Jk)),(1,.cel 1 [[.hs 2 3 0 r.2.length]]),(2,.dat 3 (r.2.map Q0))] 3:=by
 unfold q8w at f
 refine Qz Tryz.func156 J (by kernel_rfl) (by kernel_rfl) J<|qa<|q8 J<|qp<|q8 J<|q9<|qe<|qa<|U J<|O (q6 (b.length : Int)) J<|U J<|q9 ?_
 obtain ⟨t,v,f⟩:=q7 f
 refine Q9 (fun h=>h = t) (fun (h : List qg)=>⟨[(3,.hs 1 3 0 h.length)],[(0,.dat 1 (b.map Jk)),(1,.dat 3 (h.map Q0))],2⟩) (by simp) ?_ ?_
 ·refine Q4 (U3 b) (fun (a : Int × List qg)=>⟨[(3,.hs 1 3 0 a.2.length),(8,.hs 0 1 0 b.length),(9,q6 (b.length : Int)),(10,q6 a.1)],[(0,.dat 1 (b.map Jk)),(1,.dat 3 (a.2.map Q0))],2⟩) (0,[]) t v (wkA [] [] [1]) ?_
  intro a ag j
  unfold U3 at j
  refine qa<|O (.d (.bool (decide (a.1 < (b.length : Int))))) J<|q9<|qe ?_
  refine qj J j (fun _ j=>?_) (fun _ j=>?_)
  ·refine qk<|qe ?_
   obtain ⟨w,l,j⟩:=q7 j
   refine Q9 (fun m=>m = w) (fun (m : List qg)=>⟨[(3,.hs 1 3 0 m.length),(8,.hs 0 1 0 b.length),(9,q6 (b.length : Int)),(10,q6 a.1)],[(0,.dat 1 (b.map Jk)),(1,.dat 3 (m.map Q0))],2⟩) (by simp) ?_ ?_
   ·refine qa<|U J ?_
    obtain ⟨n,u,l⟩:=q7 l
    refine qn u J J<|qx (.d (.sl 2 (n.map Qc))) u J<|q8 J<|q8 J<|qp<|U J<|Qg J<|U J<|q9 ?_
    obtain ⟨x,y,l⟩:=q7 l
    refine qw<|Q4 (q3q n a) (fun (k : Int × List qg)=>⟨[(3,.hs 1 3 0 k.2.length),(4,q6 a.1),(8,.hs 0 1 0 b.length),(9,q6 (b.length : Int)),(10,q6 a.1),(15,.d (.sl 2 (n.map Qc))),(16,q6 (n.length : Int)),(17,q6 k.1)],[(0,.dat 1 (b.map Jk)),(1,.dat 3 (k.2.map Q0))],2⟩) (0,a.2) x y (wkA [(1,1)] [] []) ?_
    intro k ah g
    unfold q3q at g
    refine qa<|O (.d (.bool (decide (k.1 < (n.length : Int))))) J<|q9<|qe ?_
    refine qj J g (fun _ g=>?_) (fun _ g=>?_)
    ·refine qk<|qe<|qw<|qa ?_
     obtain ⟨c,z,g⟩:=q7 g
     refine Q3 (enc:=Qc) z J<|O (.d (.agg [G c.Lo,G c.Hi])) J<|Qk J J<|qz 2 (.dat 2 [[G c.Lo,G c.Hi]]) J<|q9<|qt<|U J<|O (.ref 2 2 0 0) J<|O (q6 c.Lo) J<|U J<|O (.d (.agg [G c.Lo,G a.1,G 1])) J<|O (.ref 2 2 0 1) J<|O (q6 c.Hi) J<|U J<|O (.d (.agg [G c.Hi,G a.1,G (-1)])) J<|Qe (.hs 3 3 0 [({at_:=c.Lo,list_:=a.1,by_:=1} : qg),({at_:=c.Hi,list_:=a.1,by_:=(-1)} : qg)].length) (.dat 3 ([({at_:=c.Lo,list_:=a.1,by_:=1} : qg),({at_:=c.Hi,list_:=a.1,by_:=(-1)} : qg)].map Q0)) J ?_
     obtain ⟨ai,aa,g⟩:=q7 g
     refine Kl (xs:=k.2) (ys:=[({at_:=c.Lo,list_:=a.1,by_:=1} : qg),({at_:=c.Hi,list_:=a.1,by_:=(-1)} : qg)]) (enc:=Q0) (.hs 3 3 0 [({at_:=c.Lo,list_:=a.1,by_:=1} : qg),({at_:=c.Hi,list_:=a.1,by_:=(-1)} : qg)].length) aa J J J J J J J (Ki J J) J J J J<|q8 J<|qq<|Qa<|qt<|O (.d (G (w64 (k.1 + 1)))) J<|U J<|qq ?_
     exact ⟨_,(Option.some.inj g).symm,wkA [(1,4)] [] []⟩
    refine Q1 ?_
    refine ⟨_,(Option.some.inj g).symm,fun hm=>?_⟩
    subst hm
    obtain rfl:=qc l
    exact ⟨_,J,wkA [(1,1)] [] []⟩
   intro m hb
   subst hb
   refine qt<|O (.d (G (w64 (a.1 + 1)))) J<|U J<|qq ?_
   exact ⟨_,(Option.some.inj j).symm,wkA [(1,1)] [] []⟩
  refine Q1 ?_
  refine ⟨_,(Option.some.inj j).symm,fun hm=>?_⟩
  subst hm
  exact ⟨_,J,wkA [(1,1)] [] []⟩
 intro h hb
 subst hb
 refine qa<|U J ?_
 obtain ⟨p,ab,f⟩:=q7 f
 obtain ⟨aj,ac,f⟩:=q7 f
 have ad:=K3 ac
 refine Qr [(0,1)] [(0,1),(1,0)] [.hs 1 3 0 h.length,.d (.fn 165 [])] (.d (.tup [])) 1 [(1,.dat 3 (p.map Q0)),(0,.dat 1 (b.map Jk))] 2 (qtu (fun q s=>q8v q s) 165 [] (fun q s r hr=>qx9 q s r hr) h p ab)<|qp<|U J ?_
 obtain ⟨o,ae,f⟩:=q7 f
 obtain ⟨ak,af,f⟩:=q7 f
 have al:=K3 af
 refine Jx [(0,1)] [(0,2),(1,0),(2,1)] [.hs 1 3 0 h.length] (.fn 169 [.ref 2 1 0 0]) [(1,.dat 3 (o.map Q0)),(2,.cel 1 [[.hs 1 3 0 o.length]])] [(1,.dat 3 (o.map Q0)),(2,.cel 1 [[.hs 1 3 0 o.length]]),(0,.dat 1 (b.map Jk))] 3 (qtv p o ae) J J J (Y6 [(0,1)] [] [] J ⟨⟨_,J,Ql (by simp [ad]) J (by decide) (ltd J)⟩,trivial⟩ ⟨⟨ltd J,.inr ⟨by decide,_,J,.dat _ _⟩⟩,trivial⟩) (Y6 [(0,2),(1,0),(2,1)] [] [] J ⟨⟨_,J,(q3v (.cons (.ref J (by decide) (ltd J)) .nil))⟩,trivial⟩ ⟨⟨ltd J,.inr ⟨by decide,_,J,.dat _ _⟩⟩,⟨ltd J,.inr ⟨by decide,_,J,U5 (.cons (.hs J (by decide) (ltd J)) J .nil)⟩⟩,trivial⟩) J ⟨.inl J,.inl J,.inr ⟨J,J⟩,trivial⟩<|q8 J<|qo ?_
 obtain rfl:=qc f
 exact ⟨.inr J,_,J,wkA [(1,2),(2,1)] [] []⟩
theorem qxb (f : Int) (j : Bool) (b : Int) (c : List qi) (r : Bool × Int × List qi) (a : q8x  f j b c = some r) : Qo Tryz.prog tab 155 [q6 f,.ref 0 1 0 0,.ref 1 1 0 0,.ref 2 1 0 0] [(0,.dat 1 [[.bool j]]),(1,.dat 1 [[G b]]),(2,.cel 1 [[.hs 3 2 0 c.length]]),(3,.dat 2 (c.map Qc))] 4 (.d (.tup [])) [(0,.dat 1 [[.bool r.1]]),(1,.dat 1 [[G r.2.1]]),(2,.cel 1 [[.hs 4 2 0 r.2.2.length]]),(4,.dat 2 (r.2.2.map Qc))] 5:=by
 unfold q8x at a
 refine Qz Tryz.func155 J (by kernel_rfl) (by kernel_rfl) J<|qe<|qa<|O (qf j) J<|O (qf (!j)) J ?_
 obtain ⟨ab,h,a⟩:=q7 a
 refine Q5 5 (fun A st=>∃ (l m n o : V),st = A [(12,qf ab),(11,o),(10,n),(9,m),(8,l)]) ?_ ?_
 ·refine Q6 J J h (fun h=>?_) (fun h=>?_)
  ·refine qb J<|qb J<|qb J<|O (qf true) J<|q9 ?_
   obtain rfl:=qc h
   exact ⟨_,_,_,_,J⟩
  refine O (q6 b) J<|U J<|O (qf (b == f)) J<|O (qf (b == f)) J<|q9 ?_
  obtain rfl:=qc h
  exact ⟨_,_,_,_,J⟩
 rintro _ ⟨l,m,n,o,rfl⟩
 refine q9 ?_
 refine qj J a (fun _ a=>?_) (fun _ a=>?_)
 ·refine q36 ?_
  obtain rfl:=qc a
  exact ⟨.inr J,_,J,wkA [(4,3)] [] []⟩
 refine qk<|qa<|O (.hs 3 2 0 c.length) J<|O (q6 (c.length : Int)) J<|q8 J<|q9<|qe<|Q2 [q0,q0,qm 1,qm 3,q0,q0,q0,q0,qm 2,q0,q0,q0] (by kernel_rfl)<|U J<|O (.d (.bool (decide ((c.length : Int) > 0)))) J ?_
 obtain ⟨ac,g,a⟩:=q7 a
 refine Q5 10 (fun A st=>∃ (p q s t u v w x y : V),st = A [(26,qf ac),(25,y),(24,x),(23,w),(22,v),(21,u),(20,t),(19,s),(18,q),(17,p)]) ?_ ?_
 ·refine Q6 J J g (fun g=>?_) (fun g=>?_)
  ·refine O (.hs 3 2 0 c.length) J<|U J<|O (.d (G (w64 ((c.length : Int) - 1)))) J ?_
   obtain ⟨k,z,g⟩:=q7 g
   refine qn z J J<|O (.ref 3 2 (w64 ((c.length : Int) - 1)).toNat 1) J<|qx (q6 k.Hi) z J<|O (q6 b) J<|O (qf (k.Hi == b)) J<|O (qf (k.Hi == b)) J<|q9 ?_
   obtain rfl:=qc g
   exact ⟨_,_,_,_,_,_,_,_,_,J⟩
  refine qb J<|qb J<|qb J<|qb J<|qb J<|qb J<|qb J<|qb J<|O (qf false) J<|q9 ?_
  obtain rfl:=qc g
  exact ⟨_,_,_,_,_,_,_,_,_,J⟩
 rintro _ ⟨p,q,s,t,u,v,w,x,y,rfl⟩
 refine q9 ?_
 refine qj J a (fun _ a=>?_) (fun _ a=>?_)
 ·refine qt<|O (.hs 3 2 0 c.length) J<|U J<|O (.d (G (w64 ((c.length : Int) - 1)))) J<|U J ?_
  obtain ⟨ad,aa,a⟩:=q7 a
  refine qn aa J J<|O (.ref 3 2 (w64 ((c.length : Int) - 1)).toNat 1) J<|Qi (ds:=[G f]) ({Lo:=ad.Lo,Hi:=f} : qi) aa J J J J J J J J (leb J) J<|qq ?_
  obtain rfl:=qc a
  exact ⟨.inl J,_,J,wkE [(4,3)] [] [] J ⟨⟨_,J,.d (.refl _)⟩,trivial⟩ ⟨⟨ltd J,.inr ⟨by decide,_,J,.dat _ _⟩⟩,⟨ltd J,.inr ⟨by decide,_,J,.dat _ _⟩⟩,⟨ltd J,.inr ⟨by decide,_,J,U5 (.cons (Ql (by simp) J (by decide) (ltd J)) J .nil)⟩⟩,⟨ltd J,.inr ⟨by decide,_,J,.dat _ _⟩⟩,trivial⟩⟩
 refine qt<|O (.hs 3 2 0 c.length) J<|O (q6 b) J<|U J<|O (.d (.agg [G b,G f])) J<|Qe (.hs 4 2 0 [({Lo:=b,Hi:=f} : qi)].length) (.dat 2 ([({Lo:=b,Hi:=f} : qi)].map Qc)) J ?_
 obtain ⟨ae,af,a⟩:=q7 a
 refine Kl (xs:=c) (ys:=[({Lo:=b,Hi:=f} : qi)]) (enc:=Qc) (.hs 4 2 0 [({Lo:=b,Hi:=f} : qi)].length) af J J J J J J J (Ki J J) J J J J<|qz 2 (.cel 1 [[.hs 5 2 0 ae.length]]) J<|qq ?_
 obtain rfl:=qc a
 exact ⟨.inl J,_,J,wkA [(4,5)] [] []⟩
theorem qxc (l : List qi) (m : List qi) (q : Bool→Bool→Option Bool) (p2F : FuncId) (p2C : List DV) (p2Ok : ∀ (u : Bool) (w : Bool) (r : Bool),q u w = some r→Pure Tryz.prog tab p2F ([.bool u,.bool w] ++ p2C) (.bool r)) (r : List qi) (h : q67 l m q = some r) : Pure Tryz.prog tab 138 [.sl 2 (l.map Qc),.sl 2 (m.map Qc),.fn p2F p2C] (.sl 2 (r.map Qc)):=by
 unfold q67 at h
 refine Qb Tryz.func138 J (by kernel_rfl) (by kernel_rfl) J<|qa<|Qe (.ref 0 1 0 0) (.dat 1 [[.fn p2F p2C]]) J<|q8 J<|qp<|Qk J J<|qp<|Qk J J<|qp<|Qk J J<|Qk J J<|qz 3 (.dat 1 [[G 0]]) J<|qz 4 (.dat 1 [[.bool false]]) J<|qp<|O (.fn 155 [.ref 4 1 0 0,.ref 3 1 0 0,.ref 2 1 0 0]) J<|Qk J J<|qz 5 (.cel 1 [[.fn 155 [.ref 4 1 0 0,.ref 3 1 0 0,.ref 2 1 0 0]]]) J<|q9<|qe<|qa<|U J<|U J<|Qe (.hs 6 1 0 [l,m].length) (.dat 1 ([l,m].map Jk)) J ?_
 obtain ⟨b,h2,h⟩:=q7 h
 obtain ⟨u3,h4,h⟩:=q7 h
 have h5:=K3 h4
 refine Qr [(0,6)] [(0,3),(1,3),(2,3),(3,3),(4,3),(5,3),(6,0),(7,1),(8,2)] [.hs 6 1 0 [l,m].length] (.fn 169 [.ref 7 1 0 0]) 3 [(6,.dat 1 (b.1.map Jk)),(7,.cel 1 [[.hs 8 3 0 b.2.length]]),(8,.dat 3 (b.2.map Q0)),(0,.dat 1 [[.fn p2F p2C]]),(1,.dat 2 [[0,0].flatMap (eI .i64)]),(2,.dat 1 [[.nilsl]]),(3,.dat 1 [[G 0]]),(4,.dat 1 [[.bool false]]),(5,.cel 1 [[.fn 155 [.ref 4 1 0 0,.ref 3 1 0 0,.ref 2 1 0 0]]])] 9 (qxa [l,m] b h2)<|q9<|qw ?_
 obtain ⟨af,s,h⟩:=q7 h
 refine qdn (fun j=>j = af) (fun (j : List qi)=>⟨[(8,.ref 0 1 0 0)],[(0,.cel 1 [[.hs 1 2 0 j.length]]),(1,.dat 2 (j.map Qc))],2⟩) ?_ ?_
 ·refine Ym (st':=⟨[(5,.ref 0 1 0 0),(6,.d (.nilsl)),(7,.ref 1 2 0 0),(8,.ref 2 1 0 0),(9,.ref 3 1 0 0),(10,.ref 4 1 0 0),(11,.ref 5 1 0 0),(17,.fn 169 [.ref 6 1 0 0])],[(0,.dat 1 [[.fn p2F p2C]]),(1,.dat 2 [[0,0].flatMap (eI .i64)]),(2,.dat 1 [[.nilsl]]),(3,.dat 1 [[G 0]]),(4,.dat 1 [[.bool false]]),(5,.cel 1 [[.fn 155 [.ref 4 1 0 0,.ref 3 1 0 0,.ref 2 1 0 0]]]),(6,.cel 1 [[.hs 7 3 0 b.2.length]]),(7,.dat 3 (b.2.map Q0))],8⟩) (wkA [(0,0),(1,1),(2,2),(3,3),(4,4),(5,5),(6,7),(7,8)] [] []) ?_ (by simp)
  refine qdo [.ref 6 1 0 0] (.inl J) Tryz.func169 J (by kernel_rfl) (by kernel_rfl) J ?_
  intro A154 B155 hA154 hB155
  refine qa<|O (.hs 7 3 0 b.2.length) J<|O (q6 (b.2.length : Int)) J<|U J<|q9 ?_
  obtain ⟨ag,ah,s⟩:=q7 s
  refine qw<|Q4 (q3r b q) (fun (c : Int × List Int × Int × Bool × List qi)=>⟨[(0,.yld 8),(5,.hs 7 3 0 b.2.length),(6,q6 (b.2.length : Int)),(7,q6 c.1)],[(0,.dat 1 [[.fn p2F p2C]]),(1,.dat 2 [c.2.1.flatMap (eI .i64)]),(2,.cel 1 [[.hs 9 2 0 c.2.2.2.2.length]]),(3,.dat 1 [[G c.2.2.1]]),(4,.dat 1 [[.bool c.2.2.2.1]]),(5,.cel 1 [[.fn 155 [.ref 4 1 0 0,.ref 3 1 0 0,.ref 2 1 0 0]]]),(6,.cel 1 [[.hs 7 3 0 b.2.length]]),(7,.dat 3 (b.2.map Q0)),(8,.loop [(5,.ref 0 1 0 0),(6,.d (.nilsl)),(7,.ref 1 2 0 0),(8,.ref 2 1 0 0),(9,.ref 3 1 0 0),(10,.ref 4 1 0 0),(11,.ref 5 1 0 0),(17,.fn 169 [.ref 6 1 0 0])] [18] A154 B155 .ready none),(9,.dat 2 (c.2.2.2.2.map Qc))],10⟩) (0,[0,0],0,false,[]) ag ah (wkA [] [] [9]) ?_
  intro c an g
  unfold q3r at g
  refine qa<|O (.d (.bool (decide (c.1 < (b.2.length : Int))))) J<|q9<|qe ?_
  refine qj J g (fun _ g=>?_) (fun _ g=>?_)
  ·refine qk<|qe<|qw<|qa ?_
   obtain ⟨a,x,g⟩:=q7 g
   refine qn x J J<|qx (.d (.agg [G a.at_,G a.list_,G a.by_])) x J<|Qk J J<|qz 10 (.dat 3 [[G a.at_,G a.list_,G a.by_]]) J<|qp<|U J<|O (.d (.agg [G a.at_,G a.list_,G a.by_])) J ?_
   obtain ⟨ai,f,g⟩:=q7 g
   refine qd6 (fun k=>k = ai) (fun (k : List Int × Bool × List qi)=>⟨[(0,.yld 8),(5,.hs 7 3 0 b.2.length),(6,q6 (b.2.length : Int)),(7,q6 c.1),(13,qf true)],[(0,.dat 1 [[.fn p2F p2C]]),(1,.dat 2 [k.1.flatMap (eI .i64)]),(2,.cel 1 [[.hs 9 2 0 k.2.2.length]]),(3,.dat 1 [[G a.at_]]),(4,.dat 1 [[.bool k.2.1]]),(5,.cel 1 [[.fn 155 [.ref 4 1 0 0,.ref 3 1 0 0,.ref 2 1 0 0]]]),(6,.cel 1 [[.hs 7 3 0 b.2.length]]),(7,.dat 3 (b.2.map Q0)),(8,.loop [(5,.ref 0 1 0 0),(6,.d (.nilsl)),(7,.ref 1 2 0 0),(8,.ref 2 1 0 0),(9,.ref 3 1 0 0),(10,.ref 4 1 0 0),(11,.ref 5 1 0 0),(17,.fn 169 [.ref 6 1 0 0])] [18] A154 B155 .ready none),(9,.dat 2 (k.2.2.map Qc))],10⟩) hA154 hB155 J J J J J J ?_ ?_
   ·refine qt<|Qk J J<|qz 11 (.dat 3 [[G a.at_,G a.list_,G a.by_]]) J<|qq ?_
    refine ⟨J,_,J,?_⟩
    refine qw<|qa<|O (.fn 155 [.ref 4 1 0 0,.ref 3 1 0 0,.ref 2 1 0 0]) J<|O (.ref 11 3 0 0) J<|O (q6 a.at_) J ?_
    obtain ⟨n,aj,f⟩:=q7 f
    refine Qr [(0,4),(1,3),(2,2),(3,9)] [(0,5),(1,5),(2,2),(3,1),(4,0),(5,5),(6,5),(7,5),(8,5),(9,3),(10,5),(11,5),(12,4)] [q6 a.at_,.ref 4 1 0 0,.ref 3 1 0 0,.ref 2 1 0 0] (.d (.tup [])) 4 [(2,.cel 1 [[.hs 12 2 0 n.2.2.length]]),(3,.dat 1 [[G n.2.1]]),(4,.dat 1 [[.bool n.1]]),(12,.dat 2 (n.2.2.map Qc)),(0,.dat 1 [[.fn p2F p2C]]),(1,.dat 2 [c.2.1.flatMap (eI .i64)]),(5,.cel 1 [[.fn 155 [.ref 4 1 0 0,.ref 3 1 0 0,.ref 2 1 0 0]]]),(6,.cel 1 [[.hs 7 3 0 b.2.length]]),(7,.dat 3 (b.2.map Q0)),(8,.loop [(5,.ref 0 1 0 0),(6,.d (.nilsl)),(7,.ref 1 2 0 0),(8,.ref 2 1 0 0),(9,.ref 3 1 0 0),(10,.ref 4 1 0 0),(11,.ref 5 1 0 0),(17,.fn 169 [.ref 6 1 0 0])] [18] A154 B155 .busy none),(10,.dat 3 [[G a.at_,G a.list_,G a.by_]]),(11,.dat 3 [[G a.at_,G a.list_,G a.by_]])] 13 (qxb a.at_ c.2.2.2.1 c.2.2.1 c.2.2.2.2 n aj)<|q9<|qe<|Q2 [Q7 1,q0,q0,qm 11,q0,qm 1,q0,qm 11,q0] (by kernel_rfl)<|O (.ref 11 3 0 1) J<|O (q6 a.list_) J ?_
    obtain ⟨t,y,f⟩:=q7 f
    refine qa2 y J J J J J<|qd2 (enc:=(eI .i64)) (q6 t) y (fun _=>rfl) J J J J J J<|O (.ref 11 3 0 2) J<|O (q6 a.by_) J<|O (.d (G (w64 (t + a.by_)))) J ?_
    obtain ⟨ao,z,f⟩:=q7 f
    refine qa2 z J J J J J<|qpi (enc:=(eI .i64)) (w64 (t + a.by_)) z (fun _=>rfl) J J J J J J J J<|q9<|Q2 [Q7 4,Q7 3,q0,q0,qm 1,q0,q0,qm 1,q0,qm 0,qm 11,q0] (by kernel_rfl)<|O (.ref 11 3 0 0) J<|O (q6 a.at_) J<|O (.d (.fn p2F p2C)) J ?_
    obtain ⟨o,aa,f⟩:=q7 f
    refine qa2 aa J J J J J<|qd2 (enc:=(eI .i64)) (q6 o) aa (fun _=>rfl) J J J J J J<|O (.d (.bool (decide (o > 0)))) J ?_
    obtain ⟨p,ab,f⟩:=q7 f
    refine qa2 ab J J J J J<|qd2 (enc:=(eI .i64)) (q6 p) ab (fun _=>rfl) J J J J J J<|O (.d (.bool (decide (p > 0)))) J ?_
    obtain ⟨ac,ak,f⟩:=q7 f
    refine Ye [.d (.bool (decide (o > 0))),.d (.bool (decide (p > 0)))] (p2Ok (decide (o > 0)) (decide (p > 0)) ac ak) J J J (.inl J)<|qz 3 (.dat 1 [[G a.at_]]) J<|qz 4 (.dat 1 [[.bool ac]]) J<|qq<|Qa<|Q8 ?_
    refine ⟨_,J,?_⟩
    obtain rfl:=qc f
    exact ⟨_,J,wkA [(9,12)] [] []⟩
   intro k hb
   subst hb
   refine O (qf false) J<|q9<|U1 J<|qk<|Q8<|Qa<|qt<|O (.d (G (w64 (c.1 + 1)))) J<|U J<|qq ?_
   exact ⟨_,(Option.some.inj g).symm,wkA [(9,9)] [] []⟩
  refine Q1 ?_
  refine ⟨_,(Option.some.inj g).symm,fun hm=>?_⟩
  subst hm
  refine ⟨.inl J,_,J,_,_,.nor,J,by decide,?_⟩
  refine qbh<|Q8 ?_
  obtain rfl:=qc s
  exact ⟨_,J,wkA [(0,2),(1,9)] [] []⟩
 intro j st hb hw
 subst hb
 refine Ym hw ?_ (by simp)
 refine qa<|O (.hs 1 2 0 j.length) J<|q8 J<|qo ?_
 obtain rfl:=qc h
 exact finD (.inr J) (v:=.hs 1 2 0 j.length) J (Jf J J) (.refl _)
theorem qx7 (a : Bool) (b : Bool) (r : Bool) (c : q8u a b = some r) : Pure Tryz.prog tab 143 [.bool a,.bool b] (.bool r):=by
 unfold q8u at c
 refine Qb Tryz.func143 J (by kernel_rfl) (by kernel_rfl) J<|qa<|q8 J<|qp<|U J<|q8 J<|qo ?_
 obtain rfl:=qc c
 exact qy (qf a) J
theorem qx8 (c : List qi) (r : List qi × Int) (a : q66 c = some r) : Pure Tryz.prog tab 131 [.sl 2 (c.map Qc)] (.tup [.sl 2 (r.1.map Qc),G r.2]):=by
 unfold q66 at a
 refine Qb Tryz.func131 J (by kernel_rfl) (by kernel_rfl) J<|qa<|q8 J<|q8 J<|q9<|qe<|qa<|U J<|Qg J<|O (.d (.bool (decide ((c.length : Int) > 400)))) J<|q9 ?_
 refine qj J a (fun _ a=>?_) (fun _ a=>?_)
 ·refine qa<|q8 J<|q8 J<|qo ?_
  obtain rfl:=qc a
  exact finD (.inr J) (v:=.d (.tup [.nilsl,G 4])) J J (Kx (.cons (.nil _) (.cons (.refl _) .nil)))
 refine qk<|qe<|qa<|U J ?_
 obtain ⟨h,j,a⟩:=q7 a
 refine qv (qtm c (fun b=>qaw b) 141 [] (fun b r hr=>qx6 b r hr) h j) J<|q9 ?_
 refine qj J a (fun _ a=>?_) (fun _ a=>?_)
 ·refine qa<|q8 J<|q8 J<|qo ?_
  obtain rfl:=qc a
  exact finD (.inr J) (v:=.d (.tup [.nilsl,G 8])) J J (Kx (.cons (.nil _) (.cons (.refl _) .nil)))
 refine qk<|qa<|U J ?_
 obtain ⟨g,k,a⟩:=q7 a
 refine qv (q4k (.cons (.refl _) (.cons (.nil _) (.cons (.refl _) .nil))) (qxc c [] (fun b f=>q8u b f) 143 [] (fun b f r hr=>qx7 b f r hr) g k)) J<|q8 J<|q8 J<|qo ?_
 obtain rfl:=qc a
 exact qy (.d (.tup [.sl 2 (g.map Qc),G 0])) J
theorem qtp (c : List qi) (f : List qi) (r : Bool) (b : q7t c f = some r) : Pure Tryz.prog tab 136 [.sl 2 (c.map Qc),.sl 2 (f.map Qc)] (.bool r):=by
 unfold q7t at b
 refine Qb Tryz.func136 J (by kernel_rfl) (by kernel_rfl) J<|qa<|q8 J<|q9<|qe<|qa<|U J<|Qg J<|U J<|Qg J<|O (.d (.bool ((c.length : Int) != (f.length : Int)))) J<|q9 ?_
 refine qj J b (fun _ b=>?_) (fun _ b=>?_)
 ·refine qa<|q8 J<|qo ?_
  obtain rfl:=qc b
  exact qy (qf false) J
 refine qk<|qe<|qa<|U J<|Qg J<|U J<|q9 ?_
 obtain ⟨l,m,b⟩:=q7 b
 refine Q9 (fun k=>.inl k = l) (fun (k : Unit)=>⟨[],[],0⟩) (by simp) ?_ ?_
 ·refine Q4 (qal c f) (fun (g : Int)=>⟨[(0,.d (.sl 2 (c.map Qc))),(1,.d (.sl 2 (f.map Qc))),(12,q6 (c.length : Int)),(13,q6 g)],[],0⟩) 0 l m (wkA [] [] []) ?_
  intro g p a
  unfold qal at a
  refine qa<|O (.d (.bool (decide (g < (c.length : Int))))) J<|q9<|qe ?_
  refine qj J a (fun _ a=>?_) (fun _ a=>?_)
  ·refine qk<|qe<|qw<|qa<|U J<|q8 J<|q9<|qe<|Q2 [q0,q0,q0,q0,q0,q0,q0,q0,q0] (by kernel_rfl)<|U J<|U J ?_
   obtain ⟨h,n,a⟩:=q7 a
   refine Q3 (enc:=Qc) n J<|O (.d (.agg [G h.Lo,G h.Hi])) J<|U J<|U J ?_
   obtain ⟨j,o,a⟩:=q7 a
   refine Q3 (enc:=Qc) o J<|O (.d (.agg [G j.Lo,G j.Hi])) J<|O (.d (.bool (!((h.Lo == j.Lo) && ((h.Hi == j.Hi) && true))))) J<|q9 ?_
   refine qj J a (fun _ a=>?_) (fun _ a=>?_)
   ·refine qa<|q8 J<|qo ?_
    refine ⟨_,(Option.some.inj a).symm,fun hm=>?_⟩
    subst hm
    obtain rfl:=qc b
    exact qy (qf false) J
   refine qk<|Q8<|Qa<|qt<|O (.d (G (w64 (g + 1)))) J<|U J<|qq ?_
   exact ⟨_,(Option.some.inj a).symm,wkA [] [] []⟩
  refine Q1 ?_
  refine ⟨_,(Option.some.inj a).symm,fun hm=>?_⟩
  subst hm
  exact ⟨_,J,wkA [] [] []⟩
 intro k hb
 subst hb
 refine qa<|q8 J<|qo ?_
 obtain rfl:=qc b
 exact qy (qf true) J
theorem qrs (b : List qh) (m : List qi) (p : Int) (l : Int) (h : Int) (a : Int) (g : List qi) (r : List qi × Int × Int × List qh) (f : q7h  b m p l h a g = some r) : Qo Tryz.prog tab 118 [.ref 0 4 0 0,q6 h,q6 a,.d (.sl 2 (g.map Qc))] [(0,.cel 4 [[.hs 1 4 0 b.length,.d (.sl 2 (m.map Qc)),q6 p,q6 l]]),(1,.dat 4 (b.map qs))] 2 (.d (.tup [])) [(0,.cel 4 [[.hs 2 4 0 r.2.2.2.length,.d (.sl 2 (r.1.map Qc)),q6 r.2.1,q6 r.2.2.1]]),(2,.dat 4 (r.2.2.2.map qs))] 3:=by
 unfold q7h at f
 refine Qz Tryz.func118 J (by kernel_rfl) (by kernel_rfl) J<|qe<|qa<|U J<|Qg J<|O (.d (.bool (decide ((g.length : Int) > 0)))) J ?_
 obtain ⟨am,t,f⟩:=q7 f
 refine Q5 8 (fun A st=>∃ (v w x y z aa ab : V),st = A [(21,qf am),(20,ab),(19,aa),(18,z),(17,y),(16,x),(15,w),(14,v)]) ?_ ?_
 ·refine Q6 J J t (fun t=>?_) (fun t=>?_)
  ·refine U J<|O (.ref 0 4 0 0) J<|O (.ref 0 4 0 3) J<|O (q6 l) J<|U J<|O (qf (l == h)) J<|O (qf (l == h)) J<|q9 ?_
   obtain rfl:=qc t
   exact ⟨_,_,_,_,_,_,_,J⟩
  refine qb J<|qb J<|qb J<|qb J<|qb J<|qb J<|O (qf false) J<|q9 ?_
  obtain rfl:=qc t
  exact ⟨_,_,_,_,_,_,_,J⟩
 rintro _ ⟨v,w,x,y,z,aa,ab,rfl⟩
 obtain ⟨an,q,f⟩:=q7 f
 refine Q5 8 (fun A st=>∃ (ac ad ae af ag ah ai : V),st = A [(29,qf an),(28,ai),(27,ah),(26,ag),(25,af),(24,ae),(23,ad),(22,ac)]) ?_ ?_
 ·refine Q6 J J q (fun q=>?_) (fun q=>?_)
  ·refine U J<|O (.ref 0 4 0 0) J<|O (.ref 0 4 0 1) J<|O (.d (.sl 2 (m.map Qc))) J<|U J ?_
   obtain ⟨aj,ao,q⟩:=q7 q
   refine qv (qtp m g aj ao) J<|O (qf aj) J<|q9 ?_
   obtain rfl:=qc q
   exact ⟨_,_,_,_,_,_,_,J⟩
  refine qb J<|qb J<|qb J<|qb J<|qb J<|qb J<|O (qf false) J<|q9 ?_
  obtain rfl:=qc q
  exact ⟨_,_,_,_,_,_,_,J⟩
 rintro _ ⟨ac,ad,ae,af,ag,ah,ai,rfl⟩
 refine q9 ?_
 refine qj J f (fun _ f=>?_) (fun _ f=>?_)
 ·refine qe<|qa<|U J<|O (.ref 0 4 0 0) J<|O (.ref 0 4 0 2) J<|O (q6 p) J<|q8 J<|q9 ?_
  obtain ⟨ak,ap,f⟩:=q7 f
  refine Q9 (fun s=>s = ak) (fun (s : List qh)=>⟨[(0,.ref 0 4 0 0),(2,q6 a)],[(0,.cel 4 [[.hs 1 4 0 s.length,.d (.sl 2 (m.map Qc)),q6 p,q6 l]]),(1,.dat 4 (s.map qs))],2⟩) (by simp) ?_ ?_
  ·refine Q4 (q4z a) (fun (j : Int × List qh)=>⟨[(0,.ref 0 4 0 0),(2,q6 a),(8,q6 j.1)],[(0,.cel 4 [[.hs 1 4 0 j.2.length,.d (.sl 2 (m.map Qc)),q6 p,q6 l]]),(1,.dat 4 (j.2.map qs))],2⟩) (p,b) ak ap (wkA [] [] []) ?_
   intro j ax n
   unfold q4z at n
   refine qe<|qa<|U J<|U J<|O (.ref 0 4 0 0) J<|O (.ref 0 4 0 0) J<|O (.hs 1 4 0 j.2.length) J<|O (q6 (j.2.length : Int)) J<|O (.d (.bool (decide (j.1 < (j.2.length : Int))))) J<|q9 ?_
   refine qj J n (fun _ n=>?_) (fun _ n=>?_)
   ·refine qk<|qe<|qw<|qt<|U J<|O (.ref 0 4 0 0) J<|O (.ref 0 4 0 0) J<|O (.hs 1 4 0 j.2.length) J<|U J<|U J ?_
    obtain ⟨u,al,n⟩:=q7 n
    refine qn al J J<|O (.ref 1 4 j.1.toNat 2) J<|Qi (ds:=[G a]) ({X0:=u.X0,Y0:=u.Y0,X1:=a,Y1:=u.Y1} : qh) al J J J J J J J J (leb J) J<|qq<|Qa<|qt<|U J<|O (.d (G (w64 (j.1 + 1)))) J<|q8 J<|qq ?_
    exact ⟨_,(Option.some.inj n).symm,wkE [] [] [] J ⟨⟨_,J,.ref J (by decide) (ltd J)⟩,⟨_,J,.d (.refl _)⟩,⟨_,J,.d (.refl _)⟩,trivial⟩ ⟨⟨ltd J,.inr ⟨by decide,_,J,U5 (.cons (Ql (by simp) J (by decide) (ltd J)) J (.cons (.d (.refl _)) J (.cons (.d (.refl _)) J (.cons (.d (.refl _)) J .nil))))⟩⟩,⟨ltd J,.inr ⟨by decide,_,J,.dat _ _⟩⟩,trivial⟩⟩
   refine Q1 ?_
   refine ⟨_,(Option.some.inj n).symm,fun hm=>?_⟩
   subst hm
   exact ⟨_,J,wkA [] [] []⟩
  intro s hb
  subst hb
  refine qa<|U J<|U J<|O (.ref 0 4 0 0) J<|O (.ref 0 4 0 3) J<|qz 0 (.cel 4 [[.hs 1 4 0 s.length,.d (.sl 2 (m.map Qc)),q6 p,q6 a]]) J<|qo ?_
  obtain rfl:=qc f
  exact ⟨.inr J,_,J,wkA [(2,1)] [] []⟩
 refine qk<|qa<|U J<|U J<|U J<|U J<|O (.ref 0 4 0 0) J<|O (.ref 0 4 0 0) J<|O (.hs 1 4 0 b.length) J<|O (q6 (b.length : Int)) J<|U J<|U J<|O (.ref 0 4 0 0) J<|O (.ref 0 4 0 2) J<|qz 0 (.cel 4 [[.hs 1 4 0 b.length,.d (.sl 2 (m.map Qc)),q6 (b.length : Int),q6 l]]) J<|O (.ref 0 4 0 0) J<|O (.ref 0 4 0 1) J<|qz 0 (.cel 4 [[.hs 1 4 0 b.length,.d (.sl 2 (g.map Qc)),q6 (b.length : Int),q6 l]]) J<|O (.ref 0 4 0 0) J<|O (.ref 0 4 0 3) J<|qz 0 (.cel 4 [[.hs 1 4 0 b.length,.d (.sl 2 (g.map Qc)),q6 (b.length : Int),q6 a]]) J<|qp<|U J<|Qg J<|U J<|q9 ?_
 obtain ⟨aq,ar,f⟩:=q7 f
 refine qw<|Q4 (q50 g h a b) (fun (o : Int × List qh)=>⟨[(0,.ref 0 4 0 0),(1,q6 h),(2,q6 a),(71,.d (.sl 2 (g.map Qc))),(72,q6 (g.length : Int)),(73,q6 o.1)],[(0,.cel 4 [[.hs 2 4 0 o.2.length,.d (.sl 2 (g.map Qc)),q6 (b.length : Int),q6 a]]),(2,.dat 4 (o.2.map qs))],3⟩) (0,b) aq ar (wkA [(2,1)] [] []) ?_
 intro o ay k
 unfold q50 at k
 refine qa<|O (.d (.bool (decide (o.1 < (g.length : Int))))) J<|q9<|qe ?_
 refine qj J k (fun _ k=>?_) (fun _ k=>?_)
 ·refine qk<|qe<|qw<|qa ?_
  obtain ⟨c,au,k⟩:=q7 k
  refine Q3 (enc:=Qc) au J<|O (.d (.agg [G c.Lo,G c.Hi])) J<|Qk J J<|qz 3 (.dat 2 [[G c.Lo,G c.Hi]]) J<|q9<|Q2 [Q7 0,q0,q0,(some [2,4],[2,5]),(some [],[4]),q0,qm 3,q0,q0,qm 3,q0,q0,qm 0,q0,q0,q0,q0] (by kernel_rfl)<|U J<|U J<|O (.ref 0 4 0 0) J<|O (.ref 0 4 0 0) J<|O (.hs 2 4 0 o.2.length) J<|U J<|O (.ref 3 2 0 0) J<|O (q6 c.Lo) J<|U J<|O (.ref 3 2 0 1) J<|O (q6 c.Hi) J<|O (.d (.agg [G h,G c.Lo,G a,G c.Hi])) J<|Qe (.hs 4 4 0 [({X0:=h,Y0:=c.Lo,X1:=a,Y1:=c.Hi} : qh)].length) (.dat 4 ([({X0:=h,Y0:=c.Lo,X1:=a,Y1:=c.Hi} : qh)].map qs)) J ?_
  obtain ⟨av,aw,k⟩:=q7 k
  refine Kl (xs:=o.2) (ys:=[({X0:=h,Y0:=c.Lo,X1:=a,Y1:=c.Hi} : qh)]) (enc:=qs) (.hs 4 4 0 [({X0:=h,Y0:=c.Lo,X1:=a,Y1:=c.Hi} : qh)].length) aw J J J J J J J (Ki J J) J J J J<|O (.ref 0 4 0 0) J<|O (.ref 0 4 0 0) J<|qz 0 (.cel 4 [[.hs 5 4 0 av.length,.d (.sl 2 (g.map Qc)),q6 (b.length : Int),q6 a]]) J<|qq<|Qa<|qt<|O (.d (G (w64 (o.1 + 1)))) J<|U J<|qq ?_
  exact ⟨_,(Option.some.inj k).symm,wkA [(2,5)] [] []⟩
 refine Q1 ?_
 refine ⟨_,(Option.some.inj k).symm,fun hm=>?_⟩
 subst hm
 obtain rfl:=qc f
 exact ⟨.inl J,_,J,wkA [(2,2)] [] []⟩
theorem qrv (a : List qh) (r : List qh × Int) (u : q7i a = some r) : Pure Tryz.prog tab 108 [.sl 4 (a.map qs)] (.tup [.sl 4 (r.1.map qs),G r.2]):=by
 unfold q7i at u
 refine Qb Tryz.func108 J (by kernel_rfl) (by kernel_rfl) J<|qa<|q8 J<|q8 J<|qp<|Qk J J<|q9<|qe<|qa<|U J<|Qe (.hs 1 1 0 [a].length) (.dat 1 ([a].map Yy)) J ?_
 obtain ⟨aw,l,u⟩:=q7 u
 refine qd0 [.hs 1 1 0 [a].length] (fun h=>h = aw) (fun (h : List Int)=>⟨[(2,.d (.nilsl)),(3,q6 0),(4,.ref 0 4 0 0),(10,.fn 139 [.ref 1 1 0 0,.ref 2 1 0 0])],[(0,.dat 4 [[.nilsl,.nilsl,G 0,G 0]]),(1,.cel 1 [[.d (.sl 1 (h.map (eI .i64)))]]),(2,.cel 1 [[.hs 3 1 0 [a].length]]),(3,.dat 1 ([a].map Yy))],4⟩) J J Tryz.func130 J (by kernel_rfl) (by kernel_rfl) J ?_ ?_
 ·refine qa<|Qe (.ref 2 1 0 0) (.cel 1 [[.hs 1 1 0 [a].length]]) J<|q8 J<|qp<|Qk J J<|q9<|qe<|qa<|O (.hs 1 1 0 [a].length) J<|O (q6 1) J<|U J<|q9<|qw<|Us<|qa<|O (qf true) J<|q9<|qe<|q53 J<|qk<|qe ?_
  obtain ⟨ax,ac,l⟩:=q7 l
  refine Q9 (fun m=>m = ax) (fun (m : List Int)=>⟨[(1,.ref 2 1 0 0),(3,.ref 3 1 0 0),(8,.hs 1 1 0 [a].length),(9,q6 1),(10,q6 0)],[(0,.dat 4 [[.nilsl,.nilsl,G 0,G 0]]),(1,.dat 1 ([a].map Yy)),(2,.cel 1 [[.hs 1 1 0 [a].length]]),(3,.cel 1 [[.hs 4 1 0 m.length]]),(4,.dat 1 (m.map (eI .i64)))],5⟩) (by simp) ?_ ?_
  ·refine qa ?_
   obtain ⟨ad,am,ac⟩:=q7 ac
   refine qn am J J<|qx (.d (.sl 4 (ad.map qs))) am J<|q8 J<|qp<|U J<|Qg J<|U J<|q9 ?_
   obtain ⟨ay,az,ac⟩:=q7 ac
   refine qw<|Q4 (q1q ad) (fun (w : Int × List Int)=>⟨[(1,.ref 2 1 0 0),(3,.ref 3 1 0 0),(8,.hs 1 1 0 [a].length),(9,q6 1),(10,q6 0),(14,.d (.sl 4 (ad.map qs))),(15,q6 (ad.length : Int)),(16,q6 w.1)],[(0,.dat 4 [[.nilsl,.nilsl,G 0,G 0]]),(1,.dat 1 ([a].map Yy)),(2,.cel 1 [[.hs 1 1 0 [a].length]]),(3,.cel 1 [[.hs 4 1 0 w.2.length]]),(4,.dat 1 (w.2.map (eI .i64)))],5⟩) (0,[]) ay az (wkA [(2,2),(3,3)] [] [4]) ?_
   intro w cc p
   unfold q1q at p
   refine qa<|O (.d (.bool (decide (w.1 < (ad.length : Int))))) J<|q9<|qe ?_
   refine qj J p (fun _ p=>?_) (fun _ p=>?_)
   ·refine qk<|qe<|qw<|qa ?_
    obtain ⟨g,ba,p⟩:=q7 p
    refine Q3 (enc:=qs) ba J<|O (.d (.agg [G g.X0,G g.Y0,G g.X1,G g.Y1])) J<|Qk J J<|qz 5 (.dat 4 [[G g.X0,G g.Y0,G g.X1,G g.Y1]]) J<|q9<|qt<|O (.hs 4 1 0 w.2.length) J<|O (.ref 5 4 0 0) J<|O (q6 g.X0) J<|O (.ref 5 4 0 2) J<|O (q6 g.X1) J<|Qe (.hs 6 1 0 [g.X0,g.X1].length) (.dat 1 ([g.X0,g.X1].map (eI .i64))) J ?_
    obtain ⟨bb,bc,p⟩:=q7 p
    refine Kl (xs:=w.2) (ys:=[g.X0,g.X1]) (enc:=(eI .i64)) (.hs 6 1 0 [g.X0,g.X1].length) bc J J J J J J J (Ki J J) J J J J<|qz 3 (.cel 1 [[.hs 7 1 0 bb.length]]) J<|qq<|Qa<|qt<|O (.d (G (w64 (w.1 + 1)))) J<|U J<|qq ?_
    exact ⟨_,(Option.some.inj p).symm,wkA [(2,2),(3,3),(4,7)] [] []⟩
   refine Q1 ?_
   refine ⟨_,(Option.some.inj p).symm,fun hm=>?_⟩
   subst hm
   obtain rfl:=qc ac
   exact ⟨_,J,wkA [(2,2),(3,3),(4,4)] [] []⟩
  intro m hb
  subst hb
  refine qt<|O (q6 1) J<|U J<|q9<|Us<|qa<|O (qf false) J<|q9<|qe<|U1 J<|Q1<|q29<|qa<|O (.hs 4 1 0 m.length) J ?_
  obtain ⟨ak,bd,l⟩:=q7 l
  obtain ⟨cd,be,l⟩:=q7 l
  have bf:=K3 be
  refine Qr [(0,4)] [(0,1),(1,1),(2,1),(3,1),(4,0)] [.hs 4 1 0 m.length] (.d (.tup [])) 1 [(4,.dat 1 (ak.map (eI .i64))),(0,.dat 4 [[.nilsl,.nilsl,G 0,G 0]]),(1,.dat 1 ([a].map Yy)),(2,.cel 1 [[.hs 1 1 0 [a].length]]),(3,.cel 1 [[.hs 4 1 0 m.length]])] 5 (qjh m ak bd)<|qp<|O (.hs 4 1 0 m.length) J ?_
  obtain ⟨z,bg,l⟩:=q7 l
  obtain ⟨ce,bh,l⟩:=q7 l
  have cf:=K3 bh
  obtain ⟨cg,bi,l⟩:=q7 l
  have bj:=qkk bi
  refine Jx [(0,4)] [(0,1),(1,1),(2,1),(3,1),(4,0)] [.hs 4 1 0 m.length] (.hs 4 1 z.1.1 z.1.2) [(4,.dat 1 (z.2.map (eI .i64)))] [(4,.dat 1 (z.2.map (eI .i64))),(0,.dat 4 [[.nilsl,.nilsl,G 0,G 0]]),(1,.dat 1 ([a].map Yy)),(2,.cel 1 [[.hs 1 1 0 [a].length]]),(3,.cel 1 [[.hs 4 1 0 m.length]])] 5 (qjg ak z bg) J J J (Y6 [(0,4)] [] [] J ⟨⟨_,J,Ql (by simp [bf]) J (by decide) (ltd J)⟩,trivial⟩ ⟨⟨ltd J,.inr ⟨by decide,_,J,.dat _ _⟩⟩,trivial⟩) (Y6 [(0,1),(1,1),(2,1),(3,1),(4,0)] [] [] J ⟨⟨_,J,.hs J (by decide) (ltd J)⟩,trivial⟩ ⟨⟨ltd J,.inr ⟨by decide,_,J,.dat _ _⟩⟩,trivial⟩) J ⟨.inl J,.inr ⟨J,J⟩,.inr ⟨J,J⟩,.inr ⟨J,J⟩,.inr ⟨J,J⟩,trivial⟩<|qz 3 (.cel 1 [[.hs 4 1 z.1.1 z.1.2]]) J<|qp<|O (.fn 139 [.ref 3 1 0 0,.ref 2 1 0 0]) J<|q8 J<|qo ?_
  refine ⟨.inr J,_,J,?_⟩
  obtain rfl:=qc l
  exact ⟨_,J,wkE [(0,0),(1,3),(2,2),(3,1)] [4] [] J ⟨⟨_,J,.d (.refl _)⟩,⟨_,J,.d (.refl _)⟩,⟨_,J,.ref J (by decide) (ltd J)⟩,⟨_,J,(q3v (.cons (.ref J (by decide) (ltd J)) (.cons (.ref J (by decide) (ltd J)) .nil)))⟩,trivial⟩ ⟨⟨ltd J,.inr ⟨by decide,_,J,.dat _ _⟩⟩,⟨ltd J,.inr ⟨by decide,_,J,U5 (.cons (qko bj J (by decide)) J .nil)⟩⟩,⟨ltd J,.inr ⟨by decide,_,J,U5 (.cons (.hs J (by decide) (ltd J)) J .nil)⟩⟩,⟨ltd J,.inr ⟨by decide,_,J,.dat _ _⟩⟩,trivial⟩⟩
 intro h hb
 subst hb
 refine q9<|qw ?_
 obtain ⟨bk,al,u⟩:=q7 u
 refine qdn (fun n=>n = bk) (fun (n : List qi × Int × Int × List qh)=>⟨[(4,.ref 0 4 0 0)],[(0,.cel 4 [[.hs 1 4 0 n.2.2.2.length,.d (.sl 2 (n.1.map Qc)),q6 n.2.1,q6 n.2.2.1]]),(1,.dat 4 (n.2.2.2.map qs))],2⟩) ?_ ?_
 ·refine Ym (st':=⟨[(2,.d (.nilsl)),(3,q6 0),(4,.ref 0 4 0 0),(10,.fn 139 [.ref 1 1 0 0,.ref 2 1 0 0])],[(0,.dat 4 [[.nilsl,.nilsl,G 0,G 0]]),(1,.cel 1 [[.d (.sl 1 (h.map (eI .i64)))]]),(2,.cel 1 [[.hs 3 1 0 [a].length]]),(3,.dat 1 ([a].map Yy))],4⟩) (wkA [(0,0),(1,1),(2,2),(3,3)] [] []) ?_ (by simp)
  refine qdo [.ref 1 1 0 0,.ref 2 1 0 0] (.inl J) Tryz.func139 J (by kernel_rfl) (by kernel_rfl) J ?_
  intro A847 B848 hA847 hB848
  refine qa<|q8 J<|q9 ?_
  obtain ⟨bl,bm,al⟩:=q7 al
  refine qw<|Q4 (q1r h a) (fun (b : Int × List qi × Int × Int × List qh)=>⟨[(0,.yld 4),(1,.ref 1 1 0 0),(2,.ref 2 1 0 0),(4,q6 b.1)],[(0,.cel 4 [[.hs 5 4 0 b.2.2.2.2.length,.d (.sl 2 (b.2.1.map Qc)),q6 b.2.2.1,q6 b.2.2.2.1]]),(1,.cel 1 [[.d (.sl 1 (h.map (eI .i64)))]]),(2,.cel 1 [[.hs 3 1 0 [a].length]]),(3,.dat 1 ([a].map Yy)),(4,.loop [(2,.d (.nilsl)),(3,q6 0),(4,.ref 0 4 0 0),(10,.fn 139 [.ref 1 1 0 0,.ref 2 1 0 0])] [11] A847 B848 .ready none),(5,.dat 4 (b.2.2.2.2.map qs))],6⟩) (1,[],0,0,[]) bl bm (wkA [] [] [5]) ?_
  intro b ch j
  unfold q1r at j
  refine qe<|qa<|U J<|O (.d (.sl 1 (h.map (eI .i64)))) J<|Qg J<|O (.d (.bool (decide (b.1 < (h.length : Int))))) J<|q9 ?_
  refine qj J j (fun _ j=>?_) (fun _ j=>?_)
  ·refine qk<|qe<|qw<|qe<|Q2 [Q7 7,(some [],[7]),q0,(some [],[6]),q0,qm 2,q0,q0,q0,qm 1,q0,q0,q0,q0,qm 1] (by kernel_rfl)<|O (.d (.sl 1 (h.map (eI .i64)))) J<|U J<|O (.d (G (w64 (b.1 - 1)))) J ?_
   obtain ⟨f,bn,j⟩:=q7 j
   refine Q3 (enc:=(eI .i64)) bn J<|O (q6 f) J<|O (.d (.sl 1 (h.map (eI .i64)))) J<|U J ?_
   obtain ⟨k,bo,j⟩:=q7 j
   refine Q3 (enc:=(eI .i64)) bo J<|O (q6 k) J<|O (.hs 3 1 0 [a].length) J<|O (q6 1) J<|Qe (.hs 6 1 0 1) (.dat 1 [[.nilsl]]) J<|O (.agg [q6 f,q6 k,.hs 6 1 0 1]) J<|Qk J J<|qz 7 (.cel 3 [[q6 f,q6 k,.hs 6 1 0 1]]) J<|q9<|qe<|qa<|O (.hs 3 1 0 [a].length) J<|O (q6 1) J<|U J<|q9<|qw<|Us<|qa<|O (qf true) J<|q9<|qe<|q53 J<|qk<|qe ?_
   obtain ⟨bp,ae,j⟩:=q7 j
   refine Q9 (fun s=>s = bp) (fun (s : List qi)=>⟨[(0,.yld 4),(1,.ref 1 1 0 0),(2,.ref 2 1 0 0),(4,q6 b.1),(5,.ref 5 3 0 0),(29,.hs 3 1 0 [a].length),(30,q6 1),(31,q6 0)],[(0,.cel 4 [[.hs 6 4 0 b.2.2.2.2.length,.d (.sl 2 (b.2.1.map Qc)),q6 b.2.2.1,q6 b.2.2.2.1]]),(1,.cel 1 [[.d (.sl 1 (h.map (eI .i64)))]]),(2,.cel 1 [[.hs 3 1 0 [a].length]]),(3,.dat 1 ([a].map Yy)),(4,.loop [(2,.d (.nilsl)),(3,q6 0),(4,.ref 0 4 0 0),(10,.fn 139 [.ref 1 1 0 0,.ref 2 1 0 0])] [11] A847 B848 .ready none),(5,.cel 3 [[q6 f,q6 k,.hs 7 1 0 1]]),(6,.dat 4 (b.2.2.2.2.map qs)),(7,.cel 1 [[.hs 8 2 0 s.length]]),(8,.dat 2 (s.map Qc))],9⟩) (by simp) ?_ ?_
   ·refine qa<|U J ?_
    obtain ⟨aa,an,ae⟩:=q7 ae
    refine qn an J J<|qx (.d (.sl 4 (aa.map qs))) an J<|q8 J<|q8 J<|qp<|U J<|Qg J<|U J<|q9 ?_
    obtain ⟨bq,br,ae⟩:=q7 ae
    refine qw<|Q4 (q35 aa f) (fun (t : Int × List qi)=>⟨[(0,.yld 4),(1,.ref 1 1 0 0),(2,.ref 2 1 0 0),(4,q6 b.1),(5,.ref 5 3 0 0),(6,q6 0),(29,.hs 3 1 0 [a].length),(30,q6 1),(31,q6 0),(36,.d (.sl 4 (aa.map qs))),(37,q6 (aa.length : Int)),(38,q6 t.1)],[(0,.cel 4 [[.hs 6 4 0 b.2.2.2.2.length,.d (.sl 2 (b.2.1.map Qc)),q6 b.2.2.1,q6 b.2.2.2.1]]),(1,.cel 1 [[.d (.sl 1 (h.map (eI .i64)))]]),(2,.cel 1 [[.hs 3 1 0 [a].length]]),(3,.dat 1 ([a].map Yy)),(4,.loop [(2,.d (.nilsl)),(3,q6 0),(4,.ref 0 4 0 0),(10,.fn 139 [.ref 1 1 0 0,.ref 2 1 0 0])] [11] A847 B848 .ready none),(5,.cel 3 [[q6 f,q6 k,.hs 7 1 0 1]]),(6,.dat 4 (b.2.2.2.2.map qs)),(7,.cel 1 [[.hs 8 2 0 t.2.length]]),(8,.dat 2 (t.2.map Qc))],9⟩) (0,[]) bq br (wkA [(5,7),(6,5),(7,6)] [] [8]) ?_
    intro t ci x
    unfold q35 at x
    refine qa<|O (.d (.bool (decide (t.1 < (aa.length : Int))))) J<|q9<|qe ?_
    refine qj J x (fun _ x=>?_) (fun _ x=>?_)
    ·refine qk<|qe ?_
     obtain ⟨bs,o,x⟩:=q7 x
     refine Q9 (fun af=>af = bs) (fun (af : List qi)=>⟨[(0,.yld 4),(1,.ref 1 1 0 0),(2,.ref 2 1 0 0),(4,q6 b.1),(5,.ref 5 3 0 0),(6,q6 0),(29,.hs 3 1 0 [a].length),(30,q6 1),(31,q6 0),(36,.d (.sl 4 (aa.map qs))),(37,q6 (aa.length : Int)),(38,q6 t.1)],[(0,.cel 4 [[.hs 6 4 0 b.2.2.2.2.length,.d (.sl 2 (b.2.1.map Qc)),q6 b.2.2.1,q6 b.2.2.2.1]]),(1,.cel 1 [[.d (.sl 1 (h.map (eI .i64)))]]),(2,.cel 1 [[.hs 3 1 0 [a].length]]),(3,.dat 1 ([a].map Yy)),(4,.loop [(2,.d (.nilsl)),(3,q6 0),(4,.ref 0 4 0 0),(10,.fn 139 [.ref 1 1 0 0,.ref 2 1 0 0])] [11] A847 B848 .ready none),(5,.cel 3 [[q6 f,q6 k,.hs 7 1 0 1]]),(6,.dat 4 (b.2.2.2.2.map qs)),(7,.cel 1 [[.hs 8 2 0 af.length]]),(8,.dat 2 (af.map Qc))],9⟩) (by simp) ?_ ?_
     ·refine qa ?_
      obtain ⟨c,bt,o⟩:=q7 o
      refine Q3 (enc:=qs) bt J<|O (.d (.agg [G c.X0,G c.Y0,G c.X1,G c.Y1])) J<|Qk J J<|qz 9 (.dat 4 [[G c.X0,G c.Y0,G c.X1,G c.Y1]]) J<|qp<|O (.ref 9 4 0 0) J<|O (q6 c.X0) J<|O (.ref 5 3 0 0) J<|O (q6 f) J<|O (.d (.bool (decide (c.X0≤f)))) J ?_
      obtain ⟨bu,ag,o⟩:=q7 o
      refine Q5 7 (fun A st=>∃ (ao ap aq ar au av : V),st = A [(53,qf bu),(52,av),(51,au),(50,ar),(49,aq),(48,ap),(47,ao)]) ?_ ?_
      ·refine Q6 J J ag (fun ag=>?_) (fun ag=>?_)
       ·refine O (.ref 5 3 0 0) J<|O (q6 f) J<|O (.ref 9 4 0 2) J<|O (q6 c.X1) J<|O (.d (.bool (decide (f < c.X1)))) J<|O (.d (.bool (decide (f < c.X1)))) J<|q9 ?_
        obtain rfl:=qc ag
        exact ⟨_,_,_,_,_,_,J⟩
       refine qb J<|qb J<|qb J<|qb J<|qb J<|O (qf false) J<|q9 ?_
       obtain rfl:=qc ag
       exact ⟨_,_,_,_,_,_,J⟩
      rintro _ ⟨ao,ap,aq,ar,au,av,rfl⟩
      refine q9 ?_
      refine qj J o (fun _ o=>?_) (fun _ o=>?_)
      ·refine Q2 [Q7 7,q0,(some [8,10],[8,11]),(some [],[10]),q0,qm 9,q0,qm 9,q0,qm 7,q0,q0,qm 5,q0,q0,qm 5,q0] (by kernel_rfl)<|O (.ref 5 3 0 2) J<|O (.hs 7 1 0 1) J<|U J<|O (.ref 5 3 0 2) J<|O (.hs 7 1 0 1) J<|U J<|O (.ref 7 1 0 0) J<|O (.hs 8 2 0 t.2.length) J<|O (.ref 9 4 0 1) J<|O (q6 c.Y0) J<|O (.ref 9 4 0 3) J<|O (q6 c.Y1) J<|O (.d (.agg [G c.Y0,G c.Y1])) J<|Qe (.hs 10 2 0 [({Lo:=c.Y0,Hi:=c.Y1} : qi)].length) (.dat 2 ([({Lo:=c.Y0,Hi:=c.Y1} : qi)].map Qc)) J ?_
       obtain ⟨bv,bw,o⟩:=q7 o
       refine Kl (xs:=t.2) (ys:=[({Lo:=c.Y0,Hi:=c.Y1} : qi)]) (enc:=Qc) (.hs 10 2 0 [({Lo:=c.Y0,Hi:=c.Y1} : qi)].length) bw J J J J J J J (Ki J J) J J J J<|O (.ref 7 1 0 0) J<|qz 7 (.cel 1 [[.hs 11 2 0 bv.length]]) J<|qq ?_
       obtain rfl:=qc o
       exact ⟨_,J,wkA [(5,5),(6,6),(7,7),(8,11)] [] []⟩
      refine qk<|Q8 ?_
      obtain rfl:=qc o
      exact ⟨_,J,wkA [(5,5),(6,6),(7,7),(8,8)] [] []⟩
     intro af hb
     subst hb
     refine qt<|O (.d (G (w64 (t.1 + 1)))) J<|U J<|qq ?_
     exact ⟨_,(Option.some.inj x).symm,wkA [(5,5),(6,6),(7,7),(8,8)] [] []⟩
    refine Q1 ?_
    refine ⟨_,(Option.some.inj x).symm,fun hm=>?_⟩
    subst hm
    obtain rfl:=qc ae
    exact ⟨_,J,wkA [(5,5),(6,6),(7,7),(8,8)] [] []⟩
   intro s hb
   subst hb
   refine qt<|O (q6 1) J<|U J<|q9<|Us<|qa<|O (qf false) J<|q9<|qe<|U1 J<|Q1<|q29<|qe ?_
   refine Ym (st':=⟨[(0,.yld 4),(1,.ref 1 1 0 0),(2,.ref 2 1 0 0),(4,q6 b.1),(5,.ref 5 3 0 0)],[(0,.cel 4 [[.hs 6 4 0 b.2.2.2.2.length,.d (.sl 2 (b.2.1.map Qc)),q6 b.2.2.1,q6 b.2.2.2.1]]),(1,.cel 1 [[.d (.sl 1 (h.map (eI .i64)))]]),(2,.cel 1 [[.hs 3 1 0 [a].length]]),(3,.dat 1 ([a].map Yy)),(4,.loop [(2,.d (.nilsl)),(3,q6 0),(4,.ref 0 4 0 0),(10,.fn 139 [.ref 1 1 0 0,.ref 2 1 0 0])] [11] A847 B848 .ready none),(5,.cel 3 [[q6 f,q6 k,.hs 7 1 0 1]]),(6,.dat 4 (b.2.2.2.2.map qs)),(7,.cel 1 [[.d (.sl 2 (s.map Qc))]])],8⟩) (wkA [(5,5),(6,6),(7,7)] [8] []) ?_ (by simp)
   refine qt<|U J<|O (.agg [q6 f,q6 k,.hs 7 1 0 1]) J ?_
   obtain ⟨bx,ah,j⟩:=q7 j
   refine qd6 (fun y=>y = bx) (fun (y : List qi × Int × Int × List qh)=>⟨[(0,.yld 4),(1,.ref 1 1 0 0),(2,.ref 2 1 0 0),(4,q6 b.1),(74,qf true)],[(0,.cel 4 [[.hs 5 4 0 y.2.2.2.length,.d (.sl 2 (y.1.map Qc)),q6 y.2.1,q6 y.2.2.1]]),(1,.cel 1 [[.d (.sl 1 (h.map (eI .i64)))]]),(2,.cel 1 [[.hs 3 1 0 [a].length]]),(3,.dat 1 ([a].map Yy)),(4,.loop [(2,.d (.nilsl)),(3,q6 0),(4,.ref 0 4 0 0),(10,.fn 139 [.ref 1 1 0 0,.ref 2 1 0 0])] [11] A847 B848 .ready none),(5,.dat 4 (y.2.2.2.map qs))],6⟩) hA847 hB848 J J J J J J ?_ ?_
   ·refine qt<|Qk J J<|qz 8 (.cel 3 [[q6 f,q6 k,.hs 7 1 0 1]]) J<|qq ?_
    refine ⟨J,_,J,?_⟩
    refine qw<|qa<|O (.ref 8 3 0 2) J<|O (.hs 7 1 0 1) J<|O (.ref 7 1 0 0) J<|O (.d (.sl 2 (s.map Qc))) J ?_
    obtain ⟨ai,bz,ah⟩:=q7 ah
    refine qv (qx8 s ai bz) J<|U J<|O (.d (.sl 2 (ai.1.map Qc))) J<|O (q6 ai.2) J<|q8 J<|q8 J<|q9<|qt<|O (.ref 8 3 0 0) J<|O (q6 f) J<|O (.ref 8 3 0 1) J<|O (q6 k) J<|U J ?_
    obtain ⟨ab,ca,ah⟩:=q7 ah
    refine Qr [(0,0),(1,6)] [(0,0),(1,3),(2,3),(3,3),(4,3),(5,3),(6,1),(7,3),(8,3),(9,2)] [.ref 0 4 0 0,q6 f,q6 k,.d (.sl 2 (ai.1.map Qc))] (.d (.tup [])) 2 [(0,.cel 4 [[.hs 9 4 0 ab.2.2.2.length,.d (.sl 2 (ab.1.map Qc)),q6 ab.2.1,q6 ab.2.2.1]]),(9,.dat 4 (ab.2.2.2.map qs)),(1,.cel 1 [[.d (.sl 1 (h.map (eI .i64)))]]),(2,.cel 1 [[.hs 3 1 0 [a].length]]),(3,.dat 1 ([a].map Yy)),(4,.loop [(2,.d (.nilsl)),(3,q6 0),(4,.ref 0 4 0 0),(10,.fn 139 [.ref 1 1 0 0,.ref 2 1 0 0])] [11] A847 B848 .busy none),(5,.cel 3 [[q6 f,q6 k,.hs 7 1 0 1]]),(7,.cel 1 [[.d (.sl 2 (s.map Qc))]]),(8,.cel 3 [[q6 f,q6 k,.hs 7 1 0 1]])] 10 (qrs b.2.2.2.2 b.2.1 b.2.2.1 b.2.2.2.1 f k ai.1 ab ca)<|qq<|Qa<|Q8 ?_
    refine ⟨_,J,?_⟩
    obtain rfl:=qc ah
    exact ⟨_,J,wkA [(5,9)] [] []⟩
   intro y hb
   subst hb
   refine O (qf false) J<|q9<|U1 J<|qk<|Q8<|Qa<|qt<|U J<|O (.d (G (w64 (b.1 + 1)))) J<|q8 J<|qq ?_
   exact ⟨_,(Option.some.inj j).symm,wkA [(5,5)] [] []⟩
  refine Q1 ?_
  refine ⟨_,(Option.some.inj j).symm,fun hm=>?_⟩
  subst hm
  refine ⟨.inl J,_,J,_,_,.nor,J,by decide,?_⟩
  refine qbh<|Q8 ?_
  obtain rfl:=qc al
  exact ⟨_,J,wkA [(0,0),(1,5)] [] []⟩
 intro n st hb hw
 subst hb
 refine Ym hw ?_ (by simp)
 refine qa ?_
 obtain ⟨cb,aj,u⟩:=q7 u
 refine qd0 [.ref 0 4 0 0] (fun q=>q = cb) (fun (q : Int × List qh)=>⟨[(26,.tup [.hs 0 4 0 q.2.length,q6 q.1])],[(0,.dat 4 (q.2.map qs))],1⟩) J J Tryz.func119 J (by kernel_rfl) (by kernel_rfl) J ?_ ?_
 ·refine qa<|q8 J<|q8 J<|q9<|qe<|qa<|U J<|O (.ref 0 4 0 0) J<|O (.ref 0 4 0 0) J<|O (.hs 1 4 0 n.2.2.2.length) J<|O (q6 (n.2.2.2.length : Int)) J<|O (.d (.bool (decide ((n.2.2.2.length : Int) > 400)))) J<|q9 ?_
  refine qj J aj (fun _ aj=>?_) (fun _ aj=>?_)
  ·refine qa<|q8 J<|q8 J<|qo ?_
   refine ⟨.inr J,_,J,?_⟩
   obtain rfl:=qc aj
   exact ⟨_,J,wkA [] [] [0]⟩
  refine qk<|qa<|U J<|O (.ref 0 4 0 0) J<|O (.ref 0 4 0 0) J<|O (.hs 1 4 0 n.2.2.2.length) J<|q8 J<|q8 J<|qo ?_
  refine ⟨.inr J,_,J,?_⟩
  obtain rfl:=qc aj
  exact ⟨_,J,wkA [(0,1)] [] []⟩
 intro q hb
 subst hb
 refine O (.hs 0 4 0 q.2.length) J<|O (q6 q.1) J<|q8 J<|q8 J<|qo ?_
 obtain rfl:=qc u
 exact finD (.inr J) (v:=.tup [.hs 0 4 0 q.2.length,q6 q.1]) J (qb5 (q1i (Jf J J) (q1i J J))) (.refl _)
theorem qrr (b : List qh) (r : List qh × Int) (a : q4y b = some r) : Pure Tryz.prog tab 83 [.sl 4 (b.map qs)] (.tup [.sl 4 (r.1.map qs),G r.2]):=by
 unfold q4y at a
 refine Qb Tryz.func83 J (by kernel_rfl) (by kernel_rfl) J<|qa<|q8 J<|q8 J<|q9<|qe<|qa<|U J<|Qg J<|O (.d (.bool (decide ((b.length : Int) > 400)))) J<|q9 ?_
 refine qj J a (fun _ a=>?_) (fun _ a=>?_)
 ·refine qa<|q8 J<|q8 J<|qo ?_
  obtain rfl:=qc a
  exact finD (.inr J) (v:=.d (.tup [.nilsl,G 4])) J J (Kx (.cons (.nil _) (.cons (.refl _) .nil)))
 refine qk<|qe<|qa<|U J ?_
 obtain ⟨g,h,a⟩:=q7 a
 refine qv (qtk b (fun f=>q1o f) 114 [] (fun f r hr=>qrp f r hr) g h) J<|q9 ?_
 refine qj J a (fun _ a=>?_) (fun _ a=>?_)
 ·refine qa<|q8 J<|q8 J<|qo ?_
  obtain rfl:=qc a
  exact finD (.inr J) (v:=.d (.tup [.nilsl,G 8])) J J (Kx (.cons (.nil _) (.cons (.refl _) .nil)))
 refine qk<|qa<|U J ?_
 obtain ⟨c,j,a⟩:=q7 a
 refine qv (qrv b c j) J<|O (.d (.sl 4 (c.1.map qs))) J<|O (q6 c.2) J<|q8 J<|q8 J<|qo ?_
 obtain rfl:=qc a
 exact qy (.d (.tup [.sl 4 (c.1.map qs),G c.2])) J
theorem qtn (g : List qh) (h : List qh) (r : Bool) (b : q7s g h = some r) : Pure Tryz.prog tab 109 [.sl 4 (g.map qs),.sl 4 (h.map qs)] (.bool r):=by
 unfold q7s at b
 refine Qb Tryz.func109 J (by kernel_rfl) (by kernel_rfl) J<|qa<|q8 J<|q9<|qe<|qa<|U J<|Qg J<|U J<|Qg J<|O (.d (.bool ((g.length : Int) != (h.length : Int)))) J<|q9 ?_
 refine qj J b (fun _ b=>?_) (fun _ b=>?_)
 ·refine qa<|q8 J<|qo ?_
  obtain rfl:=qc b
  exact qy (qf false) J
 refine qk<|qe<|qa<|U J<|Qg J<|U J<|q9 ?_
 obtain ⟨l,m,b⟩:=q7 b
 refine Q9 (fun k=>.inl k = l) (fun (k : Unit)=>⟨[],[],0⟩) (by simp) ?_ ?_
 ·refine Q4 (qaj g h) (fun (j : Int)=>⟨[(0,.d (.sl 4 (g.map qs))),(1,.d (.sl 4 (h.map qs))),(12,q6 (g.length : Int)),(13,q6 j)],[],0⟩) 0 l m (wkA [] [] []) ?_
  intro j p a
  unfold qaj at a
  refine qa<|O (.d (.bool (decide (j < (g.length : Int))))) J<|q9<|qe ?_
  refine qj J a (fun _ a=>?_) (fun _ a=>?_)
  ·refine qk<|qe<|qw<|qa<|U J<|q8 J<|q9<|qe<|Q2 [q0,q0,q0,q0,q0,q0,q0,q0,q0] (by kernel_rfl)<|U J<|U J ?_
   obtain ⟨c,n,a⟩:=q7 a
   refine Q3 (enc:=qs) n J<|O (.d (.agg [G c.X0,G c.Y0,G c.X1,G c.Y1])) J<|U J<|U J ?_
   obtain ⟨f,o,a⟩:=q7 a
   refine Q3 (enc:=qs) o J<|O (.d (.agg [G f.X0,G f.Y0,G f.X1,G f.Y1])) J<|O (.d (.bool (!((c.X0 == f.X0) && ((c.Y0 == f.Y0) && ((c.X1 == f.X1) && ((c.Y1 == f.Y1) && true))))))) J<|q9 ?_
   refine qj J a (fun _ a=>?_) (fun _ a=>?_)
   ·refine qa<|q8 J<|qo ?_
    refine ⟨_,(Option.some.inj a).symm,fun hm=>?_⟩
    subst hm
    obtain rfl:=qc b
    exact qy (qf false) J
   refine qk<|Q8<|Qa<|qt<|O (.d (G (w64 (j + 1)))) J<|U J<|qq ?_
   exact ⟨_,(Option.some.inj a).symm,wkA [] [] []⟩
  refine Q1 ?_
  refine ⟨_,(Option.some.inj a).symm,fun hm=>?_⟩
  subst hm
  exact ⟨_,J,wkA [] [] []⟩
 intro k hb
 subst hb
 refine qa<|q8 J<|qo ?_
 obtain rfl:=qc b
 exact qy (qf true) J
theorem qwv (c : List qd) (m : List qh) (p : Int) (l : Int) (g : Int) (b : Int) (h : List qh) (r : List qh × Int × Int × List qd) (f : q8r  c m p l g b h = some r) : Qo Tryz.prog tab 84 [.ref 0 4 0 0,q6 g,q6 b,.d (.sl 4 (h.map qs))] [(0,.cel 4 [[.hs 1 6 0 c.length,.d (.sl 4 (m.map qs)),q6 p,q6 l]]),(1,.dat 6 (c.map qr))] 2 (.d (.tup [])) [(0,.cel 4 [[.hs 2 6 0 r.2.2.2.length,.d (.sl 4 (r.1.map qs)),q6 r.2.1,q6 r.2.2.1]]),(2,.dat 6 (r.2.2.2.map qr))] 3:=by
 unfold q8r at f
 refine Qz Tryz.func84 J (by kernel_rfl) (by kernel_rfl) J<|qe<|qa<|U J<|Qg J<|O (.d (.bool (decide ((h.length : Int) > 0)))) J ?_
 obtain ⟨am,t,f⟩:=q7 f
 refine Q5 8 (fun A st=>∃ (v w x y z aa ab : V),st = A [(21,qf am),(20,ab),(19,aa),(18,z),(17,y),(16,x),(15,w),(14,v)]) ?_ ?_
 ·refine Q6 J J t (fun t=>?_) (fun t=>?_)
  ·refine U J<|O (.ref 0 4 0 0) J<|O (.ref 0 4 0 3) J<|O (q6 l) J<|U J<|O (qf (l == g)) J<|O (qf (l == g)) J<|q9 ?_
   obtain rfl:=qc t
   exact ⟨_,_,_,_,_,_,_,J⟩
  refine qb J<|qb J<|qb J<|qb J<|qb J<|qb J<|O (qf false) J<|q9 ?_
  obtain rfl:=qc t
  exact ⟨_,_,_,_,_,_,_,J⟩
 rintro _ ⟨v,w,x,y,z,aa,ab,rfl⟩
 obtain ⟨an,q,f⟩:=q7 f
 refine Q5 8 (fun A st=>∃ (ac ad ae af ag ah ai : V),st = A [(29,qf an),(28,ai),(27,ah),(26,ag),(25,af),(24,ae),(23,ad),(22,ac)]) ?_ ?_
 ·refine Q6 J J q (fun q=>?_) (fun q=>?_)
  ·refine U J<|O (.ref 0 4 0 0) J<|O (.ref 0 4 0 1) J<|O (.d (.sl 4 (m.map qs))) J<|U J ?_
   obtain ⟨aj,ao,q⟩:=q7 q
   refine qv (qtn m h aj ao) J<|O (qf aj) J<|q9 ?_
   obtain rfl:=qc q
   exact ⟨_,_,_,_,_,_,_,J⟩
  refine qb J<|qb J<|qb J<|qb J<|qb J<|qb J<|O (qf false) J<|q9 ?_
  obtain rfl:=qc q
  exact ⟨_,_,_,_,_,_,_,J⟩
 rintro _ ⟨ac,ad,ae,af,ag,ah,ai,rfl⟩
 refine q9 ?_
 refine qj J f (fun _ f=>?_) (fun _ f=>?_)
 ·refine qe<|qa<|U J<|O (.ref 0 4 0 0) J<|O (.ref 0 4 0 2) J<|O (q6 p) J<|q8 J<|q9 ?_
  obtain ⟨ak,ap,f⟩:=q7 f
  refine Q9 (fun s=>s = ak) (fun (s : List qd)=>⟨[(0,.ref 0 4 0 0),(2,q6 b)],[(0,.cel 4 [[.hs 1 6 0 s.length,.d (.sl 4 (m.map qs)),q6 p,q6 l]]),(1,.dat 6 (s.map qr))],2⟩) (by simp) ?_ ?_
  ·refine Q4 (q61 b) (fun (j : Int × List qd)=>⟨[(0,.ref 0 4 0 0),(2,q6 b),(8,q6 j.1)],[(0,.cel 4 [[.hs 1 6 0 j.2.length,.d (.sl 4 (m.map qs)),q6 p,q6 l]]),(1,.dat 6 (j.2.map qr))],2⟩) (p,c) ak ap (wkA [] [] []) ?_
   intro j ax n
   unfold q61 at n
   refine qe<|qa<|U J<|U J<|O (.ref 0 4 0 0) J<|O (.ref 0 4 0 0) J<|O (.hs 1 6 0 j.2.length) J<|O (q6 (j.2.length : Int)) J<|O (.d (.bool (decide (j.1 < (j.2.length : Int))))) J<|q9 ?_
   refine qj J n (fun _ n=>?_) (fun _ n=>?_)
   ·refine qk<|qe<|qw<|qt<|U J<|O (.ref 0 4 0 0) J<|O (.ref 0 4 0 0) J<|O (.hs 1 6 0 j.2.length) J<|U J<|U J ?_
    obtain ⟨u,al,n⟩:=q7 n
    refine qn al J J<|O (.ref 1 6 j.1.toNat 3) J<|O (.ref 1 6 j.1.toNat 5) J<|Qi (ds:=[G b]) ({Lo:=u.Lo,Hi:=({X:=u.Hi.X,Y:=u.Hi.Y,Z:=b} : ql)} : qd) al J J J J J J J J (leb J) J<|qq<|Qa<|qt<|U J<|O (.d (G (w64 (j.1 + 1)))) J<|q8 J<|qq ?_
    exact ⟨_,(Option.some.inj n).symm,wkE [] [] [] J ⟨⟨_,J,.ref J (by decide) (ltd J)⟩,⟨_,J,.d (.refl _)⟩,⟨_,J,.d (.refl _)⟩,trivial⟩ ⟨⟨ltd J,.inr ⟨by decide,_,J,U5 (.cons (Ql (by simp) J (by decide) (ltd J)) J (.cons (.d (.refl _)) J (.cons (.d (.refl _)) J (.cons (.d (.refl _)) J .nil))))⟩⟩,⟨ltd J,.inr ⟨by decide,_,J,.dat _ _⟩⟩,trivial⟩⟩
   refine Q1 ?_
   refine ⟨_,(Option.some.inj n).symm,fun hm=>?_⟩
   subst hm
   exact ⟨_,J,wkA [] [] []⟩
  intro s hb
  subst hb
  refine qa<|U J<|U J<|O (.ref 0 4 0 0) J<|O (.ref 0 4 0 3) J<|qz 0 (.cel 4 [[.hs 1 6 0 s.length,.d (.sl 4 (m.map qs)),q6 p,q6 b]]) J<|qo ?_
  obtain rfl:=qc f
  exact ⟨.inr J,_,J,wkA [(2,1)] [] []⟩
 refine qk<|qa<|U J<|U J<|U J<|U J<|O (.ref 0 4 0 0) J<|O (.ref 0 4 0 0) J<|O (.hs 1 6 0 c.length) J<|O (q6 (c.length : Int)) J<|U J<|U J<|O (.ref 0 4 0 0) J<|O (.ref 0 4 0 2) J<|qz 0 (.cel 4 [[.hs 1 6 0 c.length,.d (.sl 4 (m.map qs)),q6 (c.length : Int),q6 l]]) J<|O (.ref 0 4 0 0) J<|O (.ref 0 4 0 1) J<|qz 0 (.cel 4 [[.hs 1 6 0 c.length,.d (.sl 4 (h.map qs)),q6 (c.length : Int),q6 l]]) J<|O (.ref 0 4 0 0) J<|O (.ref 0 4 0 3) J<|qz 0 (.cel 4 [[.hs 1 6 0 c.length,.d (.sl 4 (h.map qs)),q6 (c.length : Int),q6 b]]) J<|qp<|U J<|Qg J<|U J<|q9 ?_
 obtain ⟨aq,ar,f⟩:=q7 f
 refine qw<|Q4 (q62 h g b c) (fun (o : Int × List qd)=>⟨[(0,.ref 0 4 0 0),(1,q6 g),(2,q6 b),(72,.d (.sl 4 (h.map qs))),(73,q6 (h.length : Int)),(74,q6 o.1)],[(0,.cel 4 [[.hs 2 6 0 o.2.length,.d (.sl 4 (h.map qs)),q6 (c.length : Int),q6 b]]),(2,.dat 6 (o.2.map qr))],3⟩) (0,c) aq ar (wkA [(2,1)] [] []) ?_
 intro o ay k
 unfold q62 at k
 refine qa<|O (.d (.bool (decide (o.1 < (h.length : Int))))) J<|q9<|qe ?_
 refine qj J k (fun _ k=>?_) (fun _ k=>?_)
 ·refine qk<|qe<|qw<|qa ?_
  obtain ⟨a,au,k⟩:=q7 k
  refine Q3 (enc:=qs) au J<|O (.d (.agg [G a.X0,G a.Y0,G a.X1,G a.Y1])) J<|Qk J J<|qz 3 (.dat 4 [[G a.X0,G a.Y0,G a.X1,G a.Y1]]) J<|q9<|Q2 [Q7 0,q0,q0,(some [2,4],[2,5]),(some [],[4]),q0,q0,q0,qm 3,q0,qm 3,q0,q0,q0,qm 3,q0,qm 3,q0,qm 0,q0,q0,q0,q0] (by kernel_rfl)<|U J<|U J<|O (.ref 0 4 0 0) J<|O (.ref 0 4 0 0) J<|O (.hs 2 6 0 o.2.length) J<|O (.ref 3 4 0 0) J<|O (q6 a.X0) J<|O (.ref 3 4 0 1) J<|O (q6 a.Y0) J<|U J<|O (.d (.agg [G a.X0,G a.Y0,G g])) J<|O (.ref 3 4 0 2) J<|O (q6 a.X1) J<|O (.ref 3 4 0 3) J<|O (q6 a.Y1) J<|U J<|O (.d (.agg [G a.X1,G a.Y1,G b])) J<|O (.d (.agg [G a.X0,G a.Y0,G g,G a.X1,G a.Y1,G b])) J<|Qe (.hs 4 6 0 [({Lo:=({X:=a.X0,Y:=a.Y0,Z:=g} : ql),Hi:=({X:=a.X1,Y:=a.Y1,Z:=b} : ql)} : qd)].length) (.dat 6 ([({Lo:=({X:=a.X0,Y:=a.Y0,Z:=g} : ql),Hi:=({X:=a.X1,Y:=a.Y1,Z:=b} : ql)} : qd)].map qr)) J ?_
  obtain ⟨av,aw,k⟩:=q7 k
  refine Kl (xs:=o.2) (ys:=[({Lo:=({X:=a.X0,Y:=a.Y0,Z:=g} : ql),Hi:=({X:=a.X1,Y:=a.Y1,Z:=b} : ql)} : qd)]) (enc:=qr) (.hs 4 6 0 [({Lo:=({X:=a.X0,Y:=a.Y0,Z:=g} : ql),Hi:=({X:=a.X1,Y:=a.Y1,Z:=b} : ql)} : qd)].length) aw J J J J J J J (Ki J J) J J J J<|O (.ref 0 4 0 0) J<|O (.ref 0 4 0 0) J<|qz 0 (.cel 4 [[.hs 5 6 0 av.length,.d (.sl 4 (h.map qs)),q6 (c.length : Int),q6 b]]) J<|qq<|Qa<|qt<|O (.d (G (w64 (o.1 + 1)))) J<|U J<|qq ?_
  exact ⟨_,(Option.some.inj k).symm,wkA [(2,5)] [] []⟩
 refine Q1 ?_
 refine ⟨_,(Option.some.inj k).symm,fun hm=>?_⟩
 subst hm
 obtain rfl:=qc f
 exact ⟨.inl J,_,J,wkA [(2,2)] [] []⟩
theorem qju (c : List qd) (r : List qd × Int) (o : q65 c = some r) : Pure Tryz.prog tab 53 [.agg [.nilf],.sl 1 ([c].map K9)] (.tup [.sl 6 (r.1.map qr),G r.2]):=by
 unfold q65 at o
 refine Qb Tryz.func53 J (by kernel_rfl) (by kernel_rfl) J<|qa<|Qe (.ref 0 1 0 0) (.dat 1 [[.nilf]]) J<|Qk J J<|Qk J J<|qp<|Qk J J<|q9<|qe<|qa<|U J ?_
 obtain ⟨ar,m,o⟩:=q7 o
 refine qd0 [.d (.sl 1 ([c].map K9))] (fun h=>h = ar) (fun (h : List Int)=>⟨[(2,.ref 0 1 0 0),(4,.ref 1 1 0 0),(5,.ref 2 1 0 0),(6,.ref 3 4 0 0),(14,.fn 112 [.ref 4 1 0 0,.ref 5 1 0 0])],[(0,.dat 1 [[.nilf]]),(1,.dat 1 [[.nilsl]]),(2,.dat 1 [[G 0]]),(3,.dat 4 [[.nilsl,.nilsl,G 0,G 0]]),(4,.cel 1 [[.d (.sl 1 (h.map (eI .i64)))]]),(5,.dat 1 [[.sl 1 ([c].map K9)]])],6⟩) J J Tryz.func82 J (by kernel_rfl) (by kernel_rfl) J ?_ ?_
 ·refine qa<|Qe (.ref 4 1 0 0) (.dat 1 [[.sl 1 ([c].map K9)]]) J<|q8 J<|qp<|Qk J J<|q9<|qe<|qa<|O (.d (.sl 1 ([c].map K9))) J<|qd3 1 J J J J J<|U J<|q9<|qw<|Us<|qa<|O (qf true) J<|q9<|qe<|q53 J<|qk<|qe ?_
  obtain ⟨au,ad,m⟩:=q7 m
  refine Q9 (fun n=>n = au) (fun (n : List Int)=>⟨[(1,.ref 4 1 0 0),(3,.ref 5 1 0 0),(8,.d (.sl 1 ([c].map K9))),(9,q6 1),(10,q6 0)],[(0,.dat 1 [[.nilf]]),(1,.dat 1 [[.nilsl]]),(2,.dat 1 [[G 0]]),(3,.dat 4 [[.nilsl,.nilsl,G 0,G 0]]),(4,.dat 1 [[.sl 1 ([c].map K9)]]),(5,.cel 1 [[.hs 6 1 0 n.length]]),(6,.dat 1 (n.map (eI .i64)))],7⟩) (by simp) ?_ ?_
  ·refine qa ?_
   obtain ⟨ae,av,ad⟩:=q7 ad
   refine Q3 (enc:=K9) av J<|O (.d (.sl 6 (ae.map qr))) J<|q8 J<|qp<|U J<|Qg J<|U J<|q9 ?_
   obtain ⟨aw,ax,ad⟩:=q7 ad
   refine qw<|Q4 (q3n ae) (fun (w : Int × List Int)=>⟨[(1,.ref 4 1 0 0),(3,.ref 5 1 0 0),(8,.d (.sl 1 ([c].map K9))),(9,q6 1),(10,q6 0),(14,.d (.sl 6 (ae.map qr))),(15,q6 (ae.length : Int)),(16,q6 w.1)],[(0,.dat 1 [[.nilf]]),(1,.dat 1 [[.nilsl]]),(2,.dat 1 [[G 0]]),(3,.dat 4 [[.nilsl,.nilsl,G 0,G 0]]),(4,.dat 1 [[.sl 1 ([c].map K9)]]),(5,.cel 1 [[.hs 6 1 0 w.2.length]]),(6,.dat 1 (w.2.map (eI .i64)))],7⟩) (0,[]) aw ax (wkA [(4,4),(5,5)] [] [6]) ?_
   intro w ca q
   unfold q3n at q
   refine qa<|O (.d (.bool (decide (w.1 < (ae.length : Int))))) J<|q9<|qe ?_
   refine qj J q (fun _ q=>?_) (fun _ q=>?_)
   ·refine qk<|qe<|qw<|qa ?_
    obtain ⟨f,ay,q⟩:=q7 q
    refine Q3 (enc:=qr) ay J<|O (.d (.agg [G f.Lo.X,G f.Lo.Y,G f.Lo.Z,G f.Hi.X,G f.Hi.Y,G f.Hi.Z])) J<|Qk J J<|qz 7 (.dat 6 [[G f.Lo.X,G f.Lo.Y,G f.Lo.Z,G f.Hi.X,G f.Hi.Y,G f.Hi.Z]]) J<|q9<|qt<|O (.hs 6 1 0 w.2.length) J<|O (.ref 7 6 0 0) J<|O (.ref 7 6 0 2) J<|O (q6 f.Lo.Z) J<|O (.ref 7 6 0 3) J<|O (.ref 7 6 0 5) J<|O (q6 f.Hi.Z) J<|Qe (.hs 8 1 0 [f.Lo.Z,f.Hi.Z].length) (.dat 1 ([f.Lo.Z,f.Hi.Z].map (eI .i64))) J ?_
    obtain ⟨az,ba,q⟩:=q7 q
    refine Kl (xs:=w.2) (ys:=[f.Lo.Z,f.Hi.Z]) (enc:=(eI .i64)) (.hs 8 1 0 [f.Lo.Z,f.Hi.Z].length) ba J J J J J J J (Ki J J) J J J J<|qz 5 (.cel 1 [[.hs 9 1 0 az.length]]) J<|qq<|Qa<|qt<|O (.d (G (w64 (w.1 + 1)))) J<|U J<|qq ?_
    exact ⟨_,(Option.some.inj q).symm,wkA [(4,4),(5,5),(6,9)] [] []⟩
   refine Q1 ?_
   refine ⟨_,(Option.some.inj q).symm,fun hm=>?_⟩
   subst hm
   obtain rfl:=qc ad
   exact ⟨_,J,wkA [(4,4),(5,5),(6,6)] [] []⟩
  intro n hb
  subst hb
  refine qt<|O (q6 1) J<|U J<|q9<|Us<|qa<|O (qf false) J<|q9<|qe<|U1 J<|Q1<|q29<|qa<|O (.hs 6 1 0 n.length) J ?_
  obtain ⟨aj,bb,m⟩:=q7 m
  obtain ⟨cb,bc,m⟩:=q7 m
  have bd:=K3 bc
  refine Qr [(0,6)] [(0,1),(1,1),(2,1),(3,1),(4,1),(5,1),(6,0)] [.hs 6 1 0 n.length] (.d (.tup [])) 1 [(6,.dat 1 (aj.map (eI .i64))),(0,.dat 1 [[.nilf]]),(1,.dat 1 [[.nilsl]]),(2,.dat 1 [[G 0]]),(3,.dat 4 [[.nilsl,.nilsl,G 0,G 0]]),(4,.dat 1 [[.sl 1 ([c].map K9)]]),(5,.cel 1 [[.hs 6 1 0 n.length]])] 7 (qjh n aj bb)<|qp<|O (.hs 6 1 0 n.length) J ?_
  obtain ⟨aa,be,m⟩:=q7 m
  obtain ⟨cc,bf,m⟩:=q7 m
  have cd:=K3 bf
  obtain ⟨ce,bg,m⟩:=q7 m
  have bh:=qkk bg
  refine Jx [(0,6)] [(0,1),(1,1),(2,1),(3,1),(4,1),(5,1),(6,0)] [.hs 6 1 0 n.length] (.hs 6 1 aa.1.1 aa.1.2) [(6,.dat 1 (aa.2.map (eI .i64)))] [(6,.dat 1 (aa.2.map (eI .i64))),(0,.dat 1 [[.nilf]]),(1,.dat 1 [[.nilsl]]),(2,.dat 1 [[G 0]]),(3,.dat 4 [[.nilsl,.nilsl,G 0,G 0]]),(4,.dat 1 [[.sl 1 ([c].map K9)]]),(5,.cel 1 [[.hs 6 1 0 n.length]])] 7 (qjg aj aa be) J J J (Y6 [(0,6)] [] [] J ⟨⟨_,J,Ql (by simp [bd]) J (by decide) (ltd J)⟩,trivial⟩ ⟨⟨ltd J,.inr ⟨by decide,_,J,.dat _ _⟩⟩,trivial⟩) (Y6 [(0,1),(1,1),(2,1),(3,1),(4,1),(5,1),(6,0)] [] [] J ⟨⟨_,J,.hs J (by decide) (ltd J)⟩,trivial⟩ ⟨⟨ltd J,.inr ⟨by decide,_,J,.dat _ _⟩⟩,trivial⟩) J ⟨.inl J,.inr ⟨J,J⟩,.inr ⟨J,J⟩,.inr ⟨J,J⟩,.inr ⟨J,J⟩,.inr ⟨J,J⟩,.inr ⟨J,J⟩,trivial⟩<|qz 5 (.cel 1 [[.hs 6 1 aa.1.1 aa.1.2]]) J<|qp<|O (.fn 112 [.ref 5 1 0 0,.ref 4 1 0 0]) J<|q8 J<|qo ?_
  refine ⟨.inr J,_,J,?_⟩
  obtain rfl:=qc m
  exact ⟨_,J,wkE [(0,0),(1,1),(2,2),(3,3),(4,5),(5,4)] [6] [] J ⟨⟨_,J,.ref J (by decide) (ltd J)⟩,⟨_,J,.ref J (by decide) (ltd J)⟩,⟨_,J,.ref J (by decide) (ltd J)⟩,⟨_,J,.ref J (by decide) (ltd J)⟩,⟨_,J,(q3v (.cons (.ref J (by decide) (ltd J)) (.cons (.ref J (by decide) (ltd J)) .nil)))⟩,trivial⟩ ⟨⟨ltd J,.inr ⟨by decide,_,J,.dat _ _⟩⟩,⟨ltd J,.inr ⟨by decide,_,J,.dat _ _⟩⟩,⟨ltd J,.inr ⟨by decide,_,J,.dat _ _⟩⟩,⟨ltd J,.inr ⟨by decide,_,J,.dat _ _⟩⟩,⟨ltd J,.inr ⟨by decide,_,J,U5 (.cons (qko bh J (by decide)) J .nil)⟩⟩,⟨ltd J,.inr ⟨by decide,_,J,.dat _ _⟩⟩,trivial⟩⟩
 intro h hb
 subst hb
 refine q9<|qw ?_
 obtain ⟨bi,ai,o⟩:=q7 o
 refine qdn (fun k=>.inl k = bi) (fun (k : List qh × Int × Int × List qd)=>⟨[(4,.ref 0 1 0 0),(5,.ref 1 1 0 0),(6,.ref 2 4 0 0)],[(0,.dat 1 [[.nilsl]]),(1,.dat 1 [[G 0]]),(2,.cel 4 [[.hs 3 6 0 k.2.2.2.length,.d (.sl 4 (k.1.map qs)),q6 k.2.1,q6 k.2.2.1]]),(3,.dat 6 (k.2.2.2.map qr))],4⟩) ?_ ?_
 ·refine Ym (st':=⟨[(2,.ref 0 1 0 0),(4,.ref 1 1 0 0),(5,.ref 2 1 0 0),(6,.ref 3 4 0 0),(14,.fn 112 [.ref 4 1 0 0,.ref 5 1 0 0])],[(0,.dat 1 [[.nilf]]),(1,.dat 1 [[.nilsl]]),(2,.dat 1 [[G 0]]),(3,.dat 4 [[.nilsl,.nilsl,G 0,G 0]]),(4,.cel 1 [[.d (.sl 1 (h.map (eI .i64)))]]),(5,.dat 1 [[.sl 1 ([c].map K9)]])],6⟩) (wkA [(0,0),(1,1),(2,2),(3,3),(4,4),(5,5)] [] []) ?_ (by simp)
  refine qdo [.ref 4 1 0 0,.ref 5 1 0 0] (.inl J) Tryz.func112 J (by kernel_rfl) (by kernel_rfl) J ?_
  intro A879 B880 hA879 hB880
  refine qa<|q8 J<|q9 ?_
  obtain ⟨bj,bk,ai⟩:=q7 ai
  refine qw<|Q4 (q3o h c) (fun (b : Int × List qh × Int × Int × List qd)=>⟨[(0,.yld 6),(1,.ref 4 1 0 0),(2,.ref 5 1 0 0),(4,q6 b.1)],[(0,.dat 1 [[.nilf]]),(1,.dat 1 [[.nilsl]]),(2,.dat 1 [[G 0]]),(3,.cel 4 [[.hs 7 6 0 b.2.2.2.2.length,.d (.sl 4 (b.2.1.map qs)),q6 b.2.2.1,q6 b.2.2.2.1]]),(4,.cel 1 [[.d (.sl 1 (h.map (eI .i64)))]]),(5,.dat 1 [[.sl 1 ([c].map K9)]]),(6,.loop [(2,.ref 0 1 0 0),(4,.ref 1 1 0 0),(5,.ref 2 1 0 0),(6,.ref 3 4 0 0),(14,.fn 112 [.ref 4 1 0 0,.ref 5 1 0 0])] [15] A879 B880 .ready none),(7,.dat 6 (b.2.2.2.2.map qr))],8⟩) (1,[],0,0,[]) bj bk (wkA [] [] [7]) ?_
  intro b cf j
  unfold q3o at j
  refine qe<|qa<|U J<|O (.d (.sl 1 (h.map (eI .i64)))) J<|Qg J<|O (.d (.bool (decide (b.1 < (h.length : Int))))) J<|q9 ?_
  refine qj J j (fun _ j=>?_) (fun _ j=>?_)
  ·refine qk<|qe<|qw<|qe<|Q2 [Q7 9,(some [],[9]),q0,(some [],[8]),q0,qm 5,q0,q0,q0,qm 4,q0,q0,q0,q0,qm 4] (by kernel_rfl)<|O (.d (.sl 1 (h.map (eI .i64)))) J<|U J<|O (.d (G (w64 (b.1 - 1)))) J ?_
   obtain ⟨g,bl,j⟩:=q7 j
   refine Q3 (enc:=(eI .i64)) bl J<|O (q6 g) J<|O (.d (.sl 1 (h.map (eI .i64)))) J<|U J ?_
   obtain ⟨l,bm,j⟩:=q7 j
   refine Q3 (enc:=(eI .i64)) bm J<|O (q6 l) J<|O (.d (.sl 1 ([c].map K9))) J<|qd3 1 J J J J J<|Qe (.hs 8 1 0 1) (.dat 1 [[.nilsl]]) J<|O (.agg [q6 g,q6 l,.hs 8 1 0 1]) J<|Qk J J<|qz 9 (.cel 3 [[q6 g,q6 l,.hs 8 1 0 1]]) J<|q9<|qe<|qa<|O (.d (.sl 1 ([c].map K9))) J<|qd3 1 J J J J J<|U J<|q9<|qw<|Us<|qa<|O (qf true) J<|q9<|qe<|q53 J<|qk<|qe ?_
   obtain ⟨bn,af,j⟩:=q7 j
   refine Q9 (fun s=>s = bn) (fun (s : List qh)=>⟨[(0,.yld 6),(1,.ref 4 1 0 0),(2,.ref 5 1 0 0),(4,q6 b.1),(5,.ref 7 3 0 0),(29,.d (.sl 1 ([c].map K9))),(30,q6 1),(31,q6 0)],[(0,.dat 1 [[.nilf]]),(1,.dat 1 [[.nilsl]]),(2,.dat 1 [[G 0]]),(3,.cel 4 [[.hs 8 6 0 b.2.2.2.2.length,.d (.sl 4 (b.2.1.map qs)),q6 b.2.2.1,q6 b.2.2.2.1]]),(4,.cel 1 [[.d (.sl 1 (h.map (eI .i64)))]]),(5,.dat 1 [[.sl 1 ([c].map K9)]]),(6,.loop [(2,.ref 0 1 0 0),(4,.ref 1 1 0 0),(5,.ref 2 1 0 0),(6,.ref 3 4 0 0),(14,.fn 112 [.ref 4 1 0 0,.ref 5 1 0 0])] [15] A879 B880 .ready none),(7,.cel 3 [[q6 g,q6 l,.hs 9 1 0 1]]),(8,.dat 6 (b.2.2.2.2.map qr)),(9,.cel 1 [[.hs 10 4 0 s.length]]),(10,.dat 4 (s.map qs))],11⟩) (by simp) ?_ ?_
   ·refine qa<|U J ?_
    obtain ⟨ab,bo,af⟩:=q7 af
    refine Q3 (enc:=K9) bo J<|O (.d (.sl 6 (ab.map qr))) J<|q8 J<|q8 J<|qp<|U J<|Qg J<|U J<|q9 ?_
    obtain ⟨bp,bq,af⟩:=q7 af
    refine qw<|Q4 (q22 ab g) (fun (t : Int × List qh)=>⟨[(0,.yld 6),(1,.ref 4 1 0 0),(2,.ref 5 1 0 0),(4,q6 b.1),(5,.ref 7 3 0 0),(6,q6 0),(29,.d (.sl 1 ([c].map K9))),(30,q6 1),(31,q6 0),(36,.d (.sl 6 (ab.map qr))),(37,q6 (ab.length : Int)),(38,q6 t.1)],[(0,.dat 1 [[.nilf]]),(1,.dat 1 [[.nilsl]]),(2,.dat 1 [[G 0]]),(3,.cel 4 [[.hs 8 6 0 b.2.2.2.2.length,.d (.sl 4 (b.2.1.map qs)),q6 b.2.2.1,q6 b.2.2.2.1]]),(4,.cel 1 [[.d (.sl 1 (h.map (eI .i64)))]]),(5,.dat 1 [[.sl 1 ([c].map K9)]]),(6,.loop [(2,.ref 0 1 0 0),(4,.ref 1 1 0 0),(5,.ref 2 1 0 0),(6,.ref 3 4 0 0),(14,.fn 112 [.ref 4 1 0 0,.ref 5 1 0 0])] [15] A879 B880 .ready none),(7,.cel 3 [[q6 g,q6 l,.hs 9 1 0 1]]),(8,.dat 6 (b.2.2.2.2.map qr)),(9,.cel 1 [[.hs 10 4 0 t.2.length]]),(10,.dat 4 (t.2.map qs))],11⟩) (0,[]) bp bq (wkA [(7,9),(8,7),(9,8)] [] [10]) ?_
    intro t cg x
    unfold q22 at x
    refine qa<|O (.d (.bool (decide (t.1 < (ab.length : Int))))) J<|q9<|qe ?_
    refine qj J x (fun _ x=>?_) (fun _ x=>?_)
    ·refine qk<|qe ?_
     obtain ⟨br,p,x⟩:=q7 x
     refine Q9 (fun ag=>ag = br) (fun (ag : List qh)=>⟨[(0,.yld 6),(1,.ref 4 1 0 0),(2,.ref 5 1 0 0),(4,q6 b.1),(5,.ref 7 3 0 0),(6,q6 0),(29,.d (.sl 1 ([c].map K9))),(30,q6 1),(31,q6 0),(36,.d (.sl 6 (ab.map qr))),(37,q6 (ab.length : Int)),(38,q6 t.1)],[(0,.dat 1 [[.nilf]]),(1,.dat 1 [[.nilsl]]),(2,.dat 1 [[G 0]]),(3,.cel 4 [[.hs 8 6 0 b.2.2.2.2.length,.d (.sl 4 (b.2.1.map qs)),q6 b.2.2.1,q6 b.2.2.2.1]]),(4,.cel 1 [[.d (.sl 1 (h.map (eI .i64)))]]),(5,.dat 1 [[.sl 1 ([c].map K9)]]),(6,.loop [(2,.ref 0 1 0 0),(4,.ref 1 1 0 0),(5,.ref 2 1 0 0),(6,.ref 3 4 0 0),(14,.fn 112 [.ref 4 1 0 0,.ref 5 1 0 0])] [15] A879 B880 .ready none),(7,.cel 3 [[q6 g,q6 l,.hs 9 1 0 1]]),(8,.dat 6 (b.2.2.2.2.map qr)),(9,.cel 1 [[.hs 10 4 0 ag.length]]),(10,.dat 4 (ag.map qs))],11⟩) (by simp) ?_ ?_
     ·refine qa ?_
      obtain ⟨a,bs,p⟩:=q7 p
      refine Q3 (enc:=qr) bs J<|O (.d (.agg [G a.Lo.X,G a.Lo.Y,G a.Lo.Z,G a.Hi.X,G a.Hi.Y,G a.Hi.Z])) J<|Qk J J<|qz 11 (.dat 6 [[G a.Lo.X,G a.Lo.Y,G a.Lo.Z,G a.Hi.X,G a.Hi.Y,G a.Hi.Z]]) J<|qp<|O (.ref 11 6 0 0) J<|O (.ref 11 6 0 2) J<|O (q6 a.Lo.Z) J<|O (.ref 7 3 0 0) J<|O (q6 g) J<|O (.d (.bool (decide (a.Lo.Z≤g)))) J ?_
      obtain ⟨bt,ah,p⟩:=q7 p
      refine Q5 8 (fun A st=>∃ (ak al am an ao ap aq : V),st = A [(55,qf bt),(54,aq),(53,ap),(52,ao),(51,an),(50,am),(49,al),(48,ak)]) ?_ ?_
      ·refine Q6 J J ah (fun ah=>?_) (fun ah=>?_)
       ·refine O (.ref 7 3 0 0) J<|O (q6 g) J<|O (.ref 11 6 0 3) J<|O (.ref 11 6 0 5) J<|O (q6 a.Hi.Z) J<|O (.d (.bool (decide (g < a.Hi.Z)))) J<|O (.d (.bool (decide (g < a.Hi.Z)))) J<|q9 ?_
        obtain rfl:=qc ah
        exact ⟨_,_,_,_,_,_,_,J⟩
       refine qb J<|qb J<|qb J<|qb J<|qb J<|qb J<|O (qf false) J<|q9 ?_
       obtain rfl:=qc ah
       exact ⟨_,_,_,_,_,_,_,J⟩
      rintro _ ⟨ak,al,am,an,ao,ap,aq,rfl⟩
      refine q9 ?_
      refine qj J p (fun _ p=>?_) (fun _ p=>?_)
      ·refine Q2 [Q7 9,q0,(some [10,12],[10,13]),(some [],[12]),q0,qm 11,q0,q0,qm 11,q0,q0,qm 11,q0,q0,qm 11,q0,q0,qm 9,q0,q0,qm 7,q0,q0,qm 7,q0] (by kernel_rfl)<|O (.ref 7 3 0 2) J<|O (.hs 9 1 0 1) J<|U J<|O (.ref 7 3 0 2) J<|O (.hs 9 1 0 1) J<|U J<|O (.ref 9 1 0 0) J<|O (.hs 10 4 0 t.2.length) J<|O (.ref 11 6 0 0) J<|O (.ref 11 6 0 0) J<|O (q6 a.Lo.X) J<|O (.ref 11 6 0 0) J<|O (.ref 11 6 0 1) J<|O (q6 a.Lo.Y) J<|O (.ref 11 6 0 3) J<|O (.ref 11 6 0 3) J<|O (q6 a.Hi.X) J<|O (.ref 11 6 0 3) J<|O (.ref 11 6 0 4) J<|O (q6 a.Hi.Y) J<|O (.d (.agg [G a.Lo.X,G a.Lo.Y,G a.Hi.X,G a.Hi.Y])) J<|Qe (.hs 12 4 0 [({X0:=a.Lo.X,Y0:=a.Lo.Y,X1:=a.Hi.X,Y1:=a.Hi.Y} : qh)].length) (.dat 4 ([({X0:=a.Lo.X,Y0:=a.Lo.Y,X1:=a.Hi.X,Y1:=a.Hi.Y} : qh)].map qs)) J ?_
       obtain ⟨bu,bv,p⟩:=q7 p
       refine Kl (xs:=t.2) (ys:=[({X0:=a.Lo.X,Y0:=a.Lo.Y,X1:=a.Hi.X,Y1:=a.Hi.Y} : qh)]) (enc:=qs) (.hs 12 4 0 [({X0:=a.Lo.X,Y0:=a.Lo.Y,X1:=a.Hi.X,Y1:=a.Hi.Y} : qh)].length) bv J J J J J J J (Ki J J) J J J J<|O (.ref 9 1 0 0) J<|qz 9 (.cel 1 [[.hs 13 4 0 bu.length]]) J<|qq ?_
       obtain rfl:=qc p
       exact ⟨_,J,wkA [(7,7),(8,8),(9,9),(10,13)] [] []⟩
      refine qk<|Q8 ?_
      obtain rfl:=qc p
      exact ⟨_,J,wkA [(7,7),(8,8),(9,9),(10,10)] [] []⟩
     intro ag hb
     subst hb
     refine qt<|O (.d (G (w64 (t.1 + 1)))) J<|U J<|qq ?_
     exact ⟨_,(Option.some.inj x).symm,wkA [(7,7),(8,8),(9,9),(10,10)] [] []⟩
    refine Q1 ?_
    refine ⟨_,(Option.some.inj x).symm,fun hm=>?_⟩
    subst hm
    obtain rfl:=qc af
    exact ⟨_,J,wkA [(7,7),(8,8),(9,9),(10,10)] [] []⟩
   intro s hb
   subst hb
   refine qt<|O (q6 1) J<|U J<|q9<|Us<|qa<|O (qf false) J<|q9<|qe<|U1 J<|Q1<|q29<|qe ?_
   refine Ym (st':=⟨[(0,.yld 6),(1,.ref 4 1 0 0),(2,.ref 5 1 0 0),(4,q6 b.1),(5,.ref 7 3 0 0)],[(0,.dat 1 [[.nilf]]),(1,.dat 1 [[.nilsl]]),(2,.dat 1 [[G 0]]),(3,.cel 4 [[.hs 8 6 0 b.2.2.2.2.length,.d (.sl 4 (b.2.1.map qs)),q6 b.2.2.1,q6 b.2.2.2.1]]),(4,.cel 1 [[.d (.sl 1 (h.map (eI .i64)))]]),(5,.dat 1 [[.sl 1 ([c].map K9)]]),(6,.loop [(2,.ref 0 1 0 0),(4,.ref 1 1 0 0),(5,.ref 2 1 0 0),(6,.ref 3 4 0 0),(14,.fn 112 [.ref 4 1 0 0,.ref 5 1 0 0])] [15] A879 B880 .ready none),(7,.cel 3 [[q6 g,q6 l,.hs 9 1 0 1]]),(8,.dat 6 (b.2.2.2.2.map qr)),(9,.cel 1 [[.d (.sl 4 (s.map qs))]])],10⟩) (wkA [(7,7),(8,8),(9,9)] [10] []) ?_ (by simp)
   refine qt<|U J<|O (.agg [q6 g,q6 l,.hs 9 1 0 1]) J ?_
   obtain ⟨bw,u,j⟩:=q7 j
   refine qd6 (fun y=>.inl y = bw) (fun (y : List qh × Int × Int × List qd)=>⟨[(0,.yld 6),(1,.ref 4 1 0 0),(2,.ref 5 1 0 0),(4,q6 b.1),(84,qf true)],[(0,.dat 1 [[.nilf]]),(1,.dat 1 [[.nilsl]]),(2,.dat 1 [[G 0]]),(3,.cel 4 [[.hs 7 6 0 y.2.2.2.length,.d (.sl 4 (y.1.map qs)),q6 y.2.1,q6 y.2.2.1]]),(4,.cel 1 [[.d (.sl 1 (h.map (eI .i64)))]]),(5,.dat 1 [[.sl 1 ([c].map K9)]]),(6,.loop [(2,.ref 0 1 0 0),(4,.ref 1 1 0 0),(5,.ref 2 1 0 0),(6,.ref 3 4 0 0),(14,.fn 112 [.ref 4 1 0 0,.ref 5 1 0 0])] [15] A879 B880 .ready none),(7,.dat 6 (y.2.2.2.map qr))],8⟩) hA879 hB880 J J J J J J ?_ ?_
   ·refine qt<|Qk J J<|qz 10 (.cel 3 [[q6 g,q6 l,.hs 9 1 0 1]]) J<|qq ?_
    refine ⟨J,_,J,?_⟩
    refine qw<|qa<|O (.ref 10 3 0 2) J<|O (.hs 9 1 0 1) J<|O (.ref 9 1 0 0) J<|O (.d (.sl 4 (s.map qs))) J ?_
    obtain ⟨z,bx,u⟩:=q7 u
    refine qv (qrr s z bx) J<|U J<|O (.d (.sl 4 (z.1.map qs))) J<|O (q6 z.2) J<|q8 J<|q8 J<|q9<|qe<|qa<|O (.ref 10 3 0 2) J<|O (.hs 9 1 0 1) J<|O (.hs 9 1 1 0) J<|O (q6 0) J<|U J<|q9<|qw<|Us<|qa<|O (qf false) J<|q9<|qe<|U1 J<|Q1<|q29<|qe<|qa<|U J<|O (qf (z.2 != 0)) J<|q9 ?_
    refine qj J u (fun _ u=>?_) (fun _ u=>?_)
    ·refine qa<|U J<|qz 1 (.dat 1 [[.nilsl]]) J<|qz 2 (.dat 1 [[G z.2]]) J<|qo ?_
     obtain rfl:=qc u
     refine ⟨_,J,?_⟩
     refine O (qf true) J<|q9<|q53 J<|q36 ?_
     refine ⟨_,(Option.some.inj j).symm,fun hm=>?_⟩
     subst hm
     refine ⟨.inr J,_,J,_,_,.ret,J,by decide,?_⟩
     refine qkv ?_
     obtain rfl:=qc ai
     obtain rfl:=qc o
     exact finD (.inr J) (v:=.d (.tup [.nilsl,G z.2])) J J (Kx (.cons (.nil _) (.cons (.refl _) .nil)))
    refine qk<|qt<|O (.ref 10 3 0 0) J<|O (q6 g) J<|O (.ref 10 3 0 1) J<|O (q6 l) J<|U J ?_
    obtain ⟨ac,bz,u⟩:=q7 u
    refine Qr [(0,3),(1,8)] [(0,3),(1,3),(2,3),(3,0),(4,3),(5,3),(6,3),(7,3),(8,1),(9,3),(10,3),(11,2)] [.ref 3 4 0 0,q6 g,q6 l,.d (.sl 4 (z.1.map qs))] (.d (.tup [])) 2 [(3,.cel 4 [[.hs 11 6 0 ac.2.2.2.length,.d (.sl 4 (ac.1.map qs)),q6 ac.2.1,q6 ac.2.2.1]]),(11,.dat 6 (ac.2.2.2.map qr)),(0,.dat 1 [[.nilf]]),(1,.dat 1 [[.nilsl]]),(2,.dat 1 [[G 0]]),(4,.cel 1 [[.d (.sl 1 (h.map (eI .i64)))]]),(5,.dat 1 [[.sl 1 ([c].map K9)]]),(6,.loop [(2,.ref 0 1 0 0),(4,.ref 1 1 0 0),(5,.ref 2 1 0 0),(6,.ref 3 4 0 0),(14,.fn 112 [.ref 4 1 0 0,.ref 5 1 0 0])] [15] A879 B880 .busy none),(7,.cel 3 [[q6 g,q6 l,.hs 9 1 0 1]]),(9,.cel 1 [[.d (.sl 4 (s.map qs))]]),(10,.cel 3 [[q6 g,q6 l,.hs 9 1 0 1]])] 12 (qwv b.2.2.2.2 b.2.1 b.2.2.1 b.2.2.2.1 g l z.1 ac bz)<|qq<|Qa<|Q8 ?_
    refine ⟨_,J,?_⟩
    obtain rfl:=qc u
    exact ⟨_,J,wkA [(7,11)] [] []⟩
   intro y hb
   subst hb
   refine O (qf false) J<|q9<|U1 J<|qk<|Q8<|Qa<|qt<|U J<|O (.d (G (w64 (b.1 + 1)))) J<|q8 J<|qq ?_
   exact ⟨_,(Option.some.inj j).symm,wkA [(7,7)] [] []⟩
  refine Q1 ?_
  refine ⟨_,(Option.some.inj j).symm,fun hm=>?_⟩
  subst hm
  refine ⟨.inl J,_,J,_,_,.nor,J,by decide,?_⟩
  refine qbh<|Q8 ?_
  obtain rfl:=qc ai
  exact ⟨_,J,wkA [(0,1),(1,2),(2,3),(3,7)] [] []⟩
 intro k st hb hw
 subst hb
 refine Ym hw ?_ (by simp)
 refine qe<|qa<|O (.ref 2 4 0 0) J<|O (.hs 3 6 0 k.2.2.2.length) J<|O (q6 (k.2.2.2.length : Int)) J<|O (.d (.bool (decide ((k.2.2.2.length : Int) > 400)))) J<|q9 ?_
 refine qj J o (fun _ o=>?_) (fun _ o=>?_)
 ·refine qa<|qz 0 (.dat 1 [[.nilsl]]) J<|qz 1 (.dat 1 [[G 4]]) J<|qo ?_
  obtain rfl:=qc o
  exact finD (.inr J) (v:=.d (.tup [.nilsl,G 4])) J J (Kx (.cons (.nil _) (.cons (.refl _) .nil)))
 refine qk<|qa<|O (.ref 2 4 0 0) J<|O (.hs 3 6 0 k.2.2.2.length) J<|qz 0 (.cel 1 [[.hs 3 6 0 k.2.2.2.length]]) J<|qz 1 (.dat 1 [[G 0]]) J<|qo ?_
 obtain rfl:=qc o
 exact finD (.inr J) (v:=.tup [.hs 3 6 0 k.2.2.2.length,q6 0]) J (qb5 (q1i (Jf J J) (q1i J J))) (.refl _)
theorem qwn (b : List qd) (r : List qd × Int) (a : q8n b = some r) : Pure Tryz.prog tab 14 [.sl 6 (b.map qr)] (.tup [.sl 6 (r.1.map qr),G r.2]):=by
 unfold q8n at a
 refine Qb Tryz.func14 J (by kernel_rfl) (by kernel_rfl) J<|qa<|q8 J<|q8 J<|q9<|qe<|qa<|U J<|Qg J<|O (.d (.bool (decide ((b.length : Int) > 400)))) J<|q9 ?_
 refine qj J a (fun _ a=>?_) (fun _ a=>?_)
 ·refine qa<|q8 J<|q8 J<|qo ?_
  obtain rfl:=qc a
  exact finD (.inr J) (v:=.d (.tup [.nilsl,G 4])) J J (Kx (.cons (.nil _) (.cons (.refl _) .nil)))
 refine qk<|qe<|qa<|U J ?_
 obtain ⟨g,h,a⟩:=q7 a
 refine qv (qtj b (fun f=>q21 f) 51 [] (fun f r hr=>qwl f r hr) g h) J<|q9 ?_
 refine qj J a (fun _ a=>?_) (fun _ a=>?_)
 ·refine qa<|q8 J<|q8 J<|qo ?_
  obtain rfl:=qc a
  exact finD (.inr J) (v:=.d (.tup [.nilsl,G 8])) J J (Kx (.cons (.nil _) (.cons (.refl _) .nil)))
 refine qk<|qa<|O (.d (.agg [.nilf])) J<|U J<|qhv (es:=1) ([b].map K9) J J J J J ?_
 obtain ⟨c,j,a⟩:=q7 a
 refine qv (qju b c j) J<|O (.d (.sl 6 (c.1.map qr))) J<|O (q6 c.2) J<|q8 J<|q8 J<|qo ?_
 obtain rfl:=qc a
 exact qy (.d (.tup [.sl 6 (c.1.map qr),G c.2])) J
theorem qdh (a : ql) (c : Int) (r : Bool) (b : Uo a c = some r) : Pure Tryz.prog tab 73 [.agg [G a.X,G a.Y,G a.Z],G c] (.bool r):=by
 unfold Uo at b
 refine Qb Tryz.func73 J (by kernel_rfl) (by kernel_rfl) J<|qa<|Qe (.ref 0 3 0 0) (.dat 3 [[G a.X,G a.Y,G a.Z]]) J<|q8 J<|qp<|O (.ref 0 3 0 0) J<|O (q6 a.X) J<|U J<|O (.d (.bool (decide (a.X ≥ c)))) J ?_
 obtain ⟨c1,f,b⟩:=q7 b
 refine Q5 6 (fun A st=>∃ (l m n o p : V),st = A [(14,qf c1),(13,p),(12,o),(11,n),(10,m),(9,l)]) ?_ ?_
 ·refine Q6 J J f (fun f=>?_) (fun f=>?_)
  ·refine O (.ref 0 3 0 1) J<|O (q6 a.Y) J<|U J<|O (.d (.bool (decide (a.Y ≥ c)))) J<|O (.d (.bool (decide (a.Y ≥ c)))) J<|q9 ?_
   obtain rfl:=qc f
   exact ⟨_,_,_,_,_,J⟩
  refine qb J<|qb J<|qb J<|qb J<|O (qf false) J<|q9 ?_
  obtain rfl:=qc f
  exact ⟨_,_,_,_,_,J⟩
 rintro _ ⟨l,m,n,o,p,rfl⟩
 obtain ⟨c8,g,b⟩:=q7 b
 refine Q5 6 (fun A st=>∃ (q s t u v : V),st = A [(20,qf c8),(19,v),(18,u),(17,t),(16,s),(15,q)]) ?_ ?_
 ·refine Q6 J J g (fun g=>?_) (fun g=>?_)
  ·refine O (.ref 0 3 0 2) J<|O (q6 a.Z) J<|U J<|O (.d (.bool (decide (a.Z ≥ c)))) J<|O (.d (.bool (decide (a.Z ≥ c)))) J<|q9 ?_
   obtain rfl:=qc g
   exact ⟨_,_,_,_,_,J⟩
  refine qb J<|qb J<|qb J<|qb J<|O (qf false) J<|q9 ?_
  obtain rfl:=qc g
  exact ⟨_,_,_,_,_,J⟩
 rintro _ ⟨q,s,t,u,v,rfl⟩
 obtain ⟨al,h,b⟩:=q7 b
 refine Q5 5 (fun A st=>∃ (w x y z : V),st = A [(25,qf al),(24,z),(23,y),(22,x),(21,w)]) ?_ ?_
 ·refine Q6 J J h (fun h=>?_) (fun h=>?_)
  ·refine O (.ref 0 3 0 0) J<|O (q6 a.X) J<|O (.d (.bool (decide (a.X≤1000000)))) J<|O (.d (.bool (decide (a.X≤1000000)))) J<|q9 ?_
   obtain rfl:=qc h
   exact ⟨_,_,_,_,J⟩
  refine qb J<|qb J<|qb J<|O (qf false) J<|q9 ?_
  obtain rfl:=qc h
  exact ⟨_,_,_,_,J⟩
 rintro _ ⟨w,x,y,z,rfl⟩
 obtain ⟨am,j,b⟩:=q7 b
 refine Q5 5 (fun A st=>∃ (aa ab ac ad : V),st = A [(30,qf am),(29,ad),(28,ac),(27,ab),(26,aa)]) ?_ ?_
 ·refine Q6 J J j (fun j=>?_) (fun j=>?_)
  ·refine O (.ref 0 3 0 1) J<|O (q6 a.Y) J<|O (.d (.bool (decide (a.Y≤1000000)))) J<|O (.d (.bool (decide (a.Y≤1000000)))) J<|q9 ?_
   obtain rfl:=qc j
   exact ⟨_,_,_,_,J⟩
  refine qb J<|qb J<|qb J<|O (qf false) J<|q9 ?_
  obtain rfl:=qc j
  exact ⟨_,_,_,_,J⟩
 rintro _ ⟨aa,ab,ac,ad,rfl⟩
 obtain ⟨ae,k,b⟩:=q7 b
 refine Q5 5 (fun A st=>∃ (af ag ah ai : V),st = A [(35,qf ae),(34,ai),(33,ah),(32,ag),(31,af)]) ?_ ?_
 ·refine Q6 J J k (fun k=>?_) (fun k=>?_)
  ·refine O (.ref 0 3 0 2) J<|O (q6 a.Z) J<|O (.d (.bool (decide (a.Z≤1000000)))) J<|O (.d (.bool (decide (a.Z≤1000000)))) J<|q9 ?_
   obtain rfl:=qc k
   exact ⟨_,_,_,_,J⟩
  refine qb J<|qb J<|qb J<|O (qf false) J<|q9 ?_
  obtain rfl:=qc k
  exact ⟨_,_,_,_,J⟩
 rintro _ ⟨af,ag,ah,ai,rfl⟩
 refine q8 J<|qo ?_
 obtain rfl:=qc b
 exact qy (qf ae) J
theorem qdk (a : qd) (r : Bool) (b : q34 a = some r) : Pure Tryz.prog tab 54 [.agg [G a.Lo.X,G a.Lo.Y,G a.Lo.Z,G a.Hi.X,G a.Hi.Y,G a.Hi.Z]] (.bool r):=by
 unfold q34 at b
 refine Qb Tryz.func54 J (by kernel_rfl) (by kernel_rfl) J<|qa<|Qe (.ref 0 6 0 0) (.dat 6 [[G a.Lo.X,G a.Lo.Y,G a.Lo.Z,G a.Hi.X,G a.Hi.Y,G a.Hi.Z]]) J<|q8 J<|qp<|O (.ref 0 6 0 0) J<|O (.d (.agg [G a.Lo.X,G a.Lo.Y,G a.Lo.Z])) J ?_
 obtain ⟨r1,h2,b⟩:=q7 b
 refine qv (qdh a.Lo (-1000000) r1 h2) J ?_
 obtain ⟨c5,c,b⟩:=q7 b
 refine Q5 5 (fun A st=>∃ (j k l m : V),st = A [(11,qf c5),(10,m),(9,l),(8,k),(7,j)]) ?_ ?_
 ·refine Q6 J J c (fun c=>?_) (fun c=>?_)
  ·refine O (.ref 0 6 0 3) J<|O (.d (.agg [G a.Hi.X,G a.Hi.Y,G a.Hi.Z])) J ?_
   obtain ⟨n,ar,c⟩:=q7 c
   refine qv (qdh a.Hi (-1000000) n ar) J<|O (qf n) J<|q9 ?_
   obtain rfl:=qc c
   exact ⟨_,_,_,_,J⟩
  refine qb J<|qb J<|qb J<|O (qf false) J<|q9 ?_
  obtain rfl:=qc c
  exact ⟨_,_,_,_,J⟩
 rintro _ ⟨j,k,l,m,rfl⟩
 refine q8 J<|qp<|U J ?_
 obtain ⟨au,f,b⟩:=q7 b
 refine Q5 9 (fun A st=>∃ (o p q s t u v w : V),st = A [(21,qf au),(20,w),(19,v),(18,u),(17,t),(16,s),(15,q),(14,p),(13,o)]) ?_ ?_
 ·refine Q6 J J f (fun f=>?_) (fun f=>?_)
  ·refine O (.ref 0 6 0 0) J<|O (.ref 0 6 0 0) J<|O (q6 a.Lo.X) J<|O (.ref 0 6 0 3) J<|O (.ref 0 6 0 3) J<|O (q6 a.Hi.X) J<|O (.d (.bool (decide (a.Lo.X < a.Hi.X)))) J<|O (.d (.bool (decide (a.Lo.X < a.Hi.X)))) J<|q9 ?_
   obtain rfl:=qc f
   exact ⟨_,_,_,_,_,_,_,_,J⟩
  refine qb J<|qb J<|qb J<|qb J<|qb J<|qb J<|qb J<|O (qf false) J<|q9 ?_
  obtain rfl:=qc f
  exact ⟨_,_,_,_,_,_,_,_,J⟩
 rintro _ ⟨o,p,q,s,t,u,v,w,rfl⟩
 obtain ⟨av,g,b⟩:=q7 b
 refine Q5 9 (fun A st=>∃ (x y z aa ab ac ad ae : V),st = A [(30,qf av),(29,ae),(28,ad),(27,ac),(26,ab),(25,aa),(24,z),(23,y),(22,x)]) ?_ ?_
 ·refine Q6 J J g (fun g=>?_) (fun g=>?_)
  ·refine O (.ref 0 6 0 0) J<|O (.ref 0 6 0 1) J<|O (q6 a.Lo.Y) J<|O (.ref 0 6 0 3) J<|O (.ref 0 6 0 4) J<|O (q6 a.Hi.Y) J<|O (.d (.bool (decide (a.Lo.Y < a.Hi.Y)))) J<|O (.d (.bool (decide (a.Lo.Y < a.Hi.Y)))) J<|q9 ?_
   obtain rfl:=qc g
   exact ⟨_,_,_,_,_,_,_,_,J⟩
  refine qb J<|qb J<|qb J<|qb J<|qb J<|qb J<|qb J<|O (qf false) J<|q9 ?_
  obtain rfl:=qc g
  exact ⟨_,_,_,_,_,_,_,_,J⟩
 rintro _ ⟨x,y,z,aa,ab,ac,ad,ae,rfl⟩
 obtain ⟨af,h,b⟩:=q7 b
 refine Q5 9 (fun A st=>∃ (ag ah ai aj ak al am an : V),st = A [(39,qf af),(38,an),(37,am),(36,al),(35,ak),(34,aj),(33,ai),(32,ah),(31,ag)]) ?_ ?_
 ·refine Q6 J J h (fun h=>?_) (fun h=>?_)
  ·refine O (.ref 0 6 0 0) J<|O (.ref 0 6 0 2) J<|O (q6 a.Lo.Z) J<|O (.ref 0 6 0 3) J<|O (.ref 0 6 0 5) J<|O (q6 a.Hi.Z) J<|O (.d (.bool (decide (a.Lo.Z < a.Hi.Z)))) J<|O (.d (.bool (decide (a.Lo.Z < a.Hi.Z)))) J<|q9 ?_
   obtain rfl:=qc h
   exact ⟨_,_,_,_,_,_,_,_,J⟩
  refine qb J<|qb J<|qb J<|qb J<|qb J<|qb J<|qb J<|O (qf false) J<|q9 ?_
  obtain rfl:=qc h
  exact ⟨_,_,_,_,_,_,_,_,J⟩
 rintro _ ⟨ag,ah,ai,aj,ak,al,am,an,rfl⟩
 refine q8 J<|qo ?_
 obtain rfl:=qc b
 exact qy (qf af) J
theorem qdg (c : List Int) (r : List Int) (p : Zz c = some r) : Pure Tryz.prog tab 115 [.sl 1 (c.map (eI .i64))] (.sl 1 (r.map (eI .i64))):=by
 unfold Zz at p
 refine Qb Tryz.func115 J (by kernel_rfl) (by kernel_rfl) J<|qa<|q8 J<|qp<|q8 J<|q9<|qe<|qa<|q8 J<|q9 ?_
 obtain ⟨aa,bg,p⟩:=q7 p
 refine Q9 (fun l=>l = aa) (fun (l : List Int)=>⟨[(3,.hs 0 1 0 l.length)],[(0,.dat 1 (l.map (eI .i64)))],1⟩) (by simp) ?_ ?_
 ·refine Q4 (q2n c) (fun (b : Int × List Int)=>⟨[(0,.d (.sl 1 (c.map (eI .i64)))),(3,.hs 0 1 0 b.2.length),(4,q6 b.1)],[(0,.dat 1 (b.2.map (eI .i64)))],1⟩) (0,[]) aa bg (wkA [] [] [0]) ?_
  intro b bp h
  unfold q2n at h
  refine qe<|qa<|U J<|U J<|Qg J<|O (.d (.bool (decide (b.1 < (c.length : Int))))) J<|q9 ?_
  refine qj J h (fun _ h=>?_) (fun _ h=>?_)
  ·refine qk<|qe ?_
   obtain ⟨bh,a,h⟩:=q7 h
   refine Q9 (fun n=>n = bh) (fun (n : List Int)=>⟨[(0,.d (.sl 1 (c.map (eI .i64)))),(3,.hs 0 1 0 n.length),(4,q6 b.1)],[(0,.dat 1 (n.map (eI .i64)))],1⟩) (by simp) ?_ ?_
   ·refine qa<|U J<|O (q6 (b.2.length : Int)) J<|q8 J<|q9<|qe ?_
    obtain ⟨ab,bi,a⟩:=q7 a
    refine Q9 (fun k=>k = ab) (fun (k : Int)=>⟨[(0,.d (.sl 1 (c.map (eI .i64)))),(3,.hs 0 1 0 b.2.length),(4,q6 b.1),(5,q6 k)],[(0,.dat 1 (b.2.map (eI .i64)))],1⟩) (by simp) ?_ ?_
    ·refine Q4 (q2o b c) (fun (o : Int)=>⟨[(0,.d (.sl 1 (c.map (eI .i64)))),(3,.hs 0 1 0 b.2.length),(4,q6 b.1),(5,q6 o)],[(0,.dat 1 (b.2.map (eI .i64)))],1⟩) (b.2.length : Int) ab bi (wkA [(0,0)] [] []) ?_
     intro o bq j
     unfold q2o at j
     refine qe<|qe<|Q2 [q0,q0,q0,q0,q0,q0,qm 0,q0,q0,q0,q0,q0,q0,q0] (by kernel_rfl)<|U J<|O (.d (.bool (decide (o > 0)))) J ?_
     obtain ⟨bj,f,j⟩:=q7 j
     refine Q5 12 (fun A st=>∃ (ac ad ae af ag ah ai aj ak al am : V),st = A [(27,qf bj),(26,am),(25,al),(24,ak),(23,aj),(22,ai),(21,ah),(20,ag),(19,af),(18,ae),(17,ad),(16,ac)]) ?_ ?_
     ·refine Q6 J J f (fun f=>?_) (fun f=>?_)
      ·refine U J<|U J<|O (.d (G (w64 (o - 1)))) J ?_
       obtain ⟨s,an,f⟩:=q7 f
       refine qn an J J<|qx (q6 s) an J<|U J<|U J ?_
       obtain ⟨t,bk,f⟩:=q7 f
       refine Q3 (enc:=(eI .i64)) bk J<|O (q6 t) J<|O (.d (.bool (decide (s > t)))) J<|O (.d (.bool (decide (s > t)))) J<|q9 ?_
       obtain rfl:=qc f
       exact ⟨_,_,_,_,_,_,_,_,_,_,_,J⟩
      refine qb J<|qb J<|qb J<|qb J<|qb J<|qb J<|qb J<|qb J<|qb J<|qb J<|O (qf false) J<|q9 ?_
      obtain rfl:=qc f
      exact ⟨_,_,_,_,_,_,_,_,_,_,_,J⟩
     rintro _ ⟨ac,ad,ae,af,ag,ah,ai,aj,ak,al,am,rfl⟩
     refine q9 ?_
     refine qj J j (fun _ j=>?_) (fun _ j=>?_)
     ·refine qk<|qw<|qt<|U J<|O (.d (G (w64 (o - 1)))) J<|q8 J<|qq<|Qa<|Q8 ?_
      exact ⟨_,(Option.some.inj j).symm,wkA [(0,0)] [] []⟩
     refine Q1 ?_
     refine ⟨_,(Option.some.inj j).symm,fun hm=>?_⟩
     subst hm
     exact ⟨_,J,wkA [(0,0)] [] []⟩
    intro k hb
    subst hb
    refine qe<|qe<|Q2 [q0,q0,q0,q0,q0,q0,qm 0,q0,q0,q0,q0,q0,q0,q0] (by kernel_rfl)<|U J<|O (.d (.bool (decide (k > 0)))) J ?_
    obtain ⟨bl,g,a⟩:=q7 a
    refine Q5 12 (fun A st=>∃ (ao ap aq ar au av aw ax ay az ba : V),st = A [(43,qf bl),(42,ba),(41,az),(40,ay),(39,ax),(38,aw),(37,av),(36,au),(35,ar),(34,aq),(33,ap),(32,ao)]) ?_ ?_
    ·refine Q6 J J g (fun g=>?_) (fun g=>?_)
     ·refine U J<|U J<|O (.d (G (w64 (k - 1)))) J ?_
      obtain ⟨u,bb,g⟩:=q7 g
      refine qn bb J J<|qx (q6 u) bb J<|U J<|U J ?_
      obtain ⟨x,bm,g⟩:=q7 g
      refine Q3 (enc:=(eI .i64)) bm J<|O (q6 x) J<|O (qf (u == x)) J<|O (qf (u == x)) J<|q9 ?_
      obtain rfl:=qc g
      exact ⟨_,_,_,_,_,_,_,_,_,_,_,J⟩
     refine qb J<|qb J<|qb J<|qb J<|qb J<|qb J<|qb J<|qb J<|qb J<|qb J<|O (qf false) J<|q9 ?_
     obtain rfl:=qc g
     exact ⟨_,_,_,_,_,_,_,_,_,_,_,J⟩
    rintro _ ⟨ao,ap,aq,ar,au,av,aw,ax,ay,az,ba,rfl⟩
    refine q9 ?_
    refine qj J a (fun _ a=>?_) (fun _ a=>?_)
    ·refine Q1 ?_
     obtain rfl:=qc a
     exact ⟨_,J,wkA [(0,0)] [] []⟩
    refine qk<|qa<|U J<|Qe (.hs 1 1 0 [0].length) (.dat 1 ([0].map (eI .i64))) J ?_
    obtain ⟨q,bn,a⟩:=q7 a
    refine Kl (xs:=b.2) (ys:=[0]) (enc:=(eI .i64)) (.hs 1 1 0 [0].length) bn J J J J J J J (Ki J J) J J J J<|q8 J<|q9<|qe<|Q2 [Q7 2,q0,q0,q0,q0,q0,q0,q0] (by kernel_rfl)<|U J<|U J<|O (.d (G (w64 (k + 1)))) J ?_
    obtain ⟨bc,y,a⟩:=q7 a
    refine q6w y J J J J J (q3z J) (fun _=>rfl)<|U J<|U J ?_
    obtain ⟨m,bd,a⟩:=q7 a
    refine q6w bd J J J J J (q3z J) (fun _=>rfl)<|qp6 (w:=bc) (xs:=q) (ys:=(q.drop m.1).take m.2) (enc:=(eI .i64)) (.hs 2 1 m.1 m.2) (q91 y) J J J J J J (qmh (q91 bd) J) J J J J ?_
    have be:=@qfn _ q ((q.drop m.1).take m.2) bc (q91 y)
    refine q9<|qt<|U J<|U J<|U J<|U J ?_
    obtain ⟨z,bo,a⟩:=q7 a
    refine Q3 (enc:=(eI .i64)) bo J<|O (q6 z) J ?_
    obtain ⟨br,bf,a⟩:=q7 a
    refine qn bf (by simp [be]) J<|Qi (ds:=[G z]) z bf J J J J J J J J (leb J) J<|qq ?_
    obtain rfl:=qc a
    exact ⟨_,J,wkE [(0,2)] [] [] J ⟨⟨_,J,.d (.refl _)⟩,⟨_,J,Ql (by simp [be]) J (by decide) (ltd J)⟩,⟨_,J,.d (.refl _)⟩,trivial⟩ ⟨⟨ltd J,.inr ⟨by decide,_,J,.dat _ _⟩⟩,trivial⟩⟩
   intro n hb
   subst hb
   refine qt<|U J<|O (.d (G (w64 (b.1 + 1)))) J<|q8 J<|qq ?_
   exact ⟨_,(Option.some.inj h).symm,wkA [(0,0)] [] []⟩
  refine Q1 ?_
  refine ⟨_,(Option.some.inj h).symm,fun hm=>?_⟩
  subst hm
  exact ⟨_,J,wkA [(0,0)] [] []⟩
 intro l hb
 subst hb
 refine qa<|U J<|q8 J<|qo ?_
 obtain rfl:=qc p
 exact finD (.inr J) (v:=.hs 0 1 0 l.length) J (Jf J J) (.refl _)
theorem qr8 (p : List qd) (k : List qd) (r : List Int) (j : q78 p k = some r) : Pure Tryz.prog tab 85 [.sl 6 (p.map qr),.sl 6 (k.map qr)] (.sl 1 (r.map (eI .i64))):=by
 unfold q78 at j
 refine Qb Tryz.func85 J (by kernel_rfl) (by kernel_rfl) J<|qa<|q8 J<|qp<|q8 J<|q9<|qe<|qa<|q8 J<|q9 ?_
 obtain ⟨q,u,j⟩:=q7 j
 refine Q9 (fun o=>o = q) (fun (o : List Int)=>⟨[(1,.d (.sl 6 (k.map qr))),(5,.hs 0 1 0 o.length)],[(0,.dat 1 (o.map (eI .i64)))],1⟩) (by simp) ?_ ?_
 ·refine Q4 (q2y p) (fun (l : Int × List Int)=>⟨[(0,.d (.sl 6 (p.map qr))),(1,.d (.sl 6 (k.map qr))),(5,.hs 0 1 0 l.2.length),(6,q6 l.1)],[(0,.dat 1 (l.2.map (eI .i64)))],1⟩) (0,[]) q u (wkA [] [] [0]) ?_
  intro l ad g
  unfold q2y at g
  refine qe<|qa<|U J<|U J<|Qg J<|O (.d (.bool (decide (l.1 < (p.length : Int))))) J<|q9 ?_
  refine qj J g (fun _ g=>?_) (fun _ g=>?_)
  ·refine qk<|qe<|qw<|Q2 [q0,(some [0,1],[0,2]),(some [],[1]),q0,q0,q0,q0,q0,q0,q0,q0,q0,q0,q0,q0,q0] (by kernel_rfl)<|U J<|U J<|U J ?_
   obtain ⟨a,v,g⟩:=q7 g
   refine Q3 (enc:=qr) v J<|O (.dref [G a.Lo.X,G a.Lo.Y,G a.Lo.Z,G a.Hi.X,G a.Hi.Y,G a.Hi.Z] 0) J<|O (.dref [G a.Lo.X,G a.Lo.Y,G a.Lo.Z,G a.Hi.X,G a.Hi.Y,G a.Hi.Z] 2) J<|O (q6 a.Lo.Z) J<|U J<|U J ?_
   obtain ⟨b,w,g⟩:=q7 g
   refine Q3 (enc:=qr) w J<|O (.dref [G b.Lo.X,G b.Lo.Y,G b.Lo.Z,G b.Hi.X,G b.Hi.Y,G b.Hi.Z] 3) J<|O (.dref [G b.Lo.X,G b.Lo.Y,G b.Lo.Z,G b.Hi.X,G b.Hi.Y,G b.Hi.Z] 5) J<|O (q6 b.Hi.Z) J<|Qe (.hs 1 1 0 [a.Lo.Z,b.Hi.Z].length) (.dat 1 ([a.Lo.Z,b.Hi.Z].map (eI .i64))) J ?_
   obtain ⟨ae,x,g⟩:=q7 g
   refine Kl (xs:=l.2) (ys:=[a.Lo.Z,b.Hi.Z]) (enc:=(eI .i64)) (.hs 1 1 0 [a.Lo.Z,b.Hi.Z].length) x J J J J J J J (Ki J J) J J J J<|q8 J<|qq<|Qa<|qt<|U J<|O (.d (G (w64 (l.1 + 1)))) J<|q8 J<|qq ?_
   exact ⟨_,(Option.some.inj g).symm,wkA [(0,2)] [] []⟩
  refine Q1 ?_
  refine ⟨_,(Option.some.inj g).symm,fun hm=>?_⟩
  subst hm
  exact ⟨_,J,wkA [(0,0)] [] []⟩
 intro o hb
 subst hb
 refine qe<|qa<|q8 J<|q9 ?_
 obtain ⟨s,y,j⟩:=q7 j
 refine Q9 (fun m=>m = s) (fun (m : List Int)=>⟨[(5,.hs 0 1 0 m.length)],[(0,.dat 1 (m.map (eI .i64)))],1⟩) (by simp) ?_ ?_
 ·refine Q4 (q2z k) (fun (n : Int × List Int)=>⟨[(1,.d (.sl 6 (k.map qr))),(5,.hs 0 1 0 n.2.length),(7,q6 n.1)],[(0,.dat 1 (n.2.map (eI .i64)))],1⟩) (0,o) s y (wkA [(0,0)] [] []) ?_
  intro n af h
  unfold q2z at h
  refine qe<|qa<|U J<|U J<|Qg J<|O (.d (.bool (decide (n.1 < (k.length : Int))))) J<|q9 ?_
  refine qj J h (fun _ h=>?_) (fun _ h=>?_)
  ·refine qk<|qe<|qw<|Q2 [q0,(some [0,1],[0,2]),(some [],[1]),q0,q0,q0,q0,q0,q0,q0,q0,q0,q0,q0,q0,q0] (by kernel_rfl)<|U J<|U J<|U J ?_
   obtain ⟨c,z,h⟩:=q7 h
   refine Q3 (enc:=qr) z J<|O (.dref [G c.Lo.X,G c.Lo.Y,G c.Lo.Z,G c.Hi.X,G c.Hi.Y,G c.Hi.Z] 0) J<|O (.dref [G c.Lo.X,G c.Lo.Y,G c.Lo.Z,G c.Hi.X,G c.Hi.Y,G c.Hi.Z] 2) J<|O (q6 c.Lo.Z) J<|U J<|U J ?_
   obtain ⟨f,aa,h⟩:=q7 h
   refine Q3 (enc:=qr) aa J<|O (.dref [G f.Lo.X,G f.Lo.Y,G f.Lo.Z,G f.Hi.X,G f.Hi.Y,G f.Hi.Z] 3) J<|O (.dref [G f.Lo.X,G f.Lo.Y,G f.Lo.Z,G f.Hi.X,G f.Hi.Y,G f.Hi.Z] 5) J<|O (q6 f.Hi.Z) J<|Qe (.hs 1 1 0 [c.Lo.Z,f.Hi.Z].length) (.dat 1 ([c.Lo.Z,f.Hi.Z].map (eI .i64))) J ?_
   obtain ⟨ag,ab,h⟩:=q7 h
   refine Kl (xs:=n.2) (ys:=[c.Lo.Z,f.Hi.Z]) (enc:=(eI .i64)) (.hs 1 1 0 [c.Lo.Z,f.Hi.Z].length) ab J J J J J J J (Ki J J) J J J J<|q8 J<|qq<|Qa<|qt<|U J<|O (.d (G (w64 (n.1 + 1)))) J<|q8 J<|qq ?_
   exact ⟨_,(Option.some.inj h).symm,wkA [(0,2)] [] []⟩
  refine Q1 ?_
  refine ⟨_,(Option.some.inj h).symm,fun hm=>?_⟩
  subst hm
  exact ⟨_,J,wkA [(0,0)] [] []⟩
 intro m hb
 subst hb
 refine qe ?_
 refine Ym (st':=⟨[(5,.d (.sl 1 (m.map (eI .i64))))],[],0⟩) (wkA [] [0] []) ?_ (by simp)
 refine qt<|U J ?_
 obtain ⟨t,ac,j⟩:=q7 j
 refine qv (qdg m t ac) J<|q8 J<|qo ?_
 obtain rfl:=qc j
 exact qy (.d (.sl 1 (t.map (eI .i64)))) J
theorem q77 (o : List qd) (k : Int) (r : List qh) (s : Zi o k = some r) : Pure Tryz.prog tab 68 [.sl 6 (o.map qr),G k] (.sl 4 (r.map qs)):=by
 unfold Zi at s
 refine Qb Tryz.func68 J (by kernel_rfl) (by kernel_rfl) J<|qa<|q8 J<|qp<|q8 J<|q9<|qe<|qa<|q8 J<|q9 ?_
 obtain ⟨t,ae,s⟩:=q7 s
 refine Q9 (fun p=>p = t) (fun (p : List qh)=>⟨[(5,.hs 0 4 0 p.length)],[(0,.dat 4 (p.map qs))],1⟩) (by simp) ?_ ?_
 ·refine Q4 (q4s o k) (fun (l : Int × List qh)=>⟨[(0,.d (.sl 6 (o.map qr))),(1,q6 k),(5,.hs 0 4 0 l.2.length),(6,q6 l.1)],[(0,.dat 4 (l.2.map qs))],1⟩) (0,[]) t ae (wkA [] [] [0]) ?_
  intro l ao m
  unfold q4s at m
  refine qe<|qa<|U J<|U J<|Qg J<|O (.d (.bool (decide (l.1 < (o.length : Int))))) J<|q9 ?_
  refine qj J m (fun _ m=>?_) (fun _ m=>?_)
  ·refine qk<|qe ?_
   obtain ⟨af,a,m⟩:=q7 m
   refine Q9 (fun q=>q = af) (fun (q : List qh)=>⟨[(0,.d (.sl 6 (o.map qr))),(1,q6 k),(5,.hs 0 4 0 q.length),(6,q6 l.1)],[(0,.dat 4 (q.map qs))],1⟩) (by simp) ?_ ?_
   ·refine qa<|U J<|U J ?_
    obtain ⟨j,ag,a⟩:=q7 a
    refine Q3 (enc:=qr) ag J<|O (.dref [G j.Lo.X,G j.Lo.Y,G j.Lo.Z,G j.Hi.X,G j.Hi.Y,G j.Hi.Z] 0) J<|O (.dref [G j.Lo.X,G j.Lo.Y,G j.Lo.Z,G j.Hi.X,G j.Hi.Y,G j.Hi.Z] 2) J<|O (q6 j.Lo.Z) J<|U J<|O (.d (.bool (decide (j.Lo.Z≤k)))) J ?_
    obtain ⟨ah,n,a⟩:=q7 a
    refine Q5 10 (fun A st=>∃ (u w x y z aa ab ac ad : V),st = A [(30,qf ah),(29,ad),(28,ac),(27,ab),(26,aa),(25,z),(24,y),(23,x),(22,w),(21,u)]) ?_ ?_
    ·refine Q6 J J n (fun n=>?_) (fun n=>?_)
     ·refine U J<|U J<|U J ?_
      obtain ⟨h,ai,n⟩:=q7 n
      refine Q3 (enc:=qr) ai J<|O (.dref [G h.Lo.X,G h.Lo.Y,G h.Lo.Z,G h.Hi.X,G h.Hi.Y,G h.Hi.Z] 3) J<|O (.dref [G h.Lo.X,G h.Lo.Y,G h.Lo.Z,G h.Hi.X,G h.Hi.Y,G h.Hi.Z] 5) J<|O (q6 h.Hi.Z) J<|O (.d (.bool (decide (k < h.Hi.Z)))) J<|O (.d (.bool (decide (k < h.Hi.Z)))) J<|q9 ?_
      obtain rfl:=qc n
      exact ⟨_,_,_,_,_,_,_,_,_,J⟩
     refine qb J<|qb J<|qb J<|qb J<|qb J<|qb J<|qb J<|qb J<|O (qf false) J<|q9 ?_
     obtain rfl:=qc n
     exact ⟨_,_,_,_,_,_,_,_,_,J⟩
    rintro _ ⟨u,w,x,y,z,aa,ab,ac,ad,rfl⟩
    refine q9 ?_
    refine qj J a (fun _ a=>?_) (fun _ a=>?_)
    ·refine Q2 [q0,(some [0,1],[0,2]),(some [],[1]),q0,q0,q0,q0,q0,q0,q0,q0,q0,q0,q0,q0,q0,q0,q0,q0,q0,q0,q0,q0,q0,q0,q0,q0,q0,q0] (by kernel_rfl)<|U J<|U J<|U J ?_
     obtain ⟨b,aj,a⟩:=q7 a
     refine Q3 (enc:=qr) aj J<|O (.dref [G b.Lo.X,G b.Lo.Y,G b.Lo.Z,G b.Hi.X,G b.Hi.Y,G b.Hi.Z] 0) J<|O (.dref [G b.Lo.X,G b.Lo.Y,G b.Lo.Z,G b.Hi.X,G b.Hi.Y,G b.Hi.Z] 0) J<|O (q6 b.Lo.X) J<|U J<|U J ?_
     obtain ⟨c,ak,a⟩:=q7 a
     refine Q3 (enc:=qr) ak J<|O (.dref [G c.Lo.X,G c.Lo.Y,G c.Lo.Z,G c.Hi.X,G c.Hi.Y,G c.Hi.Z] 0) J<|O (.dref [G c.Lo.X,G c.Lo.Y,G c.Lo.Z,G c.Hi.X,G c.Hi.Y,G c.Hi.Z] 1) J<|O (q6 c.Lo.Y) J<|U J<|U J ?_
     obtain ⟨f,al,a⟩:=q7 a
     refine Q3 (enc:=qr) al J<|O (.dref [G f.Lo.X,G f.Lo.Y,G f.Lo.Z,G f.Hi.X,G f.Hi.Y,G f.Hi.Z] 3) J<|O (.dref [G f.Lo.X,G f.Lo.Y,G f.Lo.Z,G f.Hi.X,G f.Hi.Y,G f.Hi.Z] 3) J<|O (q6 f.Hi.X) J<|U J<|U J ?_
     obtain ⟨g,am,a⟩:=q7 a
     refine Q3 (enc:=qr) am J<|O (.dref [G g.Lo.X,G g.Lo.Y,G g.Lo.Z,G g.Hi.X,G g.Hi.Y,G g.Hi.Z] 3) J<|O (.dref [G g.Lo.X,G g.Lo.Y,G g.Lo.Z,G g.Hi.X,G g.Hi.Y,G g.Hi.Z] 4) J<|O (q6 g.Hi.Y) J<|O (.d (.agg [G b.Lo.X,G c.Lo.Y,G f.Hi.X,G g.Hi.Y])) J<|Qe (.hs 1 4 0 [({X0:=b.Lo.X,Y0:=c.Lo.Y,X1:=f.Hi.X,Y1:=g.Hi.Y} : qh)].length) (.dat 4 ([({X0:=b.Lo.X,Y0:=c.Lo.Y,X1:=f.Hi.X,Y1:=g.Hi.Y} : qh)].map qs)) J ?_
     obtain ⟨ap,an,a⟩:=q7 a
     refine Kl (xs:=l.2) (ys:=[({X0:=b.Lo.X,Y0:=c.Lo.Y,X1:=f.Hi.X,Y1:=g.Hi.Y} : qh)]) (enc:=qs) (.hs 1 4 0 [({X0:=b.Lo.X,Y0:=c.Lo.Y,X1:=f.Hi.X,Y1:=g.Hi.Y} : qh)].length) an J J J J J J J (Ki J J) J J J J<|q8 J<|qq ?_
     obtain rfl:=qc a
     exact ⟨_,J,wkA [(0,2)] [] []⟩
    refine qk<|Q8 ?_
    obtain rfl:=qc a
    exact ⟨_,J,wkA [(0,0)] [] []⟩
   intro q hb
   subst hb
   refine qt<|U J<|O (.d (G (w64 (l.1 + 1)))) J<|q8 J<|qq ?_
   exact ⟨_,(Option.some.inj m).symm,wkA [(0,0)] [] []⟩
  refine Q1 ?_
  refine ⟨_,(Option.some.inj m).symm,fun hm=>?_⟩
  subst hm
  exact ⟨_,J,wkA [(0,0)] [] []⟩
 intro p hb
 subst hb
 refine qa<|U J<|q8 J<|qo ?_
 obtain rfl:=qc s
 exact finD (.inr J) (v:=.hs 0 4 0 p.length) J (Jf J J) (.refl _)
theorem qqx (p : List qh) (k : List qh) (r : List Int) (j : q71 p k = some r) : Pure Tryz.prog tab 91 [.sl 4 (p.map qs),.sl 4 (k.map qs)] (.sl 1 (r.map (eI .i64))):=by
 unfold q71 at j
 refine Qb Tryz.func91 J (by kernel_rfl) (by kernel_rfl) J<|qa<|q8 J<|qp<|q8 J<|q9<|qe<|qa<|q8 J<|q9 ?_
 obtain ⟨q,u,j⟩:=q7 j
 refine Q9 (fun o=>o = q) (fun (o : List Int)=>⟨[(1,.d (.sl 4 (k.map qs))),(5,.hs 0 1 0 o.length)],[(0,.dat 1 (o.map (eI .i64)))],1⟩) (by simp) ?_ ?_
 ·refine Q4 (q2t p) (fun (l : Int × List Int)=>⟨[(0,.d (.sl 4 (p.map qs))),(1,.d (.sl 4 (k.map qs))),(5,.hs 0 1 0 l.2.length),(6,q6 l.1)],[(0,.dat 1 (l.2.map (eI .i64)))],1⟩) (0,[]) q u (wkA [] [] [0]) ?_
  intro l ad a
  unfold q2t at a
  refine qe<|qa<|U J<|U J<|Qg J<|O (.d (.bool (decide (l.1 < (p.length : Int))))) J<|q9 ?_
  refine qj J a (fun _ a=>?_) (fun _ a=>?_)
  ·refine qk<|qe<|qw<|Q2 [q0,(some [0,1],[0,2]),(some [],[1]),q0,q0,q0,q0,q0,q0,q0,q0,q0,q0,q0] (by kernel_rfl)<|U J<|U J<|U J ?_
   obtain ⟨c,v,a⟩:=q7 a
   refine Q3 (enc:=qs) v J<|O (.dref [G c.X0,G c.Y0,G c.X1,G c.Y1] 0) J<|O (q6 c.X0) J<|U J<|U J ?_
   obtain ⟨f,w,a⟩:=q7 a
   refine Q3 (enc:=qs) w J<|O (.dref [G f.X0,G f.Y0,G f.X1,G f.Y1] 2) J<|O (q6 f.X1) J<|Qe (.hs 1 1 0 [c.X0,f.X1].length) (.dat 1 ([c.X0,f.X1].map (eI .i64))) J ?_
   obtain ⟨ae,x,a⟩:=q7 a
   refine Kl (xs:=l.2) (ys:=[c.X0,f.X1]) (enc:=(eI .i64)) (.hs 1 1 0 [c.X0,f.X1].length) x J J J J J J J (Ki J J) J J J J<|q8 J<|qq<|Qa<|qt<|U J<|O (.d (G (w64 (l.1 + 1)))) J<|q8 J<|qq ?_
   exact ⟨_,(Option.some.inj a).symm,wkA [(0,2)] [] []⟩
  refine Q1 ?_
  refine ⟨_,(Option.some.inj a).symm,fun hm=>?_⟩
  subst hm
  exact ⟨_,J,wkA [(0,0)] [] []⟩
 intro o hb
 subst hb
 refine qe<|qa<|q8 J<|q9 ?_
 obtain ⟨s,y,j⟩:=q7 j
 refine Q9 (fun m=>m = s) (fun (m : List Int)=>⟨[(5,.hs 0 1 0 m.length)],[(0,.dat 1 (m.map (eI .i64)))],1⟩) (by simp) ?_ ?_
 ·refine Q4 (q2u k) (fun (n : Int × List Int)=>⟨[(1,.d (.sl 4 (k.map qs))),(5,.hs 0 1 0 n.2.length),(7,q6 n.1)],[(0,.dat 1 (n.2.map (eI .i64)))],1⟩) (0,o) s y (wkA [(0,0)] [] []) ?_
  intro n af b
  unfold q2u at b
  refine qe<|qa<|U J<|U J<|Qg J<|O (.d (.bool (decide (n.1 < (k.length : Int))))) J<|q9 ?_
  refine qj J b (fun _ b=>?_) (fun _ b=>?_)
  ·refine qk<|qe<|qw<|Q2 [q0,(some [0,1],[0,2]),(some [],[1]),q0,q0,q0,q0,q0,q0,q0,q0,q0,q0,q0] (by kernel_rfl)<|U J<|U J<|U J ?_
   obtain ⟨g,z,b⟩:=q7 b
   refine Q3 (enc:=qs) z J<|O (.dref [G g.X0,G g.Y0,G g.X1,G g.Y1] 0) J<|O (q6 g.X0) J<|U J<|U J ?_
   obtain ⟨h,aa,b⟩:=q7 b
   refine Q3 (enc:=qs) aa J<|O (.dref [G h.X0,G h.Y0,G h.X1,G h.Y1] 2) J<|O (q6 h.X1) J<|Qe (.hs 1 1 0 [g.X0,h.X1].length) (.dat 1 ([g.X0,h.X1].map (eI .i64))) J ?_
   obtain ⟨ag,ab,b⟩:=q7 b
   refine Kl (xs:=n.2) (ys:=[g.X0,h.X1]) (enc:=(eI .i64)) (.hs 1 1 0 [g.X0,h.X1].length) ab J J J J J J J (Ki J J) J J J J<|q8 J<|qq<|Qa<|qt<|U J<|O (.d (G (w64 (n.1 + 1)))) J<|q8 J<|qq ?_
   exact ⟨_,(Option.some.inj b).symm,wkA [(0,2)] [] []⟩
  refine Q1 ?_
  refine ⟨_,(Option.some.inj b).symm,fun hm=>?_⟩
  subst hm
  exact ⟨_,J,wkA [(0,0)] [] []⟩
 intro m hb
 subst hb
 refine qe ?_
 refine Ym (st':=⟨[(5,.d (.sl 1 (m.map (eI .i64))))],[],0⟩) (wkA [] [0] []) ?_ (by simp)
 refine qt<|U J ?_
 obtain ⟨t,ac,j⟩:=q7 j
 refine qv (qdg m t ac) J<|q8 J<|qo ?_
 obtain rfl:=qc j
 exact qy (.d (.sl 1 (t.map (eI .i64)))) J
theorem qqz (p : List qh) (k : List qh) (r : List Int) (j : q72 p k = some r) : Pure Tryz.prog tab 92 [.sl 4 (p.map qs),.sl 4 (k.map qs)] (.sl 1 (r.map (eI .i64))):=by
 unfold q72 at j
 refine Qb Tryz.func92 J (by kernel_rfl) (by kernel_rfl) J<|qa<|q8 J<|qp<|q8 J<|q9<|qe<|qa<|q8 J<|q9 ?_
 obtain ⟨q,u,j⟩:=q7 j
 refine Q9 (fun o=>o = q) (fun (o : List Int)=>⟨[(1,.d (.sl 4 (k.map qs))),(5,.hs 0 1 0 o.length)],[(0,.dat 1 (o.map (eI .i64)))],1⟩) (by simp) ?_ ?_
 ·refine Q4 (q2v p) (fun (l : Int × List Int)=>⟨[(0,.d (.sl 4 (p.map qs))),(1,.d (.sl 4 (k.map qs))),(5,.hs 0 1 0 l.2.length),(6,q6 l.1)],[(0,.dat 1 (l.2.map (eI .i64)))],1⟩) (0,[]) q u (wkA [] [] [0]) ?_
  intro l ad a
  unfold q2v at a
  refine qe<|qa<|U J<|U J<|Qg J<|O (.d (.bool (decide (l.1 < (p.length : Int))))) J<|q9 ?_
  refine qj J a (fun _ a=>?_) (fun _ a=>?_)
  ·refine qk<|qe<|qw<|Q2 [q0,(some [0,1],[0,2]),(some [],[1]),q0,q0,q0,q0,q0,q0,q0,q0,q0,q0,q0] (by kernel_rfl)<|U J<|U J<|U J ?_
   obtain ⟨c,v,a⟩:=q7 a
   refine Q3 (enc:=qs) v J<|O (.dref [G c.X0,G c.Y0,G c.X1,G c.Y1] 1) J<|O (q6 c.Y0) J<|U J<|U J ?_
   obtain ⟨f,w,a⟩:=q7 a
   refine Q3 (enc:=qs) w J<|O (.dref [G f.X0,G f.Y0,G f.X1,G f.Y1] 3) J<|O (q6 f.Y1) J<|Qe (.hs 1 1 0 [c.Y0,f.Y1].length) (.dat 1 ([c.Y0,f.Y1].map (eI .i64))) J ?_
   obtain ⟨ae,x,a⟩:=q7 a
   refine Kl (xs:=l.2) (ys:=[c.Y0,f.Y1]) (enc:=(eI .i64)) (.hs 1 1 0 [c.Y0,f.Y1].length) x J J J J J J J (Ki J J) J J J J<|q8 J<|qq<|Qa<|qt<|U J<|O (.d (G (w64 (l.1 + 1)))) J<|q8 J<|qq ?_
   exact ⟨_,(Option.some.inj a).symm,wkA [(0,2)] [] []⟩
  refine Q1 ?_
  refine ⟨_,(Option.some.inj a).symm,fun hm=>?_⟩
  subst hm
  exact ⟨_,J,wkA [(0,0)] [] []⟩
 intro o hb
 subst hb
 refine qe<|qa<|q8 J<|q9 ?_
 obtain ⟨s,y,j⟩:=q7 j
 refine Q9 (fun m=>m = s) (fun (m : List Int)=>⟨[(5,.hs 0 1 0 m.length)],[(0,.dat 1 (m.map (eI .i64)))],1⟩) (by simp) ?_ ?_
 ·refine Q4 (q2w k) (fun (n : Int × List Int)=>⟨[(1,.d (.sl 4 (k.map qs))),(5,.hs 0 1 0 n.2.length),(7,q6 n.1)],[(0,.dat 1 (n.2.map (eI .i64)))],1⟩) (0,o) s y (wkA [(0,0)] [] []) ?_
  intro n af b
  unfold q2w at b
  refine qe<|qa<|U J<|U J<|Qg J<|O (.d (.bool (decide (n.1 < (k.length : Int))))) J<|q9 ?_
  refine qj J b (fun _ b=>?_) (fun _ b=>?_)
  ·refine qk<|qe<|qw<|Q2 [q0,(some [0,1],[0,2]),(some [],[1]),q0,q0,q0,q0,q0,q0,q0,q0,q0,q0,q0] (by kernel_rfl)<|U J<|U J<|U J ?_
   obtain ⟨g,z,b⟩:=q7 b
   refine Q3 (enc:=qs) z J<|O (.dref [G g.X0,G g.Y0,G g.X1,G g.Y1] 1) J<|O (q6 g.Y0) J<|U J<|U J ?_
   obtain ⟨h,aa,b⟩:=q7 b
   refine Q3 (enc:=qs) aa J<|O (.dref [G h.X0,G h.Y0,G h.X1,G h.Y1] 3) J<|O (q6 h.Y1) J<|Qe (.hs 1 1 0 [g.Y0,h.Y1].length) (.dat 1 ([g.Y0,h.Y1].map (eI .i64))) J ?_
   obtain ⟨ag,ab,b⟩:=q7 b
   refine Kl (xs:=n.2) (ys:=[g.Y0,h.Y1]) (enc:=(eI .i64)) (.hs 1 1 0 [g.Y0,h.Y1].length) ab J J J J J J J (Ki J J) J J J J<|q8 J<|qq<|Qa<|qt<|U J<|O (.d (G (w64 (n.1 + 1)))) J<|q8 J<|qq ?_
   exact ⟨_,(Option.some.inj b).symm,wkA [(0,2)] [] []⟩
  refine Q1 ?_
  refine ⟨_,(Option.some.inj b).symm,fun hm=>?_⟩
  subst hm
  exact ⟨_,J,wkA [(0,0)] [] []⟩
 intro m hb
 subst hb
 refine qe ?_
 refine Ym (st':=⟨[(5,.d (.sl 1 (m.map (eI .i64))))],[],0⟩) (wkA [] [0] []) ?_ (by simp)
 refine qt<|U J ?_
 obtain ⟨t,ac,j⟩:=q7 j
 refine qv (qdg m t ac) J<|q8 J<|qo ?_
 obtain rfl:=qc j
 exact qy (.d (.sl 1 (t.map (eI .i64)))) J
theorem qij (n : List qh) (c : Int) (b : Int) (r : Bool) (o : q4n n c b = some r) : Pure Tryz.prog tab 45 [.sl 4 (n.map qs),G c,G b] (.bool r):=by
 unfold q4n at o
 refine Qb Tryz.func45 J (by kernel_rfl) (by kernel_rfl) J<|qa<|q8 J<|q9<|qe<|qa<|q8 J<|q9 ?_
 obtain ⟨s,ar,o⟩:=q7 o
 refine Q9 (fun q=>.inl q = s) (fun (q : Unit)=>⟨[],[],0⟩) (by simp) ?_ ?_
 ·refine Q4 (q1j n c b) (fun (p : Int)=>⟨[(0,.d (.sl 4 (n.map qs))),(1,q6 c),(2,q6 b),(7,q6 p)],[],0⟩) 0 s ar (wkA [] [] []) ?_
  intro p bb a
  unfold q1j at a
  refine qe<|qa<|U J<|U J<|Qg J<|O (.d (.bool (decide (p < (n.length : Int))))) J<|q9 ?_
  refine qj J a (fun _ a=>?_) (fun _ a=>?_)
  ·refine qk<|qe<|qw<|qa<|U J<|U J ?_
   obtain ⟨m,au,a⟩:=q7 a
   refine Q3 (enc:=qs) au J<|O (.dref [G m.X0,G m.Y0,G m.X1,G m.Y1] 0) J<|O (q6 m.X0) J<|U J<|O (.d (.bool (decide (m.X0≤c)))) J ?_
   obtain ⟨av,f,a⟩:=q7 a
   refine Q5 9 (fun A st=>∃ (t u v w x y z aa : V),st = A [(29,qf av),(28,aa),(27,z),(26,y),(25,x),(24,w),(23,v),(22,u),(21,t)]) ?_ ?_
   ·refine Q6 J J f (fun f=>?_) (fun f=>?_)
    ·refine U J<|U J<|U J ?_
     obtain ⟨g,aw,f⟩:=q7 f
     refine Q3 (enc:=qs) aw J<|O (.dref [G g.X0,G g.Y0,G g.X1,G g.Y1] 2) J<|O (q6 g.X1) J<|O (.d (.bool (decide (c < g.X1)))) J<|O (.d (.bool (decide (c < g.X1)))) J<|q9 ?_
     obtain rfl:=qc f
     exact ⟨_,_,_,_,_,_,_,_,J⟩
    refine qb J<|qb J<|qb J<|qb J<|qb J<|qb J<|qb J<|O (qf false) J<|q9 ?_
    obtain rfl:=qc f
    exact ⟨_,_,_,_,_,_,_,_,J⟩
   rintro _ ⟨t,u,v,w,x,y,z,aa,rfl⟩
   obtain ⟨ax,h,a⟩:=q7 a
   refine Q5 9 (fun A st=>∃ (ab ac ad ae af ag ah ai : V),st = A [(38,qf ax),(37,ai),(36,ah),(35,ag),(34,af),(33,ae),(32,ad),(31,ac),(30,ab)]) ?_ ?_
   ·refine Q6 J J h (fun h=>?_) (fun h=>?_)
    ·refine U J<|U J ?_
     obtain ⟨j,ay,h⟩:=q7 h
     refine Q3 (enc:=qs) ay J<|O (.dref [G j.X0,G j.Y0,G j.X1,G j.Y1] 1) J<|O (q6 j.Y0) J<|U J<|O (.d (.bool (decide (j.Y0≤b)))) J<|O (.d (.bool (decide (j.Y0≤b)))) J<|q9 ?_
     obtain rfl:=qc h
     exact ⟨_,_,_,_,_,_,_,_,J⟩
    refine qb J<|qb J<|qb J<|qb J<|qb J<|qb J<|qb J<|O (qf false) J<|q9 ?_
    obtain rfl:=qc h
    exact ⟨_,_,_,_,_,_,_,_,J⟩
   rintro _ ⟨ab,ac,ad,ae,af,ag,ah,ai,rfl⟩
   obtain ⟨az,k,a⟩:=q7 a
   refine Q5 9 (fun A st=>∃ (aj ak al am an ao ap aq : V),st = A [(47,qf az),(46,aq),(45,ap),(44,ao),(43,an),(42,am),(41,al),(40,ak),(39,aj)]) ?_ ?_
   ·refine Q6 J J k (fun k=>?_) (fun k=>?_)
    ·refine U J<|U J<|U J ?_
     obtain ⟨l,ba,k⟩:=q7 k
     refine Q3 (enc:=qs) ba J<|O (.dref [G l.X0,G l.Y0,G l.X1,G l.Y1] 3) J<|O (q6 l.Y1) J<|O (.d (.bool (decide (b < l.Y1)))) J<|O (.d (.bool (decide (b < l.Y1)))) J<|q9 ?_
     obtain rfl:=qc k
     exact ⟨_,_,_,_,_,_,_,_,J⟩
    refine qb J<|qb J<|qb J<|qb J<|qb J<|qb J<|qb J<|O (qf false) J<|q9 ?_
    obtain rfl:=qc k
    exact ⟨_,_,_,_,_,_,_,_,J⟩
   rintro _ ⟨aj,ak,al,am,an,ao,ap,aq,rfl⟩
   refine q9 ?_
   refine qj J a (fun _ a=>?_) (fun _ a=>?_)
   ·refine qa<|q8 J<|qo ?_
    refine ⟨_,(Option.some.inj a).symm,fun hm=>?_⟩
    subst hm
    obtain rfl:=qc o
    exact qy (qf true) J
   refine qk<|Q8<|Qa<|qt<|U J<|O (.d (G (w64 (p + 1)))) J<|q8 J<|qq ?_
   exact ⟨_,(Option.some.inj a).symm,wkA [] [] []⟩
  refine Q1 ?_
  refine ⟨_,(Option.some.inj a).symm,fun hm=>?_⟩
  subst hm
  exact ⟨_,J,wkA [] [] []⟩
 intro q hb
 subst hb
 refine qa<|q8 J<|qo ?_
 obtain rfl:=qc o
 exact qy (qf false) J
theorem qqs (g : Int) (h : Bool) (b : Bool) (r : Bool) (a : q4l g h b = some r) : Pure Tryz.prog tab 93 [G g,.bool h,.bool b] (.bool r):=by
 unfold q4l at a
 refine Qb Tryz.func93 J (by kernel_rfl) (by kernel_rfl) J<|qa<|q8 J<|q9<|qe<|qa<|U J<|O (qf (g == 1)) J<|q9 ?_
 refine qj J a (fun _ a=>?_) (fun _ a=>?_)
 ·refine qa<|U J ?_
  obtain ⟨j,c,a⟩:=q7 a
  refine Q5 3 (fun A st=>∃ (k l : V),st = A [(12,qf j),(11,l),(10,k)]) ?_ ?_
  ·refine Q6 J J c (fun c=>?_) (fun c=>?_)
   ·refine U J<|O (qf b) J<|q9 ?_
    obtain rfl:=qc c
    exact ⟨_,_,J⟩
   refine qb J<|O (qf false) J<|q9 ?_
   obtain rfl:=qc c
   exact ⟨_,_,J⟩
  rintro _ ⟨k,l,rfl⟩
  refine q8 J<|qo ?_
  obtain rfl:=qc a
  exact qy (qf j) J
 refine qk<|qe<|qa<|U J<|O (qf (g == 2)) J<|q9 ?_
 refine qj J a (fun _ a=>?_) (fun _ a=>?_)
 ·refine qa<|U J ?_
  obtain ⟨m,d,a⟩:=q7 a
  refine Q5 3 (fun A st=>∃ (n o : V),st = A [(18,qf m),(17,o),(16,n)]) ?_ ?_
  ·refine Q6 J J d (fun d=>?_) (fun d=>?_)
   ·refine qb J<|O (qf true) J<|q9 ?_
    obtain rfl:=qc d
    exact ⟨_,_,J⟩
   refine U J<|O (qf b) J<|q9 ?_
   obtain rfl:=qc d
   exact ⟨_,_,J⟩
  rintro _ ⟨n,o,rfl⟩
  refine q8 J<|qo ?_
  obtain rfl:=qc a
  exact qy (qf m) J
 refine qk<|qa<|U J ?_
 obtain ⟨p,f,a⟩:=q7 a
 refine Q5 4 (fun A st=>∃ (q s t : V),st = A [(23,qf p),(22,t),(21,s),(20,q)]) ?_ ?_
 ·refine Q6 J J f (fun f=>?_) (fun f=>?_)
  ·refine U J<|O (qf (!b)) J<|O (qf (!b)) J<|q9 ?_
   obtain rfl:=qc f
   exact ⟨_,_,_,J⟩
  refine qb J<|qb J<|O (qf false) J<|q9 ?_
  obtain rfl:=qc f
  exact ⟨_,_,_,J⟩
 rintro _ ⟨q,s,t,rfl⟩
 refine q8 J<|qo ?_
 obtain rfl:=qc a
 exact qy (qf p) J
end Go.Proofs.YtjjmcdlnadkjbaaGreat
