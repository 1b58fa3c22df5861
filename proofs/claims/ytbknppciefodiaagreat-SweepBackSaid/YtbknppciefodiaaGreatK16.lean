/- W_Allb -/
import Derived.Test.YtbknppciefodiaaGreatK15
namespace Go.Proofs.YtbknppciefodiaaGreat
open Go Go.Am Go.Sh
set_option maxHeartbeats 8000000
set_option maxRecDepth 100000
theorem qz2 (h : List qn) (g : Int) (k : Int) (j : qn→qn→Option Int) (p3F : FuncId) (p3C : List DV) (p3Ok : ∀ (m : qn) (n : qn) (r : Int),j m n = some r→Pure Tryz.prog tab p3F ([.agg [q8 m.at_,q8 m.list_,q8 m.by_],.agg [q8 n.at_,q8 n.list_,q8 n.by_]] ++ p3C) (q8 r)) (r : Int × Int) (a : q9z h g k j = some r) : Pure Tryz.prog tab 178 [.sl 3 (h.map Qr),q8 g,q8 k,.fn p3F p3C] (.tup [q8 r.1,q8 r.2]):=by
 unfold q9z at a
 refine Qo Tryz.func178 J qh qh J<|qc<|qa J<|qa J<|qt<|O J<|O J<|G _ J<|qa J<|qt<|K4 J J<|qt<|O J<|O J<|G _ J<|G _ J<|G _ J<|qa J<|qt<|O J<|O J<|G _ J<|G _ J<|G _ J<|qa J<|qt<|O J<|O J<|G _ J<|G _ J<|G _ J<|qa J<|q9<|qf<|qc<|O J<|G _ J<|q9 ?_
 obtain ⟨t,f,a⟩:=q7 a
 refine Yw (fun l=>l = t) (fun l=>⟨[(11,.ref 0 1 0 0),(13,q6 l.1)],[(0,.dat 1 [[q8 l.2]])],1⟩) qe ?_ ?_
 ·refine qo J f (fun _ f=>?_) (fun _ f=>?_)
  ·refine qf<|qc<|O J<|G _ J<|q9 ?_
   obtain ⟨u,b,f⟩:=q7 f
   refine Yw (fun c=>c = u) (fun c=>⟨[(0,.d (.sl 3 (h.map Qr))),(3,.d (.fn p3F p3C)),(11,.ref 0 1 0 0),(12,q6 c.1),(13,q6 c.2.1),(14,q6 c.2.2.1)],[(0,.dat 1 [[q8 c.2.2.2]])],1⟩) qe ?_ ?_
   ·refine qo J b (fun _ b=>?_) (fun _ b=>?_)
    ·refine qc<|O J<|O J<|O J ?_
     obtain ⟨o,v,b⟩:=q7 b
     refine K9 [(0,0)] [(0,0)] _ (q6 o.1) 1 [(0,.dat 1 [[q8 o.2]])] 1 (qgw j p3F p3C p3Ok h (w64 (g + (w64 ((w64 (Int.tdiv (w64 (k - g)) 4)) * 1)))) 0 o v)<|qa J<|qt<|O J<|O J<|O J ?_
     obtain ⟨p,w,b⟩:=q7 b
     refine K9 [(0,0)] [(0,0)] _ (q6 p.1) 1 [(0,.dat 1 [[q8 p.2]])] 1 (qgw j p3F p3C p3Ok h (w64 (g + (w64 ((w64 (Int.tdiv (w64 (k - g)) 4)) * 2)))) o.2 p w)<|qa J<|q9<|qw<|O J<|O J<|O J ?_
     obtain ⟨q,x,b⟩:=q7 b
     refine K9 [(0,0)] [(0,0)] _ (q6 q.1) 1 [(0,.dat 1 [[q8 q.2]])] 1 (qgw j p3F p3C p3Ok h (w64 (g + (w64 ((w64 (Int.tdiv (w64 (k - g)) 4)) * 3)))) p.2 q x)<|qa J<|qv ?_
     obtain rfl:=qd b
     exact ⟨_,J,wkA [(0,0)] [] []⟩
    refine ql<|Qf ?_
    obtain rfl:=qd b
    exact ⟨_,J,wkA [(0,0)] [] []⟩
   intro c hb
   subst hb
   refine qw<|O J<|O J<|O J<|O J<|O J ?_
   obtain ⟨s,y,f⟩:=q7 f
   refine K9 [(0,0)] [(0,0)] _ (q6 s.1) 1 [(0,.dat 1 [[q8 s.2]])] 1 (qnd j p3F p3C p3Ok h c.1 c.2.1 c.2.2.1 c.2.2.2 s y)<|qa J<|qv ?_
   obtain rfl:=qd f
   exact ⟨_,J,wkA [(0,0)] [] []⟩
  refine ql<|Qf ?_
  obtain rfl:=qd f
  exact ⟨_,J,wkA [(0,0)] [] []⟩
 intro l hb
 subst hb
 refine qc<|G _ J<|q9<|Q3<|qc<|G _ J<|qa J<|q9 ?_
 refine qo J a (fun _ a=>?_) (fun _ a=>?_)
 ·refine qc<|O J<|qa J<|qa J<|qs ?_
  obtain rfl:=qd a
  exact Q5 _ J
 refine qc<|G _ J<|qa J<|q9 ?_
 refine qo J a (fun _ a=>?_) (fun _ a=>?_)
 ·refine qc<|O J<|qa J<|qa J<|qs ?_
  obtain rfl:=qd a
  exact Q5 _ J
 refine qc<|O J<|qa J<|qa J<|qs ?_
 obtain rfl:=qd a
 exact Q5 _ J
theorem qzi (l : qn→qn→Option Int) (q1F : FuncId) (q1C : List DV) (_q1Ok : ∀ (c : qn) (f : qn) (r : Int),l c f = some r→Pure Tryz.prog tab q1F ([.agg [q8 c.at_,q8 c.list_,q8 c.by_],.agg [q8 f.at_,q8 f.list_,q8 f.by_]] ++ q1C) (q8 r)) (g : List qn) (j : Int) (k : Int) (r : List qn) (h : qak l g j k = some r) : K8 Tryz.prog tab 179 [.hs 0 3 0 g.length,q6 j,q6 k,.d (.fn q1F q1C)] [(0,.dat 3 (g.map Qr))] 1 (.d (.tup [])) [(0,.dat 3 (r.map Qr))] 1:=by
 unfold qak at h
 refine Kr Tryz.func179 J qh qh J<|qc<|O J<|qa J<|qt<|O J<|G _ J<|qa J<|q9 ?_
 obtain ⟨q,s,h⟩:=q7 h
 refine Q3<|Qe (qal) (fun b=>⟨[(0,.hs 0 3 0 b.2.2.length),(8,q6 b.1),(9,q6 b.2.1)],[(0,.dat 3 (b.2.2.map Qr))],1⟩) (j,w64 (k - 1),g) q s (wkA [] [] []) ?_
 intro b v a
 unfold qal at a
 refine qf<|qc<|O J<|O J<|G _ J<|q9 ?_
 refine qo J a (fun _ a=>?_) (fun _ a=>?_)
 ·refine ql<|Q3<|qf<|Qj [Qv 0,U,Qv 0,U,qu 0,U,U,U,qu 0,U,U,U,U,U,U,U] qh<|O J<|O J<|O J<|O J<|O J<|O J ?_
  obtain ⟨t,m,a⟩:=q7 a
  refine qz m J J<|Qd _ m J<|O J<|O J ?_
  obtain ⟨u,n,a⟩:=q7 a
  refine qz n J J<|Qd _ n J ?_
  obtain ⟨w,o,a⟩:=q7 a
  refine qz o J J<|K5 t o J J J J J J J J (leb J) J ?_
  obtain ⟨x,p,a⟩:=q7 a
  refine qz p qe J<|K5 u p J J J J J J J J (leb J) J<|qt<|O J<|G _ J<|qa J<|q9<|qw<|O J<|G _ J<|qa J<|qv<|Qn<|Qf ?_
  exact ⟨_,qm a,wkE [] [] [] J ⟨⟨_,J,K6 qe J qx (ltd J)⟩,qr J,qr J,trivial⟩ ⟨Qt J J,trivial⟩⟩
 refine Q8 ?_
 refine ⟨_,qm a,fun hm=>?_⟩
 subst hm
 obtain rfl:=qd h
 exact ⟨.inl J,_,J,wkA [] [] []⟩
theorem qz8 (o : qn→qn→Option Int) (q1F : FuncId) (q1C : List DV) (q1Ok : ∀ (t : qn) (u : qn) (r : Int),o t u = some r→Pure Tryz.prog tab q1F ([.agg [q8 t.at_,q8 t.list_,q8 t.by_],.agg [q8 u.at_,q8 u.list_,q8 u.by_]] ++ q1C) (q8 r)) (v : List qn) (j : Int) (g : Int) (r : Bool × List qn) (p : q77 o v j g = some r) : K8 Tryz.prog tab 180 [.hs 0 3 0 v.length,q6 j,q6 g,.d (.fn q1F q1C)] [(0,.dat 3 (v.map Qr))] 1 (Q0 r.1) [(0,.dat 3 (r.2.map Qr))] 1:=by
 unfold q77 at p
 refine Kr Tryz.func180 J qh qh J<|qc<|qa J<|qt<|O J<|G _ J<|qa J<|q9<|qf<|qc<|qa J<|q9 ?_
 obtain ⟨z,bm,p⟩:=q7 p
 refine Qk (fun w=>.inl w = z) (fun w=>⟨[],[(0,.dat 3 (w.map Qr))],1⟩) qe ?_ ?_
 ·refine Qe (q78 g o j) (fun f=>⟨[(0,.hs 0 3 0 f.2.2.length),(1,q6 j),(2,q6 g),(3,.d (.fn q1F q1C)),(9,q6 f.1),(10,q6 f.2.1)],[(0,.dat 3 (f.2.2.map Qr))],1⟩) (w64 (j + 1),0,v) z bm (wkA [] [] []) ?_
  intro f co l
  unfold q78 at l
  refine qf<|qc<|O J<|G _ J<|q9 ?_
  refine qo J l (fun _ l=>?_) (fun _ l=>?_)
  ·refine ql<|qf ?_
   obtain ⟨bn,a,l⟩:=q7 l
   refine Qk (fun q=>.inl q = bn) (fun q=>⟨[(0,.hs 0 3 0 q.2.length),(1,q6 j),(2,q6 g),(3,.d (.fn q1F q1C)),(9,q6 q.1),(10,q6 f.2.1)],[(0,.dat 3 (q.2.map Qr))],1⟩) qe ?_ ?_
   ·refine qf ?_
    obtain ⟨aa,bo,a⟩:=q7 a
    refine Qk (fun h=>h = aa) (fun h=>⟨[(0,.hs 0 3 0 f.2.2.length),(1,q6 j),(2,q6 g),(3,.d (.fn q1F q1C)),(9,q6 h),(10,q6 f.2.1)],[(0,.dat 3 (f.2.2.map Qr))],1⟩) qe ?_ ?_
    ·refine Qe (qa6 g f o) (fun ab=>⟨[(0,.hs 0 3 0 f.2.2.length),(1,q6 j),(2,q6 g),(3,.d (.fn q1F q1C)),(9,q6 ab),(10,q6 f.2.1)],[(0,.dat 3 (f.2.2.map Qr))],1⟩) f.1 aa bo (wkA [] [] []) ?_
     intro ab cp m
     unfold qa6 at m
     refine qf<|qf<|Qj [U,U,U,U,qu 0,U,U,U,U,qu 0,U,U,U,U,U,U,U,U] qh<|O J<|O J<|G _ J ?_
     obtain ⟨bp,k,m⟩:=q7 m
     refine Qb 15 (fun A st=>∃ ac ad ae af ag ah ai aj ak al am an ao ap,st = A [(36,Q0 bp),(35,ap),(34,ao),(33,an),(32,am),(31,al),(30,ak),(29,aj),(28,ai),(27,ah),(26,ag),(25,af),(24,ae),(23,ad),(22,ac)]) ?_ ?_
     ·refine Q9 J J k (fun k=>?_) (fun k=>?_)
      ·refine O J<|O J<|O J ?_
       obtain ⟨bq,aq,k⟩:=q7 k
       refine qz aq J J<|Qd _ aq J<|O J<|O J<|G _ J ?_
       obtain ⟨br,ar,k⟩:=q7 k
       refine qz ar J J<|Qd _ ar J ?_
       obtain ⟨bs,bt,k⟩:=q7 k
       refine Yk _ (q1Ok bq br bs bt) J J J (.inl J)<|G _ J<|G _ J<|G _ J<|q9 ?_
       obtain rfl:=qd k
       exact ⟨_,_,_,_,_,_,_,_,_,_,_,_,_,_,J⟩
      refine qb J<|qb J<|qb J<|qb J<|qb J<|qb J<|qb J<|qb J<|qb J<|qb J<|qb J<|qb J<|qb J<|G _ J<|q9 ?_
      obtain rfl:=qd k
      exact ⟨_,_,_,_,_,_,_,_,_,_,_,_,_,_,J⟩
     rintro _ ⟨ac,ad,ae,af,ag,ah,ai,aj,ak,al,am,an,ao,ap,rfl⟩
     refine q9 ?_
     refine qo J m (fun _ m=>?_) (fun _ m=>?_)
     ·refine ql<|Q3<|qw<|O J<|G _ J<|qa J<|qv<|Qn<|Qf ?_
      exact ⟨_,qm m,wkA [] [] []⟩
     refine Q8 ?_
     refine ⟨_,qm m,fun hm=>?_⟩
     subst hm
     exact ⟨_,J,wkA [] [] []⟩
    intro h hb
    subst hb
    refine qf<|qc<|O J<|O J<|G _ J<|q9 ?_
    refine qo J a (fun _ a=>?_) (fun _ a=>?_)
    ·refine qc<|qa J<|qs ?_
     obtain rfl:=qd a
     refine ⟨_,qm l,fun hm=>?_⟩
     subst hm
     obtain rfl:=qd p
     exact ⟨.inr J,_,J,wkA [] [] []⟩
    refine ql<|qf<|qc<|O J<|O J<|G _ J<|G _ J<|q9 ?_
    refine qo J a (fun _ a=>?_) (fun _ a=>?_)
    ·refine qc<|qa J<|qs ?_
     obtain rfl:=qd a
     refine ⟨_,qm l,fun hm=>?_⟩
     subst hm
     obtain rfl:=qd p
     exact ⟨.inr J,_,J,wkA [] [] []⟩
    refine ql<|qf<|Qj [Qv 0,U,Qv 0,U,qu 0,U,U,U,qu 0,U,U,U,U,U,U,U,U,U] qh<|O J<|O J<|O J<|O J<|G _ J<|O J<|O J<|G _ J ?_
    obtain ⟨au,av,a⟩:=q7 a
    refine qz av J J<|Qd _ av J<|O J<|O J ?_
    obtain ⟨aw,ax,a⟩:=q7 a
    refine qz ax J J<|Qd _ ax J ?_
    obtain ⟨cq,ay,a⟩:=q7 a
    refine qz ay J J<|K5 au ay J J J J J J J J (leb J) J ?_
    obtain ⟨cr,az,a⟩:=q7 a
    refine qz az qe J<|K5 aw az J J J J J J J J (leb J) J<|q9<|qf<|qc<|O J<|O J<|G _ J<|G _ J<|q9 ?_
    obtain ⟨bu,n,a⟩:=q7 a
    refine Yw (fun s=>s = bu) (fun s=>⟨[(0,.hs 0 3 0 s.length),(1,q6 j),(2,q6 g),(3,.d (.fn q1F q1C)),(9,q6 h),(10,q6 f.2.1)],[(0,.dat 3 (s.map Qr))],1⟩) qe ?_ ?_
    ·refine qo J n (fun _ n=>?_) (fun _ n=>?_)
     ·refine qc<|O J<|G _ J<|qa J<|q9 ?_
      obtain ⟨bv,bw,n⟩:=q7 n
      refine Q3<|Qe (qa7 o) (fun x=>⟨[(0,.hs 0 3 0 x.2.length),(1,q6 j),(2,q6 g),(3,.d (.fn q1F q1C)),(9,q6 h),(10,q6 f.2.1),(11,q6 x.1)],[(0,.dat 3 (x.2.map Qr))],1⟩) (w64 (h - 1),(f.2.2.set h.toNat au).set (w64 (h - 1)).toNat aw) bv bw (wkE [] [] [] J ⟨⟨_,J,K6 qe J qx (ltd J)⟩,qr J,qr J,qr J,qr J,qr J,qr J,trivial⟩ ⟨Qt J J,trivial⟩) ?_
      intro x cs b
      unfold qa7 at b
      refine qf<|qc<|O J<|G _ J<|q9 ?_
      refine qo J b (fun _ b=>?_) (fun _ b=>?_)
      ·refine ql<|qf<|Q3<|qf<|qf<|Qj [U,U,U,qu 0,U,U,U,U,qu 0,U,U,U,U] qh<|O J<|O J<|O J ?_
       obtain ⟨bz,ba,b⟩:=q7 b
       refine qz ba J J<|Qd _ ba J<|O J<|O J<|G _ J ?_
       obtain ⟨ca,bb,b⟩:=q7 b
       refine qz bb J J<|Qd _ bb J ?_
       obtain ⟨cb,cc,b⟩:=q7 b
       refine Yk _ (q1Ok bz ca cb cc) J J J (.inl J)<|G _ J<|G _ J<|q9 ?_
       refine qo J b (fun _ b=>?_) (fun _ b=>?_)
       ·refine Q8 ?_
        refine ⟨_,qm b,fun hm=>?_⟩
        subst hm
        obtain rfl:=qd n
        exact ⟨_,J,wkA [] [] []⟩
       refine ql<|Qj [Qv 0,U,Qv 0,U,qu 0,U,U,U,qu 0,U,U,U,U,U,U,U,U,U] qh<|O J<|O J<|O J<|O J<|G _ J<|O J<|O J<|G _ J ?_
       obtain ⟨cd,bc,b⟩:=q7 b
       refine qz bc J J<|Qd _ bc J<|O J<|O J ?_
       obtain ⟨ce,bd,b⟩:=q7 b
       refine qz bd J J<|Qd _ bd J ?_
       obtain ⟨ct,be,b⟩:=q7 b
       refine qz be J J<|K5 cd be J J J J J J J J (leb J) J ?_
       obtain ⟨cu,bf,b⟩:=q7 b
       refine qz bf qe J<|K5 ce bf J J J J J J J J (leb J) J<|qv<|Qn<|qw<|O J<|G _ J<|qa J<|qv ?_
       exact ⟨_,qm b,wkE [] [] [] J ⟨⟨_,J,K6 qe J qx (ltd J)⟩,qr J,qr J,qr J,qr J,qr J,qr J,trivial⟩ ⟨Qt J J,trivial⟩⟩
      refine Q8 ?_
      refine ⟨_,qm b,fun hm=>?_⟩
      subst hm
      obtain rfl:=qd n
      exact ⟨_,J,wkA [] [] []⟩
     refine ql<|Qf ?_
     obtain rfl:=qd n
     exact ⟨_,J,wkE [] [] [] J ⟨⟨_,J,K6 qe J qx (ltd J)⟩,qr J,qr J,qr J,qr J,qr J,trivial⟩ ⟨Qt J J,trivial⟩⟩
    intro s hb
    subst hb
    refine qc<|O J<|O J<|G _ J<|G _ J<|q9 ?_
    refine qo J a (fun _ a=>?_) (fun _ a=>?_)
    ·refine qc<|O J<|G _ J<|qa J<|q9 ?_
     obtain ⟨cf,cg,a⟩:=q7 a
     refine Q3<|Qe (qa8 g o h) (fun y=>⟨[(0,.hs 0 3 0 y.2.length),(1,q6 j),(2,q6 g),(3,.d (.fn q1F q1C)),(9,q6 h),(10,q6 f.2.1),(12,q6 y.1)],[(0,.dat 3 (y.2.map Qr))],1⟩) (w64 (h + 1),s) cf cg (wkA [] [] []) ?_
     intro y cv c
     unfold qa8 at c
     refine qf<|qc<|O J<|O J<|G _ J<|q9 ?_
     refine qo J c (fun _ c=>?_) (fun _ c=>?_)
     ·refine ql<|qf<|Q3<|qf<|qf<|Qj [U,U,U,qu 0,U,U,U,U,qu 0,U,U,U,U] qh<|O J<|O J<|O J ?_
      obtain ⟨ch,bg,c⟩:=q7 c
      refine qz bg J J<|Qd _ bg J<|O J<|O J<|G _ J ?_
      obtain ⟨ci,bh,c⟩:=q7 c
      refine qz bh J J<|Qd _ bh J ?_
      obtain ⟨cj,ck,c⟩:=q7 c
      refine Yk _ (q1Ok ch ci cj ck) J J J (.inl J)<|G _ J<|G _ J<|q9 ?_
      refine qo J c (fun _ c=>?_) (fun _ c=>?_)
      ·refine Q8 ?_
       refine ⟨_,qm c,fun hm=>?_⟩
       subst hm
       obtain rfl:=qd a
       exact ⟨_,J,wkA [] [] []⟩
      refine ql<|Qj [Qv 0,U,Qv 0,U,qu 0,U,U,U,qu 0,U,U,U,U,U,U,U,U,U] qh<|O J<|O J<|O J<|O J<|G _ J<|O J<|O J<|G _ J ?_
      obtain ⟨cm,bi,c⟩:=q7 c
      refine qz bi J J<|Qd _ bi J<|O J<|O J ?_
      obtain ⟨cn,bj,c⟩:=q7 c
      refine qz bj J J<|Qd _ bj J ?_
      obtain ⟨cw,bk,c⟩:=q7 c
      refine qz bk J J<|K5 cm bk J J J J J J J J (leb J) J ?_
      obtain ⟨cx,bl,c⟩:=q7 c
      refine qz bl qe J<|K5 cn bl J J J J J J J J (leb J) J<|qv<|Qn<|qw<|O J<|G _ J<|qa J<|qv ?_
      exact ⟨_,qm c,wkE [] [] [] J ⟨⟨_,J,K6 qe J qx (ltd J)⟩,qr J,qr J,qr J,qr J,qr J,qr J,trivial⟩ ⟨Qt J J,trivial⟩⟩
     refine Q8 ?_
     refine ⟨_,qm c,fun hm=>?_⟩
     subst hm
     obtain rfl:=qd a
     exact ⟨_,J,wkA [] [] []⟩
    refine ql<|Qf ?_
    obtain rfl:=qd a
    exact ⟨_,J,wkA [] [] []⟩
   intro q hb
   subst hb
   refine qw<|O J<|G _ J<|qa J<|qv ?_
   exact ⟨_,qm l,wkA [] [] []⟩
  refine Q8 ?_
  refine ⟨_,qm l,fun hm=>?_⟩
  subst hm
  exact ⟨_,J,wkA [] [] []⟩
 intro w hb
 subst hb
 refine qc<|qa J<|qs ?_
 obtain rfl:=qd p
 exact ⟨.inr J,_,J,wkA [] [] []⟩
theorem qzb (m : qn→qn→Option Int) (q1F : FuncId) (q1C : List DV) (q1Ok : ∀ (o : qn) (p : qn) (r : Int),m o p = some r→Pure Tryz.prog tab q1F ([.agg [q8 o.at_,q8 o.list_,q8 o.by_],.agg [q8 p.at_,q8 p.list_,q8 p.by_]] ++ q1C) (q8 r)) (q : List qn) (c : Int) (t : Int) (u : Int) (r : Int × List qn) (f : qag m q c t u = some r) : K8 Tryz.prog tab 181 [.hs 0 3 0 q.length,q6 c,q6 t,q6 u,.d (.fn q1F q1C)] [(0,.dat 3 (q.map Qr))] 1 (q6 r.1) [(0,.dat 3 (r.2.map Qr))] 1:=by
 unfold qag at f
 refine Kr Tryz.func181 J qh qh J<|qc<|qa J<|q9<|qf<|Qj [Qv 0,U,Qv 0,U,qu 0,U,U,U,qu 0,U,U,U,U,U,U,U] qh<|O J<|O J<|O J<|O J<|O J<|O J ?_
 obtain ⟨v,w,f⟩:=q7 f
 refine qz w J J<|Qd _ w J<|O J<|O J ?_
 obtain ⟨x,y,f⟩:=q7 f
 refine qz y J J<|Qd _ y J ?_
 obtain ⟨cg,z,f⟩:=q7 f
 refine qz z J J<|K5 v z J J J J J J J J (leb J) J ?_
 obtain ⟨ch,aa,f⟩:=q7 f
 refine qz aa qe J<|K5 x aa J J J J J J J J (leb J) J<|qt<|O J<|G _ J<|O J<|G _ J<|qa J<|qa J<|q9<|qf ?_
 obtain ⟨ab,bp,f⟩:=q7 f
 refine Qk (fun n=>n = ab) (fun n=>⟨[(11,q6 n.1)],[(0,.dat 3 (n.2.map Qr))],1⟩) qe ?_ ?_
 ·refine Qe (qah c m) (fun a=>⟨[(0,.hs 0 3 0 a.2.2.length),(1,q6 c),(4,.d (.fn q1F q1C)),(11,q6 a.1),(12,q6 a.2.1)],[(0,.dat 3 (a.2.2.map Qr))],1⟩) (w64 (c + 1),w64 (t - 1),(q.set c.toNat v).set u.toNat x) ab bp (wkE [] [] [] J ⟨⟨_,J,K6 qe J qx (ltd J)⟩,qr J,qr J,qr J,qr J,trivial⟩ ⟨Qt J J,trivial⟩) ?_
  intro a ci b
  unfold qah at b
  refine Q3<|qf ?_
  obtain ⟨ac,bq,b⟩:=q7 b
  refine Qk (fun l=>l = ac) (fun l=>⟨[(0,.hs 0 3 0 a.2.2.length),(1,q6 c),(4,.d (.fn q1F q1C)),(11,q6 l),(12,q6 a.2.1)],[(0,.dat 3 (a.2.2.map Qr))],1⟩) qe ?_ ?_
  ·refine Qe (qai a c m) (fun ad=>⟨[(0,.hs 0 3 0 a.2.2.length),(1,q6 c),(4,.d (.fn q1F q1C)),(11,q6 ad),(12,q6 a.2.1)],[(0,.dat 3 (a.2.2.map Qr))],1⟩) a.1 ac bq (wkA [] [] []) ?_
   intro ad cj j
   unfold qai at j
   refine qf<|qf<|Qj [U,U,U,U,qu 0,U,U,U,qu 0,U,U,U,U,U,U,U,U] qh<|O J<|O J<|G _ J ?_
   obtain ⟨br,g,j⟩:=q7 j
   refine Qb 14 (fun A st=>∃ ae af ag ah ai aj ak al am an ao ap aq,st = A [(47,Q0 br),(46,aq),(45,ap),(44,ao),(43,an),(42,am),(41,al),(40,ak),(39,aj),(38,ai),(37,ah),(36,ag),(35,af),(34,ae)]) ?_ ?_
   ·refine Q9 J J g (fun g=>?_) (fun g=>?_)
    ·refine O J<|O J<|O J ?_
     obtain ⟨bs,ar,g⟩:=q7 g
     refine qz ar J J<|Qd _ ar J<|O J<|O J ?_
     obtain ⟨bt,au,g⟩:=q7 g
     refine qz au J J<|Qd _ au J ?_
     obtain ⟨bu,bv,g⟩:=q7 g
     refine Yk _ (q1Ok bs bt bu bv) J J J (.inl J)<|G _ J<|G _ J<|G _ J<|q9 ?_
     obtain rfl:=qd g
     exact ⟨_,_,_,_,_,_,_,_,_,_,_,_,_,J⟩
    refine qb J<|qb J<|qb J<|qb J<|qb J<|qb J<|qb J<|qb J<|qb J<|qb J<|qb J<|qb J<|G _ J<|q9 ?_
    obtain rfl:=qd g
    exact ⟨_,_,_,_,_,_,_,_,_,_,_,_,_,J⟩
   rintro _ ⟨ae,af,ag,ah,ai,aj,ak,al,am,an,ao,ap,aq,rfl⟩
   refine q9 ?_
   refine qo J j (fun _ j=>?_) (fun _ j=>?_)
   ·refine ql<|Q3<|qw<|O J<|G _ J<|qa J<|qv<|Qn<|Qf ?_
    exact ⟨_,qm j,wkA [] [] []⟩
   refine Q8 ?_
   refine ⟨_,qm j,fun hm=>?_⟩
   subst hm
   exact ⟨_,J,wkA [] [] []⟩
  intro l hb
  subst hb
  refine qf ?_
  obtain ⟨av,bw,b⟩:=q7 b
  refine Qk (fun s=>s = av) (fun s=>⟨[(0,.hs 0 3 0 a.2.2.length),(1,q6 c),(4,.d (.fn q1F q1C)),(11,q6 l),(12,q6 s)],[(0,.dat 3 (a.2.2.map Qr))],1⟩) qe ?_ ?_
  ·refine Qe (qaj l a c m) (fun aw=>⟨[(0,.hs 0 3 0 a.2.2.length),(1,q6 c),(4,.d (.fn q1F q1C)),(11,q6 l),(12,q6 aw)],[(0,.dat 3 (a.2.2.map Qr))],1⟩) a.2.1 av bw (wkA [] [] []) ?_
   intro aw ck k
   unfold qaj at k
   refine qf<|qf<|Qj [U,U,U,qu 0,U,U,U,qu 0,U,U,U,U,U,U,U,U] qh<|O J<|O J<|G _ J ?_
   obtain ⟨bz,h,k⟩:=q7 k
   refine Qb 13 (fun A st=>∃ ax ay az ba bb bc bd be bf bg bh bi,st = A [(65,Q0 bz),(64,bi),(63,bh),(62,bg),(61,bf),(60,be),(59,bd),(58,bc),(57,bb),(56,ba),(55,az),(54,ay),(53,ax)]) ?_ ?_
   ·refine Q9 J J h (fun h=>?_) (fun h=>?_)
    ·refine O J<|O J<|O J ?_
     obtain ⟨ca,bj,h⟩:=q7 h
     refine qz bj J J<|Qd _ bj J<|O J<|O J ?_
     obtain ⟨cb,bk,h⟩:=q7 h
     refine qz bk J J<|Qd _ bk J ?_
     obtain ⟨cc,cd,h⟩:=q7 h
     refine Yk _ (q1Ok ca cb cc cd) J J J (.inl J)<|G _ J<|G _ J<|q9 ?_
     obtain rfl:=qd h
     exact ⟨_,_,_,_,_,_,_,_,_,_,_,_,J⟩
    refine qb J<|qb J<|qb J<|qb J<|qb J<|qb J<|qb J<|qb J<|qb J<|qb J<|qb J<|G _ J<|q9 ?_
    obtain rfl:=qd h
    exact ⟨_,_,_,_,_,_,_,_,_,_,_,_,J⟩
   rintro _ ⟨ax,ay,az,ba,bb,bc,bd,be,bf,bg,bh,bi,rfl⟩
   refine q9 ?_
   refine qo J k (fun _ k=>?_) (fun _ k=>?_)
   ·refine ql<|Q3<|qw<|O J<|G _ J<|qa J<|qv<|Qn<|Qf ?_
    exact ⟨_,qm k,wkA [] [] []⟩
   refine Q8 ?_
   refine ⟨_,qm k,fun hm=>?_⟩
   subst hm
   exact ⟨_,J,wkA [] [] []⟩
  intro s hb
  subst hb
  refine qf<|qc<|O J<|O J<|G _ J<|q9 ?_
  refine qo J b (fun _ b=>?_) (fun _ b=>?_)
  ·refine Q8 ?_
   refine ⟨_,qm b,fun hm=>?_⟩
   subst hm
   exact ⟨_,J,wkA [] [] []⟩
  refine ql<|qf<|Qj [Qv 0,U,Qv 0,U,qu 0,U,U,U,qu 0,U,U,U,U,U,U,U] qh<|O J<|O J<|O J<|O J<|O J<|O J ?_
  obtain ⟨ce,bl,b⟩:=q7 b
  refine qz bl J J<|Qd _ bl J<|O J<|O J ?_
  obtain ⟨cf,bm,b⟩:=q7 b
  refine qz bm J J<|Qd _ bm J ?_
  obtain ⟨cm,bn,b⟩:=q7 b
  refine qz bn J J<|K5 ce bn J J J J J J J J (leb J) J ?_
  obtain ⟨cn,bo,b⟩:=q7 b
  refine qz bo qe J<|K5 cf bo J J J J J J J J (leb J) J<|qt<|O J<|G _ J<|qa J<|q9<|qw<|O J<|G _ J<|qa J<|qv<|Qn<|Qf ?_
  exact ⟨_,qm b,wkE [] [] [] J ⟨⟨_,J,K6 qe J qx (ltd J)⟩,qr J,qr J,qr J,qr J,trivial⟩ ⟨Qt J J,trivial⟩⟩
 intro n hb
 subst hb
 refine qc<|O J<|qa J<|qs ?_
 obtain rfl:=qd f
 exact ⟨.inr J,_,J,wkA [] [] []⟩
theorem qza (v : qn→qn→Option Int) (q1F : FuncId) (q1C : List DV) (q1Ok : ∀ (x0 : qn) (x1 : qn) (r : Int),v x0 x1 = some r→Pure Tryz.prog tab q1F ([.agg [q8 x0.at_,q8 x0.list_,q8 x0.by_],.agg [q8 x1.at_,q8 x1.list_,q8 x1.by_]] ++ q1C) (q8 r)) (g : List qn) (b : Int) (x : Int) (h : Int) (r : Int × Bool × List qn) (a : qaa v g b x h = some r) : K8 Tryz.prog tab 182 [.hs 0 3 0 g.length,q6 b,q6 x,q6 h,.d (.fn q1F q1C)] [(0,.dat 3 (g.map Qr))] 1 (.d (.tup [q8 r.1,.bool r.2.1])) [(0,.dat 3 (r.2.2.map Qr))] 1:=by
 unfold qaa at a
 refine Kr Tryz.func182 J qh qh J<|qc<|qa J<|qa J<|q9<|qf<|Qj [Qv 0,U,Qv 0,U,qu 0,U,U,U,qu 0,U,U,U,U,U,U,U] qh<|O J<|O J<|O J<|O J<|O J<|O J ?_
 obtain ⟨j,ad,a⟩:=q7 a
 refine qz ad J J<|Qd _ ad J<|O J<|O J ?_
 obtain ⟨k,ae,a⟩:=q7 a
 refine qz ae J J<|Qd _ ae J ?_
 obtain ⟨gd,af,a⟩:=q7 a
 refine qz af J J<|K5 j af J J J J J J J J (leb J) J ?_
 obtain ⟨ge,ag,a⟩:=q7 a
 refine qz ag qe J<|K5 k ag J J J J J J J J (leb J) J<|qt<|O J<|G _ J<|O J<|G _ J<|qa J<|qa J<|q9<|qf ?_
 obtain ⟨ah,dw,a⟩:=q7 a
 refine Qk (fun p=>p = ah) (fun p=>⟨[(0,.hs 0 3 0 ((g.set b.toNat j).set h.toNat k).length),(1,q6 b),(4,.d (.fn q1F q1C)),(12,q6 p),(13,.d (q8 (w64 (x - 1))))],[(0,.dat 3 (((g.set b.toNat j).set h.toNat k).map Qr))],1⟩) qe ?_ ?_
 ·refine Qe (qab x g b j h k v) (fun ai=>⟨[(0,.hs 0 3 0 ((g.set b.toNat j).set h.toNat k).length),(1,q6 b),(4,.d (.fn q1F q1C)),(12,q6 ai),(13,.d (q8 (w64 (x - 1))))],[(0,.dat 3 (((g.set b.toNat j).set h.toNat k).map Qr))],1⟩) (w64 (b + 1)) ah dw (wkE [] [] [] J ⟨⟨_,J,K6 qe J qx (ltd J)⟩,qr J,qr J,qr J,qr J,trivial⟩ ⟨Qt J J,trivial⟩) ?_
  intro ai gf q
  unfold qab at q
  refine qf<|qf<|Qj [U,U,U,qu 0,U,U,U,qu 0,U,U,U,U,U,U,U,U] qh<|O J<|O J<|G _ J ?_
  obtain ⟨dx,l,q⟩:=q7 q
  refine Qb 13 (fun A st=>∃ aj ak al am an ao ap aq ar au av aw,st = A [(47,Q0 dx),(46,aw),(45,av),(44,au),(43,ar),(42,aq),(41,ap),(40,ao),(39,an),(38,am),(37,al),(36,ak),(35,aj)]) ?_ ?_
  ·refine Q9 J J l (fun l=>?_) (fun l=>?_)
   ·refine O J<|O J<|O J ?_
    obtain ⟨dy,ax,l⟩:=q7 l
    refine qz ax J J<|Qd _ ax J<|O J<|O J ?_
    obtain ⟨dz,ay,l⟩:=q7 l
    refine qz ay J J<|Qd _ ay J ?_
    obtain ⟨fa,fb,l⟩:=q7 l
    refine Yk _ (q1Ok dy dz fa fb) J J J (.inl J)<|G _ J<|G _ J<|q9 ?_
    obtain rfl:=qd l
    exact ⟨_,_,_,_,_,_,_,_,_,_,_,_,J⟩
   refine qb J<|qb J<|qb J<|qb J<|qb J<|qb J<|qb J<|qb J<|qb J<|qb J<|qb J<|G _ J<|q9 ?_
   obtain rfl:=qd l
   exact ⟨_,_,_,_,_,_,_,_,_,_,_,_,J⟩
  rintro _ ⟨aj,ak,al,am,an,ao,ap,aq,ar,au,av,aw,rfl⟩
  refine q9 ?_
  refine qo J q (fun _ q=>?_) (fun _ q=>?_)
  ·refine ql<|Q3<|qw<|O J<|G _ J<|qa J<|qv<|Qn<|Qf ?_
   exact ⟨_,qm q,wkA [] [] []⟩
  refine Q8 ?_
  refine ⟨_,qm q,fun hm=>?_⟩
  subst hm
  exact ⟨_,J,wkA [] [] []⟩
 intro p hb
 subst hb
 refine qf ?_
 obtain ⟨az,fc,a⟩:=q7 a
 refine Qk (fun y=>y = az) (fun y=>⟨[(0,.hs 0 3 0 ((g.set b.toNat j).set h.toNat k).length),(1,q6 b),(4,.d (.fn q1F q1C)),(12,q6 p),(13,q6 y)],[(0,.dat 3 (((g.set b.toNat j).set h.toNat k).map Qr))],1⟩) qe ?_ ?_
 ·refine Qe (qac p g b j h k v) (fun ba=>⟨[(0,.hs 0 3 0 ((g.set b.toNat j).set h.toNat k).length),(1,q6 b),(4,.d (.fn q1F q1C)),(12,q6 p),(13,q6 ba)],[(0,.dat 3 (((g.set b.toNat j).set h.toNat k).map Qr))],1⟩) (w64 (x - 1)) az fc (wkA [] [] []) ?_
  intro ba gg s
  unfold qac at s
  refine qf<|qf<|Qj [U,U,U,U,qu 0,U,U,U,qu 0,U,U,U,U,U,U,U,U] qh<|O J<|O J<|G _ J ?_
  obtain ⟨fd,m,s⟩:=q7 s
  refine Qb 14 (fun A st=>∃ bb bc bd be bf bg bh bi bj bk bl bm bn,st = A [(66,Q0 fd),(65,bn),(64,bm),(63,bl),(62,bk),(61,bj),(60,bi),(59,bh),(58,bg),(57,bf),(56,be),(55,bd),(54,bc),(53,bb)]) ?_ ?_
  ·refine Q9 J J m (fun m=>?_) (fun m=>?_)
   ·refine O J<|O J<|O J ?_
    obtain ⟨fe,bo,m⟩:=q7 m
    refine qz bo J J<|Qd _ bo J<|O J<|O J ?_
    obtain ⟨ff,bp,m⟩:=q7 m
    refine qz bp J J<|Qd _ bp J ?_
    obtain ⟨fg,fh,m⟩:=q7 m
    refine Yk _ (q1Ok fe ff fg fh) J J J (.inl J)<|G _ J<|G _ J<|G _ J<|q9 ?_
    obtain rfl:=qd m
    exact ⟨_,_,_,_,_,_,_,_,_,_,_,_,_,J⟩
   refine qb J<|qb J<|qb J<|qb J<|qb J<|qb J<|qb J<|qb J<|qb J<|qb J<|qb J<|qb J<|G _ J<|q9 ?_
   obtain rfl:=qd m
   exact ⟨_,_,_,_,_,_,_,_,_,_,_,_,_,J⟩
  rintro _ ⟨bb,bc,bd,be,bf,bg,bh,bi,bj,bk,bl,bm,bn,rfl⟩
  refine q9 ?_
  refine qo J s (fun _ s=>?_) (fun _ s=>?_)
  ·refine ql<|Q3<|qw<|O J<|G _ J<|qa J<|qv<|Qn<|Qf ?_
   exact ⟨_,qm s,wkA [] [] []⟩
  refine Q8 ?_
  refine ⟨_,qm s,fun hm=>?_⟩
  subst hm
  exact ⟨_,J,wkA [] [] []⟩
 intro y hb
 subst hb
 refine qf<|qc<|O J<|O J<|G _ J<|q9 ?_
 refine qo J a (fun _ a=>?_) (fun _ a=>?_)
 ·refine qf<|Qj [Qv 0,U,Qv 0,U,qu 0,U,U,U,qu 0,U,U,U,U,U,U,U] qh<|O J<|O J<|O J<|O J<|O J<|O J ?_
  obtain ⟨fi,bq,a⟩:=q7 a
  refine qz bq J J<|Qd _ bq J<|O J<|O J ?_
  obtain ⟨fj,br,a⟩:=q7 a
  refine qz br J J<|Qd _ br J ?_
  obtain ⟨gh,bs,a⟩:=q7 a
  refine qz bs J J<|K5 fi bs J J J J J J J J (leb J) J ?_
  obtain ⟨gi,bt,a⟩:=q7 a
  refine qz bt qe J<|K5 fj bt J J J J J J J J (leb J) J<|qt<|O J<|qa J<|qa J<|qs ?_
  obtain rfl:=qd a
  exact ⟨.inr J,_,J,wkA [] [] []⟩
 refine ql<|qf<|Qj [Qv 0,U,Qv 0,U,qu 0,U,U,U,qu 0,U,U,U,U,U,U,U] qh<|O J<|O J<|O J<|O J<|O J<|O J ?_
 obtain ⟨bu,bv,a⟩:=q7 a
 refine qz bv J J<|Qd _ bv J<|O J<|O J ?_
 obtain ⟨bw,bz,a⟩:=q7 a
 refine qz bz J J<|Qd _ bz J ?_
 obtain ⟨gj,ca,a⟩:=q7 a
 refine qz ca J J<|K5 bu ca J J J J J J J J (leb J) J ?_
 obtain ⟨gk,cb,a⟩:=q7 a
 refine qz cb qe J<|K5 bw cb J J J J J J J J (leb J) J<|qt<|O J<|G _ J<|qa J<|qt<|O J<|G _ J<|qa J<|q9<|qf ?_
 obtain ⟨cc,fk,a⟩:=q7 a
 refine Qk (fun z=>z = cc) (fun z=>⟨[(0,.hs 0 3 0 z.2.length),(1,q6 b),(13,q6 z.1)],[(0,.dat 3 (z.2.map Qr))],1⟩) qe ?_ ?_
 ·refine Qe (qad b v) (fun c=>⟨[(0,.hs 0 3 0 c.2.2.length),(1,q6 b),(4,.d (.fn q1F q1C)),(12,q6 c.1),(13,q6 c.2.1)],[(0,.dat 3 (c.2.2.map Qr))],1⟩) (w64 (p + 1),w64 (y - 1),(((g.set b.toNat j).set h.toNat k).set p.toNat bu).set y.toNat bw) cc fk (wkE [] [] [] J ⟨⟨_,J,K6 qe J qx (ltd J)⟩,qr J,qr J,qr J,qr J,trivial⟩ ⟨Qt J J,trivial⟩) ?_
  intro c gl f
  unfold qad at f
  refine Q3<|qf ?_
  obtain ⟨cd,fl,f⟩:=q7 f
  refine Qk (fun w=>w = cd) (fun w=>⟨[(0,.hs 0 3 0 c.2.2.length),(1,q6 b),(4,.d (.fn q1F q1C)),(12,q6 w),(13,q6 c.2.1)],[(0,.dat 3 (c.2.2.map Qr))],1⟩) qe ?_ ?_
  ·refine Qe (qae c b v) (fun ce=>⟨[(0,.hs 0 3 0 c.2.2.length),(1,q6 b),(4,.d (.fn q1F q1C)),(12,q6 ce),(13,q6 c.2.1)],[(0,.dat 3 (c.2.2.map Qr))],1⟩) c.1 cd fl (wkA [] [] []) ?_
   intro ce gm t
   unfold qae at t
   refine qf<|qf<|Qj [U,U,U,qu 0,U,U,U,qu 0,U,U,U,U,U,U,U,U] qh<|O J<|O J<|G _ J ?_
   obtain ⟨fm,n,t⟩:=q7 t
   refine Qb 13 (fun A st=>∃ cf cg ch ci cj ck cm cn co cp cq cr,st = A [(120,Q0 fm),(119,cr),(118,cq),(117,cp),(116,co),(115,cn),(114,cm),(113,ck),(112,cj),(111,ci),(110,ch),(109,cg),(108,cf)]) ?_ ?_
   ·refine Q9 J J n (fun n=>?_) (fun n=>?_)
    ·refine O J<|O J<|O J ?_
     obtain ⟨fo,cs,n⟩:=q7 n
     refine qz cs J J<|Qd _ cs J<|O J<|O J ?_
     obtain ⟨fq,ct,n⟩:=q7 n
     refine qz ct J J<|Qd _ ct J ?_
     obtain ⟨fr,fs,n⟩:=q7 n
     refine Yk _ (q1Ok fo fq fr fs) J J J (.inl J)<|G _ J<|G _ J<|q9 ?_
     obtain rfl:=qd n
     exact ⟨_,_,_,_,_,_,_,_,_,_,_,_,J⟩
    refine qb J<|qb J<|qb J<|qb J<|qb J<|qb J<|qb J<|qb J<|qb J<|qb J<|qb J<|G _ J<|q9 ?_
    obtain rfl:=qd n
    exact ⟨_,_,_,_,_,_,_,_,_,_,_,_,J⟩
   rintro _ ⟨cf,cg,ch,ci,cj,ck,cm,cn,co,cp,cq,cr,rfl⟩
   refine q9 ?_
   refine qo J t (fun _ t=>?_) (fun _ t=>?_)
   ·refine ql<|Q3<|qw<|O J<|G _ J<|qa J<|qv<|Qn<|Qf ?_
    exact ⟨_,qm t,wkA [] [] []⟩
   refine Q8 ?_
   refine ⟨_,qm t,fun hm=>?_⟩
   subst hm
   exact ⟨_,J,wkA [] [] []⟩
  intro w hb
  subst hb
  refine qf ?_
  obtain ⟨cu,ft,f⟩:=q7 f
  refine Qk (fun ac=>ac = cu) (fun ac=>⟨[(0,.hs 0 3 0 c.2.2.length),(1,q6 b),(4,.d (.fn q1F q1C)),(12,q6 w),(13,q6 ac)],[(0,.dat 3 (c.2.2.map Qr))],1⟩) qe ?_ ?_
  ·refine Qe (qaf w c b v) (fun cv=>⟨[(0,.hs 0 3 0 c.2.2.length),(1,q6 b),(4,.d (.fn q1F q1C)),(12,q6 w),(13,q6 cv)],[(0,.dat 3 (c.2.2.map Qr))],1⟩) c.2.1 cu ft (wkA [] [] []) ?_
   intro cv gn u
   unfold qaf at u
   refine qf<|qf<|Qj [U,U,U,U,qu 0,U,U,U,qu 0,U,U,U,U,U,U,U,U] qh<|O J<|O J<|G _ J ?_
   obtain ⟨fu,o,u⟩:=q7 u
   refine Qb 14 (fun A st=>∃ cw cx cy cz da dc dd de df dg dh dj dk,st = A [(139,Q0 fu),(138,dk),(137,dj),(136,dh),(135,dg),(134,df),(133,de),(132,dd),(131,dc),(130,da),(129,cz),(128,cy),(127,cx),(126,cw)]) ?_ ?_
   ·refine Q9 J J o (fun o=>?_) (fun o=>?_)
    ·refine O J<|O J<|O J ?_
     obtain ⟨fv,dl,o⟩:=q7 o
     refine qz dl J J<|Qd _ dl J<|O J<|O J ?_
     obtain ⟨fw,dm,o⟩:=q7 o
     refine qz dm J J<|Qd _ dm J ?_
     obtain ⟨fx,fy,o⟩:=q7 o
     refine Yk _ (q1Ok fv fw fx fy) J J J (.inl J)<|G _ J<|G _ J<|G _ J<|q9 ?_
     obtain rfl:=qd o
     exact ⟨_,_,_,_,_,_,_,_,_,_,_,_,_,J⟩
    refine qb J<|qb J<|qb J<|qb J<|qb J<|qb J<|qb J<|qb J<|qb J<|qb J<|qb J<|qb J<|G _ J<|q9 ?_
    obtain rfl:=qd o
    exact ⟨_,_,_,_,_,_,_,_,_,_,_,_,_,J⟩
   rintro _ ⟨cw,cx,cy,cz,da,dc,dd,de,df,dg,dh,dj,dk,rfl⟩
   refine q9 ?_
   refine qo J u (fun _ u=>?_) (fun _ u=>?_)
   ·refine ql<|Q3<|qw<|O J<|G _ J<|qa J<|qv<|Qn<|Qf ?_
    exact ⟨_,qm u,wkA [] [] []⟩
   refine Q8 ?_
   refine ⟨_,qm u,fun hm=>?_⟩
   subst hm
   exact ⟨_,J,wkA [] [] []⟩
  intro ac hb
  subst hb
  refine qf<|qc<|O J<|O J<|G _ J<|q9 ?_
  refine qo J f (fun _ f=>?_) (fun _ f=>?_)
  ·refine Q8 ?_
   refine ⟨_,qm f,fun hm=>?_⟩
   subst hm
   exact ⟨_,J,wkA [] [] []⟩
  refine ql<|qf<|Qj [Qv 0,U,Qv 0,U,qu 0,U,U,U,qu 0,U,U,U,U,U,U,U] qh<|O J<|O J<|O J<|O J<|O J<|O J ?_
  obtain ⟨fz,dn,f⟩:=q7 f
  refine qz dn J J<|Qd _ dn J<|O J<|O J ?_
  obtain ⟨ga,dp,f⟩:=q7 f
  refine qz dp J J<|Qd _ dp J ?_
  obtain ⟨go,dq,f⟩:=q7 f
  refine qz dq J J<|K5 fz dq J J J J J J J J (leb J) J ?_
  obtain ⟨gp,dr,f⟩:=q7 f
  refine qz dr qe J<|K5 ga dr J J J J J J J J (leb J) J<|qt<|O J<|G _ J<|qa J<|q9<|qw<|O J<|G _ J<|qa J<|qv<|Qn<|Qf ?_
  exact ⟨_,qm f,wkE [] [] [] J ⟨⟨_,J,K6 qe J qx (ltd J)⟩,qr J,qr J,qr J,qr J,trivial⟩ ⟨Qt J J,trivial⟩⟩
 intro z hb
 subst hb
 refine qf<|Qj [Qv 0,U,Qv 0,U,qu 0,U,U,U,qu 0,U,U,U,U,U,U,U] qh<|O J<|O J<|O J<|O J<|O J<|O J ?_
 obtain ⟨gb,ds,a⟩:=q7 a
 refine qz ds J J<|Qd _ ds J<|O J<|O J ?_
 obtain ⟨gc,dt,a⟩:=q7 a
 refine qz dt J J<|Qd _ dt J ?_
 obtain ⟨gq,du,a⟩:=q7 a
 refine qz du J J<|K5 gb du J J J J J J J J (leb J) J ?_
 obtain ⟨gr,dv,a⟩:=q7 a
 refine qz dv qe J<|K5 gc dv J J J J J J J J (leb J) J<|qt<|O J<|qa J<|qa J<|qs ?_
 obtain rfl:=qd a
 exact ⟨.inr J,_,J,wkA [] [] []⟩
theorem qz0 (p : qn→qn→Option Int) (q1F : FuncId) (q1C : List DV) (_q1Ok : ∀ (j : qn) (k : qn) (r : Int),p j k = some r→Pure Tryz.prog tab q1F ([.agg [q8 j.at_,q8 j.list_,q8 j.by_],.agg [q8 k.at_,q8 k.list_,q8 k.by_]] ++ q1C) (q8 r)) (l : List qn) (b : Int) (g : Int) (r : List qn) (c : q9x p l b g = some r) : K8 Tryz.prog tab 177 [.hs 0 3 0 l.length,q6 b,q6 g,.d (.fn q1F q1C)] [(0,.dat 3 (l.map Qr))] 1 (.d (.tup [])) [(0,.dat 3 (r.map Qr))] 1:=by
 unfold q9x at c
 refine Kr Tryz.func177 J qh qh J<|qc<|O J<|O J<|G _ J<|qa J<|qt<|O J<|G _ J<|q9 ?_
 refine qo J c (fun _ c=>?_) (fun _ c=>?_)
 ·refine qc<|O J<|G _ J<|K4 J J<|Ql 1 _ J<|qt<|O J ?_
  obtain ⟨m,v,c⟩:=q7 c
  refine Q4 (qnf (w64 (g - b)) m v) J<|qa J<|qt<|O J<|O J<|G _ J<|G _ J<|G _ J<|G _ J<|qa J<|q9 ?_
  obtain ⟨w,x,c⟩:=q7 c
  refine Q3<|Qe (q9y b g m) (fun f=>⟨[(0,.hs 0 3 0 f.2.1.length),(1,q6 b),(8,.d (q8 (w64 (g - b)))),(9,.ref 1 1 0 0),(10,.d (.int .u64 m)),(11,q6 f.1)],[(0,.dat 3 (f.2.1.map Qr)),(1,.dat 1 [[.int .u64 f.2.2]])],2⟩) (w64 ((w64 (b + (w64 ((w64 (Int.tdiv (w64 (g - b)) 4)) * 2)))) - 1),l,IntKind.wrap .u64 (w64 (g - b))) w x (wkA [(1,1)] [] []) ?_
  intro f ac a
  unfold q9y at a
  refine qf<|qc<|O J<|O J<|O J<|G _ J<|G _ J<|G _ J<|G _ J<|G _ J<|q9 ?_
  refine qo J a (fun _ a=>?_) (fun _ a=>?_)
  ·refine ql<|qf<|Q3<|qc ?_
   obtain ⟨n,y,a⟩:=q7 a
   refine K9 [(0,1)] [(0,1),(1,0)] _ (.d (.int .u64 n)) 1 [(1,.dat 1 [[.int .u64 n]]),(0,.dat 3 (f.2.1.map Qr))] 2 (qni f.2.2 n y)<|O J<|G _ J<|G _ J<|G _ J<|qa J<|q9<|qf<|qc<|O J<|O J<|G _ J<|q9 ?_
   obtain ⟨z,h,a⟩:=q7 a
   refine Yw (fun o=>o = z) (fun o=>⟨[(0,.hs 0 3 0 f.2.1.length),(1,q6 b),(8,.d (q8 (w64 (g - b)))),(9,.ref 1 1 0 0),(10,.d (.int .u64 m)),(11,q6 f.1),(12,q6 o)],[(0,.dat 3 (f.2.1.map Qr)),(1,.dat 1 [[.int .u64 n]])],2⟩) qe ?_ ?_
   ·refine qo J h (fun _ h=>?_) (fun _ h=>?_)
    ·refine qw<|O J<|O J<|G _ J<|qa J<|qv ?_
     obtain rfl:=qd h
     exact ⟨_,J,wkA [(1,1)] [] []⟩
    refine ql<|Qf ?_
    obtain rfl:=qd h
    exact ⟨_,J,wkA [(1,1)] [] []⟩
   intro o hb
   subst hb
   refine Qj [Qv 0,U,Qv 0,U,qu 0,U,U,U,qu 0,U,U,U,U,U,U,U,U,U,U,U] qh<|O J<|O J<|O J<|O J<|O J<|G _ J<|O J<|O J<|O J<|G _ J ?_
   obtain ⟨aa,q,a⟩:=q7 a
   refine qz q J J<|Qd _ q J<|O J<|O J ?_
   obtain ⟨ab,s,a⟩:=q7 a
   refine qz s J J<|Qd _ s J ?_
   obtain ⟨ad,t,a⟩:=q7 a
   refine qz t J J<|K5 aa t J J J J J J J J (leb J) J ?_
   obtain ⟨ae,u,a⟩:=q7 a
   refine qz u qe J<|K5 ab u J J J J J J J J (leb J) J<|qv<|Qn<|qw<|O J<|G _ J<|qa J<|qv ?_
   exact ⟨_,qm a,wkE [(1,1)] [] [] J ⟨⟨_,J,K6 qe J qx (ltd J)⟩,qr J,qr J,⟨_,J,.ref J qx (ltd J)⟩,qr J,qr J,trivial⟩ ⟨Qt J J,Qt J J,trivial⟩⟩
  refine Q8 ?_
  refine ⟨_,qm a,fun hm=>?_⟩
  subst hm
  obtain rfl:=qd c
  exact ⟨.inl J,_,J,wkA [] [] []⟩
 refine ql<|Qf ?_
 obtain rfl:=qd c
 exact ⟨.inl J,_,J,wkA [] [] []⟩
theorem qze (rec : List qn→Int→Int→Int→Option (List qn)) (g : qn→qn→Option Int) (q1F : FuncId) (q1C : List DV) (q1Ok : ∀ (w : qn) (x : qn) (r : Int),g w x = some r→Pure Tryz.prog tab q1F ([.agg [q8 w.at_,q8 w.list_,q8 w.by_],.agg [q8 x.at_,q8 x.list_,q8 x.by_]] ++ q1C) (q8 r)) (hrec : ∀ (o : List qn) (p : Int) (q : Int) (s : Int) (r : List qn),rec o p q s = some r→K8 Tryz.prog tab 172 [.hs 0 3 0 o.length,q6 p,q6 q,q6 s,.d (.fn q1F q1C)] [(0,.dat 3 (o.map Qr))] 1 (.d (.tup [])) [(0,.dat 3 (r.map Qr))] 1) (o : List qn) (p : Int) (q : Int) (s : Int) (r : List qn) (t : q7n rec g o p q s = some r) : K8 Tryz.prog tab 172 [.hs 0 3 0 o.length,q6 p,q6 q,q6 s,.d (.fn q1F q1C)] [(0,.dat 3 (o.map Qr))] 1 (.d (.tup [])) [(0,.dat 3 (r.map Qr))] 1:=by
 unfold q7n at t
 refine Kr Tryz.func172 J qh qh J<|qc<|qa J<|qt<|qa J<|q9 ?_
 obtain ⟨be,bf,t⟩:=q7 t
 refine Q3<|Qe (q7m g rec) (fun b=>⟨[(0,.hs 0 3 0 b.2.2.2.2.2.length),(1,q6 b.1),(2,q6 b.2.1),(3,q6 b.2.2.1),(4,.d (.fn q1F q1C)),(10,Q0 b.2.2.2.1),(11,Q0 b.2.2.2.2.1)],[(0,.dat 3 (b.2.2.2.2.2.map Qr))],1⟩) (p,q,s,true,true,o) be bf (wkA [] [] []) ?_
 intro b ct a
 unfold q7m at a
 refine Q3<|qc<|O J<|O J<|G _ J<|qa J<|q9<|qf<|qc<|O J<|G _ J<|q9 ?_
 refine qo J a (fun _ a=>?_) (fun _ a=>?_)
 ·refine qc<|O J<|O J<|O J<|O J ?_
  obtain ⟨ad,bg,a⟩:=q7 a
  obtain ⟨cu,bh,a⟩:=q7 a
  have cv:=Kn bh
  refine K9 [(0,0)] [(0,0)] _ (.d (.tup [])) 1 [(0,.dat 3 (ad.map Qr))] 1 (qz6 g q1F q1C q1Ok b.2.2.2.2.2 b.1 b.2.1 ad bg)<|qs ?_
  refine ⟨_,qm a,fun hm=>?_⟩
  subst hm
  obtain rfl:=qd t
  exact ⟨.inr J,_,J,wkA [] [] []⟩
 refine ql<|qf<|qc<|O J<|G _ J<|q9 ?_
 refine qo J a (fun _ a=>?_) (fun _ a=>?_)
 ·refine qc<|O J<|O J<|O J<|O J ?_
  obtain ⟨ae,bi,a⟩:=q7 a
  obtain ⟨cw,bj,a⟩:=q7 a
  have cx:=Kn bj
  refine K9 [(0,0)] [(0,0)] _ (.d (.tup [])) 1 [(0,.dat 3 (ae.map Qr))] 1 (qz4 g q1F q1C q1Ok b.2.2.2.2.2 b.1 b.2.1 ae bi)<|qs ?_
  refine ⟨_,qm a,fun hm=>?_⟩
  subst hm
  obtain rfl:=qd t
  exact ⟨.inr J,_,J,wkA [] [] []⟩
 refine ql<|qf<|qc<|O J<|G _ J<|q9 ?_
 obtain ⟨bk,l,a⟩:=q7 a
 refine Yw (fun c=>c = bk) (fun c=>⟨[(0,.hs 0 3 0 c.2.length),(1,q6 b.1),(2,q6 b.2.1),(3,q6 c.1),(4,.d (.fn q1F q1C)),(10,Q0 b.2.2.2.1),(11,Q0 b.2.2.2.2.1),(12,.d (q8 (w64 (b.2.1 - b.1))))],[(0,.dat 3 (c.2.map Qr))],1⟩) qe ?_ ?_
 ·refine qo J l (fun _ l=>?_) (fun _ l=>?_)
  ·refine qc<|O J<|O J<|O J<|O J ?_
   obtain ⟨af,bl,l⟩:=q7 l
   obtain ⟨cy,bm,l⟩:=q7 l
   have bn:=Kn bm
   refine K9 [(0,0)] [(0,0)] _ (.d (.tup [])) 1 [(0,.dat 3 (af.map Qr))] 1 (qz0 g q1F q1C q1Ok b.2.2.2.2.2 b.1 b.2.1 af bl)<|q9<|qw<|O J<|G _ J<|qa J<|qv ?_
   obtain rfl:=qd l
   exact ⟨_,J,wkE [] [] [] J ⟨⟨_,J,K6 (by simp [bn]) J qx (ltd J)⟩,qr J,qr J,qr J,qr J,qr J,qr J,qr J,trivial⟩ ⟨Qt J J,trivial⟩⟩
  refine ql<|Qf ?_
  obtain rfl:=qd l
  exact ⟨_,J,wkA [] [] []⟩
 intro c hb
 subst hb
 refine qc<|O J<|O J<|O J<|O J ?_
 obtain ⟨bo,bp,a⟩:=q7 a
 refine q2z [.hs 0 3 0 c.2.length,q6 b.1,q6 b.2.1,.d (.fn q1F q1C)] (qz2 c.2 b.1 b.2.1 g q1F q1C q1Ok bo bp) J J (Zp (Zi J J) (Zp J (Zp J (Zp J J)))) (.inr J)<|O J<|G _ J<|G _ J<|qa J<|qa J<|q9<|qf<|qc<|O J<|G _ J<|q9 ?_
 obtain ⟨bq,m,a⟩:=q7 a
 refine Yw (fun h=>h = bq) (fun h=>⟨[(0,.hs 0 3 0 h.2.2.length),(1,q6 b.1),(2,q6 b.2.1),(3,q6 c.1),(4,.d (.fn q1F q1C)),(10,Q0 b.2.2.2.1),(11,Q0 b.2.2.2.2.1),(12,.d (q8 (w64 (b.2.1 - b.1)))),(13,q6 h.1),(14,q6 h.2.1)],[(0,.dat 3 (h.2.2.map Qr))],1⟩) qe ?_ ?_
 ·refine qo J m (fun _ m=>?_) (fun _ m=>?_)
  ·refine qc<|O J<|O J<|O J<|O J ?_
   obtain ⟨ag,br,m⟩:=q7 m
   obtain ⟨cz,bs,m⟩:=q7 m
   have bt:=Kn bs
   refine K9 [(0,0)] [(0,0)] _ (.d (.tup [])) 1 [(0,.dat 3 (ag.map Qr))] 1 (qzi g q1F q1C q1Ok c.2 b.1 b.2.1 ag br)<|qt<|O J<|G _ J<|O J<|O J<|G _ J<|G _ J<|qa J<|q9<|qw<|qa J<|qv ?_
   obtain rfl:=qd m
   exact ⟨_,J,wkE [] [] [] J ⟨⟨_,J,K6 (by simp [bt]) J qx (ltd J)⟩,qr J,qr J,qr J,qr J,qr J,qr J,qr J,qr J,qr J,trivial⟩ ⟨Qt J J,trivial⟩⟩
  refine ql<|Qf ?_
  obtain rfl:=qd m
  exact ⟨_,J,wkA [] [] []⟩
 intro h hb
 subst hb
 refine qf<|qc<|O J ?_
 obtain ⟨bu,u,a⟩:=q7 a
 refine Qb 3 (fun A st=>∃ ah ai,st = A [(71,Q0 bu),(70,ai),(69,ah)]) ?_ ?_
 ·refine Q9 J J u (fun u=>?_) (fun u=>?_)
  ·refine O J<|G _ J<|q9 ?_
   obtain rfl:=qd u
   exact ⟨_,_,J⟩
  refine qb J<|G _ J<|q9 ?_
  obtain rfl:=qd u
  exact ⟨_,_,J⟩
 rintro _ ⟨ah,ai,rfl⟩
 obtain ⟨bv,v,a⟩:=q7 a
 refine Qb 4 (fun A st=>∃ aj ak al,st = A [(75,Q0 bv),(74,al),(73,ak),(72,aj)]) ?_ ?_
 ·refine Q9 J J v (fun v=>?_) (fun v=>?_)
  ·refine O J<|G _ J<|G _ J<|q9 ?_
   obtain rfl:=qd v
   exact ⟨_,_,_,J⟩
  refine qb J<|qb J<|G _ J<|q9 ?_
  obtain rfl:=qd v
  exact ⟨_,_,_,J⟩
 rintro _ ⟨aj,ak,al,rfl⟩
 refine q9 ?_
 obtain ⟨bw,f,a⟩:=q7 a
 refine Yw (fun n=>.inl n = bw) (fun n=>⟨[(0,.hs 0 3 0 n.length),(1,q6 b.1),(2,q6 b.2.1),(3,q6 c.1),(4,.d (.fn q1F q1C)),(10,Q0 b.2.2.2.1),(11,Q0 b.2.2.2.2.1),(12,.d (q8 (w64 (b.2.1 - b.1)))),(13,q6 h.1)],[(0,.dat 3 (n.map Qr))],1⟩) qe ?_ ?_
 ·refine qo J f (fun _ f=>?_) (fun _ f=>?_)
  ·refine qc<|O J<|O J<|O J<|O J ?_
   obtain ⟨z,bz,f⟩:=q7 f
   obtain ⟨da,ca,f⟩:=q7 f
   have cb:=Kn ca
   refine K9 [(0,0)] [(0,0)] _ (Q0 z.1) 1 [(0,.dat 3 (z.2.map Qr))] 1 (qz8 g q1F q1C q1Ok h.2.2 b.1 b.2.1 z bz)<|q9 ?_
   refine qo J f (fun _ f=>?_) (fun _ f=>?_)
   ·refine q15 ?_
    obtain rfl:=qd f
    refine ⟨_,qm a,fun hm=>?_⟩
    subst hm
    obtain rfl:=qd t
    exact ⟨.inr J,_,J,wkA [] [] []⟩
   refine ql<|Qf ?_
   obtain rfl:=qd f
   exact ⟨_,J,wkE [] [] [] J ⟨⟨_,J,K6 (by simp [cb]) J qx (ltd J)⟩,qr J,qr J,qr J,qr J,qr J,qr J,qr J,qr J,trivial⟩ ⟨Qt J J,trivial⟩⟩
  refine ql<|Qf ?_
  obtain rfl:=qd f
  exact ⟨_,J,wkA [] [] []⟩
 intro n hb
 subst hb
 refine qf<|qf<|Qj [U,U,U,U,qu 0,U,U,U,qu 0,U,U,U,U,U,U,U,U] qh<|O J<|G _ J ?_
 obtain ⟨cc,j,a⟩:=q7 a
 refine Qb 15 (fun A st=>∃ am an ao ap aq ar au av aw ax ay az ba bb,st = A [(97,Q0 cc),(96,bb),(95,ba),(94,az),(93,ay),(92,ax),(91,aw),(90,av),(89,au),(88,ar),(87,aq),(86,ap),(85,ao),(84,an),(83,am)]) ?_ ?_
 ·refine Q9 J J j (fun j=>?_) (fun j=>?_)
  ·refine O J<|O J<|O J<|G _ J ?_
   obtain ⟨cd,bc,j⟩:=q7 j
   refine qz bc J J<|Qd _ bc J<|O J<|O J ?_
   obtain ⟨ce,bd,j⟩:=q7 j
   refine qz bd J J<|Qd _ bd J ?_
   obtain ⟨cf,cg,j⟩:=q7 j
   refine Yk _ (q1Ok cd ce cf cg) J J J (.inl J)<|G _ J<|G _ J<|G _ J<|q9 ?_
   obtain rfl:=qd j
   exact ⟨_,_,_,_,_,_,_,_,_,_,_,_,_,_,J⟩
  refine qb J<|qb J<|qb J<|qb J<|qb J<|qb J<|qb J<|qb J<|qb J<|qb J<|qb J<|qb J<|qb J<|G _ J<|q9 ?_
  obtain rfl:=qd j
  exact ⟨_,_,_,_,_,_,_,_,_,_,_,_,_,_,J⟩
 rintro _ ⟨am,an,ao,ap,aq,ar,au,av,aw,ax,ay,az,ba,bb,rfl⟩
 refine q9 ?_
 refine qo J a (fun _ a=>?_) (fun _ a=>?_)
 ·refine qc<|O J<|O J<|O J<|O J<|O J ?_
  obtain ⟨aa,ch,a⟩:=q7 a
  obtain ⟨dc,ci,a⟩:=q7 a
  have cj:=Kn ci
  refine K9 [(0,0)] [(0,0)] _ (q6 aa.1) 1 [(0,.dat 3 (aa.2.map Qr))] 1 (qzb g q1F q1C q1Ok n b.1 b.2.1 h.1 aa ch)<|qa J<|qt<|O J<|qa J<|q9<|Q8<|Jw<|Qf ?_
  exact ⟨_,qm a,wkE [] [] [] J ⟨⟨_,J,K6 (by simp [cj]) J qx (ltd J)⟩,qr J,qr J,qr J,qr J,qr J,qr J,trivial⟩ ⟨Qt J J,trivial⟩⟩
 refine ql<|qc<|O J<|O J<|O J<|O J<|O J ?_
 obtain ⟨k,ck,a⟩:=q7 a
 obtain ⟨dd,cm,a⟩:=q7 a
 have y:=Kn cm
 refine K9 [(0,0)] [(0,0)] _ (.d (.tup [q8 k.1,.bool k.2.1])) 1 [(0,.dat 3 (k.2.2.map Qr))] 1 (qza g q1F q1C q1Ok n b.1 b.2.1 h.1 k ck)<|O J<|G _ J<|G _ J<|qa J<|qa J<|qt<|O J<|qa J<|qt<|O J<|O J<|G _ J<|O J<|O J<|G _ J<|qa J<|qa J<|qt<|O J<|G _ J<|qa J<|qt<|O J<|O J<|G _ J<|q9 ?_
 refine qo J a (fun _ a=>?_) (fun _ a=>?_)
 ·refine qc<|O J<|O J<|G _ J<|qa J<|qt<|O J<|O J<|O J<|O J<|O J ?_
  obtain ⟨ab,cn,a⟩:=q7 a
  obtain ⟨de,co,a⟩:=q7 a
  have cp:=Kn co
  refine U1 [(0,0)] [(0,0)] [.hs 0 3 0 n.length,q6 b.1,q6 k.1,q6 c.1,.d (.fn q1F q1C)] (.d (.tup [])) [(0,.dat 3 (ab.map Qr))] [(0,.dat 3 (ab.map Qr))] 1 (hrec k.2.2 b.1 k.1 c.1 ab cn) J J J (Ym [(0,0)] [] [] J ⟨⟨_,J,K6 (by simp [y]) J qx (ltd J)⟩,qr J,qr J,qr J,qr J,trivial⟩ ⟨Qt J J,trivial⟩) (Ym [(0,0)] [] [] J ⟨qr J,trivial⟩ ⟨Qt J J,trivial⟩) J ⟨.inl J,trivial⟩<|q9<|qw<|O J<|G _ J<|qa J<|qv<|Qn<|Qf ?_
  exact ⟨_,qm a,wkE [] [] [] J ⟨⟨_,J,K6 (by simp [y,cp]) J qx (ltd J)⟩,qr J,qr J,qr J,qr J,qr J,qr J,trivial⟩ ⟨Qt J J,trivial⟩⟩
 refine qc<|O J<|O J<|G _ J<|qa J<|qt<|O J<|O J<|G _ J<|O J<|O J<|O J ?_
 obtain ⟨ac,cq,a⟩:=q7 a
 obtain ⟨df,cr,a⟩:=q7 a
 have cs:=Kn cr
 refine U1 [(0,0)] [(0,0)] [.hs 0 3 0 n.length,.d (q8 (w64 (k.1 + 1))),q6 b.2.1,q6 c.1,.d (.fn q1F q1C)] (.d (.tup [])) [(0,.dat 3 (ac.map Qr))] [(0,.dat 3 (ac.map Qr))] 1 (hrec k.2.2 (w64 (k.1 + 1)) b.2.1 c.1 ac cq) J J J (Ym [(0,0)] [] [] J ⟨⟨_,J,K6 (by simp [y]) J qx (ltd J)⟩,qr J,qr J,qr J,qr J,trivial⟩ ⟨Qt J J,trivial⟩) (Ym [(0,0)] [] [] J ⟨qr J,trivial⟩ ⟨Qt J J,trivial⟩) J ⟨.inl J,trivial⟩<|q9<|qw<|O J<|qa J<|qv<|Qn<|Qf ?_
 exact ⟨_,qm a,wkE [] [] [] J ⟨⟨_,J,K6 (by simp [y,cs]) J qx (ltd J)⟩,qr J,qr J,qr J,qr J,qr J,qr J,trivial⟩ ⟨Qt J J,trivial⟩⟩
theorem qzf (n : Nat) (g : qn→qn→Option Int) (q1F : FuncId) (q1C : List DV) (q1Ok : ∀ (h : qn) (j : qn) (r : Int),g h j = some r→Pure Tryz.prog tab q1F ([.agg [q8 h.at_,q8 h.list_,q8 h.by_],.agg [q8 j.at_,q8 j.list_,q8 j.by_]] ++ q1C) (q8 r)) : ∀ (a : List qn) (b : Int) (c : Int) (f : Int) (r : List qn),q7l n g a b c f = some r→K8 Tryz.prog tab 172 [.hs 0 3 0 a.length,q6 b,q6 c,q6 f,.d (.fn q1F q1C)] [(0,.dat 3 (a.map Qr))] 1 (.d (.tup [])) [(0,.dat 3 (r.map Qr))] 1:=by
 induction n with
 | zero=>intro a b c f r k;cases k
 | succ n ih=>intro a b c f r k;exact qze (q7l n g) g q1F q1C q1Ok ih a b c f r k
theorem qyy (g : qn→qn→Option Int) (q1F : FuncId) (q1C : List DV) (q1Ok : ∀ (c : qn) (f : qn) (r : Int),g c f = some r→Pure Tryz.prog tab q1F ([.agg [q8 c.at_,q8 c.list_,q8 c.by_],.agg [q8 f.at_,q8 f.list_,q8 f.by_]] ++ q1C) (q8 r)) (b : List qn) (r : List qn) (a : q6w g b = some r) : K8 Tryz.prog tab 162 [.hs 0 3 0 b.length,.d (.fn q1F q1C)] [(0,.dat 3 (b.map Qr))] 1 (.d (.tup [])) [(0,.dat 3 (r.map Qr))] 1:=by
 unfold q6w at a
 refine Kr Tryz.func162 J qh qh J<|qc<|O J<|G _ J<|qa J<|q9<|qw<|O J<|O J<|O J<|G _ J ?_
 obtain ⟨j,l,a⟩:=q7 a
 refine Q4 (qft (IntKind.wrap .u64 (b.length : Int)) j l) J<|O J ?_
 obtain ⟨k,h,a⟩:=q7 a
 obtain ⟨o,m,a⟩:=q7 a
 have p:=Kn m
 obtain ⟨n,h⟩:=qfo h
 refine K9 [(0,0)] [(0,0)] _ (.d (.tup [])) 1 [(0,.dat 3 (k.map Qr))] 1 (qzf n g q1F q1C q1Ok b 0 (b.length : Int) j k h)<|qv ?_
 obtain rfl:=qd a
 exact ⟨.inl J,_,J,wkA [] [] []⟩
theorem qyz (a : List qn) (r : List qn) (b : qdd  a = some r) : K8 Tryz.prog tab 164 [.hs 0 3 0 a.length] [(0,.dat 3 (a.map Qr))] 1 (.fn 173 [.ref 1 1 0 0]) [(0,.dat 3 (r.map Qr)),(1,.cel 1 [[.hs 0 3 0 r.length]])] 2:=by
 unfold qdd at b
 refine Kr Tryz.func164 J qh qh J<|qc<|Qs _ _ J<|qa J<|qt<|G _ J<|qa J<|qs ?_
 obtain rfl:=qd b
 exact ⟨.inr J,_,J,wkA [(1,1)] [] []⟩
theorem q128 (a : List (List qk)) (r : List (List qk) × List qn) (b : qax  a = some r) : K8 Tryz.prog tab 145 [.hs 0 1 0 a.length] [(0,.dat 1 (a.map q1e))] 1 (.fn 173 [.ref 1 1 0 0]) [(0,.dat 1 (r.1.map q1e)),(1,.cel 1 [[.hs 2 3 0 r.2.length]]),(2,.dat 3 (r.2.map Qr))] 3:=by
 unfold qax at b
 refine Kr Tryz.func145 J qh qh J<|qc<|qa J<|qt<|qa J<|q9<|qf<|qc<|O J<|G _ J<|O J<|q9 ?_
 obtain ⟨s,u,b⟩:=q7 b
 refine Qk (fun h=>h = s) (fun h=>⟨[(3,.hs 1 3 0 h.length)],[(0,.dat 1 (a.map q1e)),(1,.dat 3 (h.map Qr))],2⟩) qe ?_ ?_
 ·refine Qe (q18 a) (fun f=>⟨[(3,.hs 1 3 0 f.2.length),(8,.hs 0 1 0 a.length),(9,q6 (a.length : Int)),(10,q6 f.1)],[(0,.dat 1 (a.map q1e)),(1,.dat 3 (f.2.map Qr))],2⟩) (0,[]) s u (wkA [] [] [1]) ?_
  intro f af g
  unfold q18 at g
  refine qc<|G _ J<|q9<|qf ?_
  refine qo J g (fun _ g=>?_) (fun _ g=>?_)
  ·refine ql<|qf ?_
   obtain ⟨v,j,g⟩:=q7 g
   refine Qk (fun k=>k = v) (fun k=>⟨[(3,.hs 1 3 0 k.length),(8,.hs 0 1 0 a.length),(9,q6 (a.length : Int)),(10,q6 f.1)],[(0,.dat 1 (a.map q1e)),(1,.dat 3 (k.map Qr))],2⟩) qe ?_ ?_
   ·refine qc<|O J ?_
    obtain ⟨n,t,j⟩:=q7 j
    refine qz t J J<|Qd _ t J<|qa J<|qa J<|qt<|O J<|Qi J<|O J<|q9 ?_
    obtain ⟨w,x,j⟩:=q7 j
    refine Q3<|Qe (q4v n f) (fun m=>⟨[(3,.hs 1 3 0 m.2.length),(4,q6 f.1),(8,.hs 0 1 0 a.length),(9,q6 (a.length : Int)),(10,q6 f.1),(15,.d (.sl 2 (n.map Qh))),(16,q6 (n.length : Int)),(17,q6 m.1)],[(0,.dat 1 (a.map q1e)),(1,.dat 3 (m.2.map Qr))],2⟩) (0,f.2) w x (wkA [(1,1)] [] []) ?_
    intro m ag c
    unfold q4v at c
    refine qc<|G _ J<|q9<|qf ?_
    refine qo J c (fun _ c=>?_) (fun _ c=>?_)
    ·refine ql<|qf<|Q3<|qc ?_
     obtain ⟨ah,y,c⟩:=q7 c
     refine Qc y J<|G _ J<|K4 J J<|Ql 2 _ J<|q9<|qw<|O J<|G _ J<|G _ J<|O J<|G _ J<|G _ J<|G _ J<|O J<|G _ J<|Qs _ _ J ?_
     obtain ⟨ai,z,c⟩:=q7 c
     refine Ku _ z J J J J J J J (Ks J J) J J J J<|qa J<|qv<|Qn<|qw<|G _ J<|O J<|qv ?_
     exact ⟨_,qm c,wkA [(1,4)] [] []⟩
    refine Q8 ?_
    refine ⟨_,qm c,fun hm=>?_⟩
    subst hm
    obtain rfl:=qd j
    exact ⟨_,J,wkA [(1,1)] [] []⟩
   intro k hb
   subst hb
   refine qw<|G _ J<|O J<|qv ?_
   exact ⟨_,qm g,wkA [(1,1)] [] []⟩
  refine Q8 ?_
  refine ⟨_,qm g,fun hm=>?_⟩
  subst hm
  exact ⟨_,J,wkA [(1,1)] [] []⟩
 intro h hb
 subst hb
 refine qc<|O J ?_
 obtain ⟨o,aa,b⟩:=q7 b
 obtain ⟨aj,ab,b⟩:=q7 b
 have ac:=Kn ab
 refine K9 [(0,1)] [(0,1),(1,0)] _ (.d (.tup [])) 1 [(1,.dat 3 (o.map Qr)),(0,.dat 1 (a.map q1e))] 2 (qyy (fun p q=>qaw p q) 163 [] (fun p q r hr=>q127 p q r hr) h o aa)<|qt<|O J ?_
 obtain ⟨l,ad,b⟩:=q7 b
 obtain ⟨ak,ae,b⟩:=q7 b
 have al:=Kn ae
 refine U1 [(0,1)] [(0,2),(1,0),(2,1)] [.hs 1 3 0 h.length] (.fn 173 [.ref 2 1 0 0]) [(1,.dat 3 (l.map Qr)),(2,.cel 1 [[.hs 1 3 0 l.length]])] [(1,.dat 3 (l.map Qr)),(2,.cel 1 [[.hs 1 3 0 l.length]]),(0,.dat 1 (a.map q1e))] 3 (qyz o l ad) J J J (Ym [(0,1)] [] [] J ⟨⟨_,J,K6 (by simp [ac]) J qx (ltd J)⟩,trivial⟩ ⟨Qt J J,trivial⟩) (Ym [(0,2),(1,0),(2,1)] [] [] J ⟨⟨_,J,(q2c (.cons (.ref J qx (ltd J)) .nil))⟩,trivial⟩ ⟨Qt J J,⟨ltd J,.inr ⟨qx,_,J,Jm (.cons (.hs J qx (ltd J)) J .nil)⟩⟩,trivial⟩) J ⟨.inl J,.inl J,.inr ⟨J,J⟩,trivial⟩<|qa J<|qs ?_
 obtain rfl:=qd b
 exact ⟨.inr J,_,J,wkA [(1,2),(2,1)] [] []⟩
theorem q129 (f : Int) (h : Bool) (j : Int) (g : List qk) (r : Bool × Int × List qk) (a : qay  f h j g = some r) : K8 Tryz.prog tab 144 [q6 f,.ref 0 1 0 0,.ref 1 1 0 0,.ref 2 1 0 0] [(0,.dat 1 [[.bool h]]),(1,.dat 1 [[q8 j]]),(2,.cel 1 [[.hs 3 2 0 g.length]]),(3,.dat 2 (g.map Qh))] 4 (.d (.tup [])) [(0,.dat 1 [[.bool r.1]]),(1,.dat 1 [[q8 r.2.1]]),(2,.cel 1 [[.hs 4 2 0 r.2.2.length]]),(4,.dat 2 (r.2.2.map Qh))] 5:=by
 unfold qay at a
 refine Kr Tryz.func144 J qh qh J<|qf<|qc<|G _ J<|G _ J ?_
 obtain ⟨aa,c,a⟩:=q7 a
 refine Qb 5 (fun A st=>∃ k l m n,st = A [(12,Q0 aa),(11,n),(10,m),(9,l),(8,k)]) ?_ ?_
 ·refine Q9 J J c (fun c=>?_) (fun c=>?_)
  ·refine qb J<|qb J<|qb J<|G _ J<|q9 ?_
   obtain rfl:=qd c
   exact ⟨_,_,_,_,J⟩
  refine G _ J<|O J<|G _ J<|G _ J<|q9 ?_
  obtain rfl:=qd c
  exact ⟨_,_,_,_,J⟩
 rintro _ ⟨k,l,m,n,rfl⟩
 refine q9 ?_
 refine qo J a (fun _ a=>?_) (fun _ a=>?_)
 ·refine q15 ?_
  obtain rfl:=qd a
  exact ⟨.inr J,_,J,wkA [(4,3)] [] []⟩
 refine ql<|qc<|G _ J<|G _ J<|qa J<|q9<|qf<|Qj [U,U,qu 1,qu 3,U,U,U,U,qu 2,U,U,U] qh<|O J<|G _ J ?_
 obtain ⟨ab,b,a⟩:=q7 a
 refine Qb 10 (fun A st=>∃ o p q s t u v w x,st = A [(26,Q0 ab),(25,x),(24,w),(23,v),(22,u),(21,t),(20,s),(19,q),(18,p),(17,o)]) ?_ ?_
 ·refine Q9 J J b (fun b=>?_) (fun b=>?_)
  ·refine G _ J<|O J<|G _ J ?_
   obtain ⟨ae,y,b⟩:=q7 b
   refine qz y J J<|G _ J<|Qd _ y J<|G _ J<|G _ J<|G _ J<|q9 ?_
   obtain rfl:=qd b
   exact ⟨_,_,_,_,_,_,_,_,_,J⟩
  refine qb J<|qb J<|qb J<|qb J<|qb J<|qb J<|qb J<|qb J<|G _ J<|q9 ?_
  obtain rfl:=qd b
  exact ⟨_,_,_,_,_,_,_,_,_,J⟩
 rintro _ ⟨o,p,q,s,t,u,v,w,x,rfl⟩
 refine q9 ?_
 refine qo J a (fun _ a=>?_) (fun _ a=>?_)
 ·refine qw<|G _ J<|O J<|G _ J<|O J ?_
  obtain ⟨ac,z,a⟩:=q7 a
  refine qz z J J<|G _ J<|K5 (ds:=[q8 f]) ({Lo:=ac.Lo,Hi:=f} : qk) z J J J J J J J J (leb J) J<|qv ?_
  obtain rfl:=qd a
  exact ⟨.inl J,_,J,wkE [(4,3)] [] [] J ⟨qr J,trivial⟩ ⟨Qt J J,Qt J J,⟨ltd J,.inr ⟨qx,_,J,Jm (.cons (K6 qe J qx (ltd J)) J .nil)⟩⟩,Qt J J,trivial⟩⟩
 refine qw<|G _ J<|G _ J<|O J<|G _ J<|Qs _ _ J ?_
 obtain ⟨af,ad,a⟩:=q7 a
 refine Ku _ ad J J J J J J J (Ks J J) J J J J<|Ql 2 _ J<|qv ?_
 obtain rfl:=qd a
 exact ⟨.inl J,_,J,wkA [(4,5)] [] []⟩
theorem qo1 (m : List qk) (n : List qk) (o : Bool→Bool→Option Bool) (p2F : FuncId) (p2C : List DV) (p2Ok : ∀ (q : Bool) (s : Bool) (r : Bool),o q s = some r→Pure Tryz.prog tab p2F ([.bool q,.bool s] ++ p2C) (.bool r)) (r : List qk) (h : q3g m n o = some r) : Pure Tryz.prog tab 132 [.sl 2 (m.map Qh),.sl 2 (n.map Qh),.fn p2F p2C] (.sl 2 (r.map Qh)):=by
 unfold q3g at h
 refine Qo Tryz.func132 J qh qh J<|qc<|Qs _ _ J<|qa J<|qt<|K4 J J<|qt<|K4 J J<|qt<|K4 J J<|K4 J J<|Ql 3 _ J<|Ql 4 _ J<|qt<|G _ J<|K4 J J<|Ql 5 _ J<|q9<|qf<|qc<|O J<|O J<|Qs _ _ J ?_
 obtain ⟨a,h2,h⟩:=q7 h
 obtain ⟨u3,h4,h⟩:=q7 h
 have h5:=Kn h4
 refine K9 [(0,6)] [(0,3),(1,3),(2,3),(3,3),(4,3),(5,3),(6,0),(7,1),(8,2)] _ (.fn 173 [.ref 7 1 0 0]) 3 [(6,.dat 1 (a.1.map q1e)),(7,.cel 1 [[.hs 8 3 0 a.2.length]]),(8,.dat 3 (a.2.map Qr)),(0,.dat 1 [[.fn p2F p2C]]),(1,.dat 2 [[0,0].flatMap (eI .i64)]),(2,.dat 1 [[.nilsl]]),(3,.dat 1 [[q8 0]]),(4,.dat 1 [[.bool false]]),(5,.cel 1 [[.fn 144 [.ref 4 1 0 0,.ref 3 1 0 0,.ref 2 1 0 0]]])] 9 (q128 [m,n] a h2)<|q9<|Q3 ?_
 obtain ⟨ad,p,h⟩:=q7 h
 refine q6p (fun k=>k = ad) (fun k=>⟨[(8,.ref 0 1 0 0)],[(0,.cel 1 [[.hs 1 2 0 k.length]]),(1,.dat 2 (k.map Qh))],2⟩) ?_ ?_
 ·refine Yb (st':=⟨[(5,.ref 0 1 0 0),(6,.d (.nilsl)),(7,.ref 1 2 0 0),(8,.ref 2 1 0 0),(9,.ref 3 1 0 0),(10,.ref 4 1 0 0),(11,.ref 5 1 0 0),(17,.fn 173 [.ref 6 1 0 0])],[(0,.dat 1 [[.fn p2F p2C]]),(1,.dat 2 [[0,0].flatMap (eI .i64)]),(2,.dat 1 [[.nilsl]]),(3,.dat 1 [[q8 0]]),(4,.dat 1 [[.bool false]]),(5,.cel 1 [[.fn 144 [.ref 4 1 0 0,.ref 3 1 0 0,.ref 2 1 0 0]]]),(6,.cel 1 [[.hs 7 3 0 a.2.length]]),(7,.dat 3 (a.2.map Qr))],8⟩) (wkA [(0,0),(1,1),(2,2),(3,3),(4,4),(5,5),(6,7),(7,8)] [] []) ?_ qe
  refine q6q _ (.inl J) Tryz.func173 J qh qh J ?_
  intro A154 B155 hA154 hB155
  refine qc<|G _ J<|G _ J<|O J<|q9 ?_
  obtain ⟨ae,af,p⟩:=q7 p
  refine Q3<|Qe (q4w a o) (fun c=>⟨[(0,.yld 8),(5,.hs 7 3 0 a.2.length),(6,q6 (a.2.length : Int)),(7,q6 c.1)],[(0,.dat 1 [[.fn p2F p2C]]),(1,.dat 2 [c.2.1.flatMap (eI .i64)]),(2,.cel 1 [[.hs 9 2 0 c.2.2.2.2.length]]),(3,.dat 1 [[q8 c.2.2.1]]),(4,.dat 1 [[.bool c.2.2.2.1]]),(5,.cel 1 [[.fn 144 [.ref 4 1 0 0,.ref 3 1 0 0,.ref 2 1 0 0]]]),(6,.cel 1 [[.hs 7 3 0 a.2.length]]),(7,.dat 3 (a.2.map Qr)),(8,.loop [(5,.ref 0 1 0 0),(6,.d (.nilsl)),(7,.ref 1 2 0 0),(8,.ref 2 1 0 0),(9,.ref 3 1 0 0),(10,.ref 4 1 0 0),(11,.ref 5 1 0 0),(17,.fn 173 [.ref 6 1 0 0])] [18] A154 B155 .ready none),(9,.dat 2 (c.2.2.2.2.map Qh))],10⟩) (0,[0,0],0,false,[]) ae af (wkA [] [] [9]) ?_
  intro c am f
  unfold q4w at f
  refine qc<|G _ J<|q9<|qf ?_
  refine qo J f (fun _ f=>?_) (fun _ f=>?_)
  ·refine ql<|qf<|Q3<|qc ?_
   obtain ⟨g,t,f⟩:=q7 f
   refine qz t J J<|Qd _ t J<|K4 J J<|Ql 10 _ J<|qt<|O J<|G _ J ?_
   obtain ⟨ag,b,f⟩:=q7 f
   refine q5w (fun j=>j = ag) (fun (j : List Int × Bool × List qk)=>⟨[(0,.yld 8),(5,.hs 7 3 0 a.2.length),(6,q6 (a.2.length : Int)),(7,q6 c.1),(13,Q0 true)],[(0,.dat 1 [[.fn p2F p2C]]),(1,.dat 2 [j.1.flatMap (eI .i64)]),(2,.cel 1 [[.hs 9 2 0 j.2.2.length]]),(3,.dat 1 [[q8 g.at_]]),(4,.dat 1 [[.bool j.2.1]]),(5,.cel 1 [[.fn 144 [.ref 4 1 0 0,.ref 3 1 0 0,.ref 2 1 0 0]]]),(6,.cel 1 [[.hs 7 3 0 a.2.length]]),(7,.dat 3 (a.2.map Qr)),(8,.loop [(5,.ref 0 1 0 0),(6,.d (.nilsl)),(7,.ref 1 2 0 0),(8,.ref 2 1 0 0),(9,.ref 3 1 0 0),(10,.ref 4 1 0 0),(11,.ref 5 1 0 0),(17,.fn 173 [.ref 6 1 0 0])] [18] A154 B155 .ready none),(9,.dat 2 (j.2.2.map Qh))],10⟩) hA154 hB155 J J J J J J ?_ ?_
   ·refine qw<|K4 J J<|Ql 11 _ J<|qv ?_
    refine ⟨J,_,J,?_⟩
    refine Q3<|qc<|G _ J<|G _ J<|G _ J ?_
    obtain ⟨l,ah,b⟩:=q7 b
    refine K9 [(0,4),(1,3),(2,2),(3,9)] [(0,5),(1,5),(2,2),(3,1),(4,0),(5,5),(6,5),(7,5),(8,5),(9,3),(10,5),(11,5),(12,4)] _ (.d (.tup [])) 4 [(2,.cel 1 [[.hs 12 2 0 l.2.2.length]]),(3,.dat 1 [[q8 l.2.1]]),(4,.dat 1 [[.bool l.1]]),(12,.dat 2 (l.2.2.map Qh)),(0,.dat 1 [[.fn p2F p2C]]),(1,.dat 2 [c.2.1.flatMap (eI .i64)]),(5,.cel 1 [[.fn 144 [.ref 4 1 0 0,.ref 3 1 0 0,.ref 2 1 0 0]]]),(6,.cel 1 [[.hs 7 3 0 a.2.length]]),(7,.dat 3 (a.2.map Qr)),(8,.loop [(5,.ref 0 1 0 0),(6,.d (.nilsl)),(7,.ref 1 2 0 0),(8,.ref 2 1 0 0),(9,.ref 3 1 0 0),(10,.ref 4 1 0 0),(11,.ref 5 1 0 0),(17,.fn 173 [.ref 6 1 0 0])] [18] A154 B155 .busy none),(10,.dat 3 [[q8 g.at_,q8 g.list_,q8 g.by_]]),(11,.dat 3 [[q8 g.at_,q8 g.list_,q8 g.by_]])] 13 (q129 g.at_ c.2.2.2.1 c.2.2.1 c.2.2.2.2 l ah)<|q9<|qf<|Qj [Qv 1,U,U,qu 11,U,qu 1,U,qu 11,U] qh<|G _ J<|G _ J ?_
    obtain ⟨u,v,b⟩:=q7 b
    refine qcj v J J J J J<|qg7 (enc:=(eI .i64)) (q6 u) v (fun _=>rfl) J J J J J J<|G _ J<|G _ J<|G _ J ?_
    obtain ⟨an,w,b⟩:=q7 b
    refine qcj w J J J J J<|quc (enc:=(eI .i64)) (w64 (u + g.by_)) w (fun _=>rfl) J J J J J J J J<|q9<|Qj [Qv 4,Qv 3,U,U,qu 1,U,U,qu 1,U,qu 0,qu 11,U] qh<|G _ J<|G _ J<|G _ J ?_
    obtain ⟨x,y,b⟩:=q7 b
    refine qcj y J J J J J<|qg7 (enc:=(eI .i64)) (q6 x) y (fun _=>rfl) J J J J J J<|G _ J ?_
    obtain ⟨z,aa,b⟩:=q7 b
    refine qcj aa J J J J J<|qg7 (enc:=(eI .i64)) (q6 z) aa (fun _=>rfl) J J J J J J<|G _ J ?_
    obtain ⟨ai,aj,b⟩:=q7 b
    refine Yk _ (p2Ok (decide (x > 0)) (decide (z > 0)) ai aj) J J J (.inl J)<|Ql 3 _ J<|Ql 4 _ J<|qv<|Qn<|Qf ?_
    refine ⟨_,J,?_⟩
    obtain rfl:=qd b
    exact ⟨_,J,wkA [(9,12)] [] []⟩
   intro j hb
   subst hb
   refine G _ J<|q9<|Zf J<|ql<|Qf<|Qn<|qw<|G _ J<|O J<|qv ?_
   exact ⟨_,qm f,wkA [(9,9)] [] []⟩
  refine Q8 ?_
  refine ⟨_,qm f,fun hm=>?_⟩
  subst hm
  refine ⟨.inl J,_,J,_,_,.nor,J,qx,?_⟩
  refine q56<|Qf ?_
  obtain rfl:=qd p
  exact ⟨_,J,wkA [(0,2),(1,9)] [] []⟩
 intro k st hb hw
 subst hb
 refine Yb hw ?_ qe
 refine qc<|G _ J<|qa J<|qs ?_
 obtain rfl:=qd h
 exact finD (.inr J) J (Zi J J) (.refl _)
theorem q122 (a : Bool) (b : Bool) (r : Bool) (c : qau a b = some r) : Pure Tryz.prog tab 160 [.bool a,.bool b] (.bool r):=by
 unfold qau at c
 refine Qo Tryz.func160 J qh qh J<|qc<|qa J<|qt<|O J<|qa J<|qs ?_
 obtain rfl:=qd c
 exact Q5 _ J
theorem q123 (c : List qk) (r : List qk × Int) (a : q80 c = some r) : Pure Tryz.prog tab 140 [.sl 2 (c.map Qh)] (.tup [.sl 2 (r.1.map Qh),q8 r.2]):=by
 unfold q80 at a
 refine Qo Tryz.func140 J qh qh J<|qc<|qa J<|qa J<|q9<|qf<|qc<|O J<|Qi J<|G _ J<|q9 ?_
 refine qo J a (fun _ a=>?_) (fun _ a=>?_)
 ·refine qc<|qa J<|qa J<|qs ?_
  obtain rfl:=qd a
  exact finD (.inr J) J J (Ye (.cons (.nil _) (.cons (.refl _) .nil)))
 refine ql<|qf<|qc<|O J ?_
 obtain ⟨f,g,a⟩:=q7 a
 refine Q4 (qyo c (fun b=>qdl b) 159 [] (fun b r hr=>q121 b r hr) f g) J<|q9 ?_
 refine qo J a (fun _ a=>?_) (fun _ a=>?_)
 ·refine qc<|qa J<|qa J<|qs ?_
  obtain rfl:=qd a
  exact finD (.inr J) J J (Ye (.cons (.nil _) (.cons (.refl _) .nil)))
 refine ql<|qc<|O J ?_
 obtain ⟨h,j,a⟩:=q7 a
 refine Q4 (Un (.cons (.refl _) (.cons (.nil _) (.cons (.refl _) .nil))) (qo1 c [] (fun b d=>qau b d) 160 [] (fun b d r hr=>q122 b d r hr) h j)) J<|qa J<|qa J<|qs ?_
 obtain rfl:=qd a
 exact Q5 _ J
theorem qyq (c : List qk) (f : List qk) (r : Bool) (b : q9u c f = some r) : Pure Tryz.prog tab 130 [.sl 2 (c.map Qh),.sl 2 (f.map Qh)] (.bool r):=by
 unfold q9u at b
 refine Qo Tryz.func130 J qh qh J<|qc<|qa J<|q9<|qf<|qc<|O J<|Qi J<|O J<|Qi J<|G _ J<|q9 ?_
 refine qo J b (fun _ b=>?_) (fun _ b=>?_)
 ·refine qc<|qa J<|qs ?_
  obtain rfl:=qd b
  exact Q5 _ J
 refine ql<|qf<|qc<|O J<|Qi J<|O J<|q9 ?_
 obtain ⟨h,k,b⟩:=q7 b
 refine Qk (fun g=>.inl g = h) (fun g=>⟨[],[],0⟩) qe ?_ ?_
 ·refine Qe (qd6 c f) (fun j=>⟨[(0,.d (.sl 2 (c.map Qh))),(1,.d (.sl 2 (f.map Qh))),(12,q6 (c.length : Int)),(13,q6 j)],[],0⟩) 0 h k (wkA [] [] []) ?_
  intro j n a
  unfold qd6 at a
  refine qc<|G _ J<|q9<|qf ?_
  refine qo J a (fun _ a=>?_) (fun _ a=>?_)
  ·refine ql<|qf<|Q3<|qc<|O J<|qa J<|q9<|qf<|Qj [U,U,U,U,U,U,U,U,U] qh<|O J<|O J ?_
   obtain ⟨o,l,a⟩:=q7 a
   refine Qc l J<|G _ J<|O J<|O J ?_
   obtain ⟨p,m,a⟩:=q7 a
   refine Qc m J<|G _ J<|G _ J<|q9 ?_
   refine qo J a (fun _ a=>?_) (fun _ a=>?_)
   ·refine qc<|qa J<|qs ?_
    refine ⟨_,qm a,fun hm=>?_⟩
    subst hm
    obtain rfl:=qd b
    exact Q5 _ J
   refine ql<|Qf<|Qn<|qw<|G _ J<|O J<|qv ?_
   exact ⟨_,qm a,wkA [] [] []⟩
  refine Q8 ?_
  refine ⟨_,qm a,fun hm=>?_⟩
  subst hm
  exact ⟨_,J,wkA [] [] []⟩
 intro g hb
 subst hb
 refine qc<|qa J<|qs ?_
 obtain rfl:=qd b
 exact Q5 _ J
theorem qmi (g : List qi) (k : List qk) (l : Int) (o : Int) (p : Int) (b : Int) (h : List qk) (r : List qk × Int × Int × List qi) (a : q6i  g k l o p b h = some r) : K8 Tryz.prog tab 110 [.ref 0 4 0 0,q6 p,q6 b,.d (.sl 2 (h.map Qh))] [(0,.cel 4 [[.hs 1 4 0 g.length,.d (.sl 2 (k.map Qh)),q6 l,q6 o]]),(1,.dat 4 (g.map Q2))] 2 (.d (.tup [])) [(0,.cel 4 [[.hs 2 4 0 r.2.2.2.length,.d (.sl 2 (r.1.map Qh)),q6 r.2.1,q6 r.2.2.1]]),(2,.dat 4 (r.2.2.2.map Q2))] 3:=by
 unfold q6i at a
 refine Kr Tryz.func110 J qh qh J<|qf<|qc<|O J<|Qi J<|G _ J ?_
 obtain ⟨ak,m,a⟩:=q7 a
 refine Qb 8 (fun A st=>∃ u v w x y z aa,st = A [(21,Q0 ak),(20,aa),(19,z),(18,y),(17,x),(16,w),(15,v),(14,u)]) ?_ ?_
 ·refine Q9 J J m (fun m=>?_) (fun m=>?_)
  ·refine O J<|G _ J<|G _ J<|G _ J<|O J<|G _ J<|G _ J<|q9 ?_
   obtain rfl:=qd m
   exact ⟨_,_,_,_,_,_,_,J⟩
  refine qb J<|qb J<|qb J<|qb J<|qb J<|qb J<|G _ J<|q9 ?_
  obtain rfl:=qd m
  exact ⟨_,_,_,_,_,_,_,J⟩
 rintro _ ⟨u,v,w,x,y,z,aa,rfl⟩
 obtain ⟨al,j,a⟩:=q7 a
 refine Qb 8 (fun A st=>∃ ab ac ad ae af ag ah,st = A [(29,Q0 al),(28,ah),(27,ag),(26,af),(25,ae),(24,ad),(23,ac),(22,ab)]) ?_ ?_
 ·refine Q9 J J j (fun j=>?_) (fun j=>?_)
  ·refine O J<|G _ J<|G _ J<|G _ J<|O J ?_
   obtain ⟨am,an,j⟩:=q7 j
   refine Q4 (qyq k h am an) J<|G _ J<|q9 ?_
   obtain rfl:=qd j
   exact ⟨_,_,_,_,_,_,_,J⟩
  refine qb J<|qb J<|qb J<|qb J<|qb J<|qb J<|G _ J<|q9 ?_
  obtain rfl:=qd j
  exact ⟨_,_,_,_,_,_,_,J⟩
 rintro _ ⟨ab,ac,ad,ae,af,ag,ah,rfl⟩
 refine q9 ?_
 refine qo J a (fun _ a=>?_) (fun _ a=>?_)
 ·refine qf<|qc<|O J<|G _ J<|G _ J<|G _ J<|qa J<|q9 ?_
  obtain ⟨ai,ao,a⟩:=q7 a
  refine Qk (fun n=>n = ai) (fun n=>⟨[(0,.ref 0 4 0 0),(2,q6 b)],[(0,.cel 4 [[.hs 1 4 0 n.length,.d (.sl 2 (k.map Qh)),q6 l,q6 o]]),(1,.dat 4 (n.map Q2))],2⟩) qe ?_ ?_
  ·refine Qe (q6j b) (fun q=>⟨[(0,.ref 0 4 0 0),(2,q6 b),(8,q6 q.1)],[(0,.cel 4 [[.hs 1 4 0 q.2.length,.d (.sl 2 (k.map Qh)),q6 l,q6 o]]),(1,.dat 4 (q.2.map Q2))],2⟩) (l,g) ai ao (wkA [] [] []) ?_
   intro q av f
   unfold q6j at f
   refine qf<|qc<|O J<|O J<|G _ J<|G _ J<|G _ J<|G _ J<|G _ J<|q9 ?_
   refine qo J f (fun _ f=>?_) (fun _ f=>?_)
   ·refine ql<|qf<|Q3<|qw<|O J<|G _ J<|G _ J<|G _ J<|O J<|O J ?_
    obtain ⟨t,aj,f⟩:=q7 f
    refine qz aj J J<|G _ J<|K5 (ds:=[q8 b]) ({X0:=t.X0,Y0:=t.Y0,X1:=b,Y1:=t.Y1} : qi) aj J J J J J J J J (leb J) J<|qv<|Qn<|qw<|O J<|G _ J<|qa J<|qv ?_
    exact ⟨_,qm f,wkE [] [] [] J ⟨⟨_,J,.ref J qx (ltd J)⟩,qr J,qr J,trivial⟩ ⟨⟨ltd J,.inr ⟨qx,_,J,Jm (.cons (K6 qe J qx (ltd J)) J (.cons (.d (.refl _)) J (.cons (.d (.refl _)) J (.cons (.d (.refl _)) J .nil))))⟩⟩,Qt J J,trivial⟩⟩
   refine Q8 ?_
   refine ⟨_,qm f,fun hm=>?_⟩
   subst hm
   exact ⟨_,J,wkA [] [] []⟩
  intro n hb
  subst hb
  refine qc<|O J<|O J<|G _ J<|G _ J<|Ql 0 _ J<|qs ?_
  obtain rfl:=qd a
  exact ⟨.inr J,_,J,wkA [(2,1)] [] []⟩
 refine ql<|qc<|O J<|O J<|O J<|O J<|G _ J<|G _ J<|G _ J<|G _ J<|O J<|O J<|G _ J<|G _ J<|Ql 0 _ J<|G _ J<|G _ J<|Ql 0 _ J<|G _ J<|G _ J<|Ql 0 _ J<|qt<|O J<|Qi J<|O J<|q9 ?_
 obtain ⟨ap,aq,a⟩:=q7 a
 refine Q3<|Qe (q6k h p b g) (fun s=>⟨[(0,.ref 0 4 0 0),(1,q6 p),(2,q6 b),(71,.d (.sl 2 (h.map Qh))),(72,q6 (h.length : Int)),(73,q6 s.1)],[(0,.cel 4 [[.hs 2 4 0 s.2.length,.d (.sl 2 (h.map Qh)),q6 (g.length : Int),q6 b]]),(2,.dat 4 (s.2.map Q2))],3⟩) (0,g) ap aq (wkA [(2,1)] [] []) ?_
 intro s aw c
 unfold q6k at c
 refine qc<|G _ J<|q9<|qf ?_
 refine qo J c (fun _ c=>?_) (fun _ c=>?_)
 ·refine ql<|qf<|Q3<|qc ?_
  obtain ⟨ax,ar,c⟩:=q7 c
  refine Qc ar J<|G _ J<|K4 J J<|Ql 3 _ J<|q9<|Qj [Qv 0,U,U,(some [2,4],[2,5]),(some [],[4]),U,qu 3,U,U,qu 3,U,U,qu 0,U,U,U,U] qh<|O J<|O J<|G _ J<|G _ J<|G _ J<|O J<|G _ J<|G _ J<|O J<|G _ J<|G _ J<|G _ J<|Qs _ _ J ?_
  obtain ⟨ay,au,c⟩:=q7 c
  refine Ku _ au J J J J J J J (Ks J J) J J J J<|G _ J<|G _ J<|Ql 0 _ J<|qv<|Qn<|qw<|G _ J<|O J<|qv ?_
  exact ⟨_,qm c,wkA [(2,5)] [] []⟩
 refine Q8 ?_
 refine ⟨_,qm c,fun hm=>?_⟩
 subst hm
 obtain rfl:=qd a
 exact ⟨.inl J,_,J,wkA [(2,2)] [] []⟩
theorem qmj (a : List qi) (r : List qi × Int) (u : q6l a = some r) : Pure Tryz.prog tab 126 [.sl 4 (a.map Q2)] (.tup [.sl 4 (r.1.map Q2),q8 r.2]):=by
 unfold q6l at u
 refine Qo Tryz.func126 J qh qh J<|qc<|qa J<|qa J<|qt<|K4 J J<|q9<|qf<|qc<|O J<|Qs (.hs 1 1 0 [a].length) (.dat 1 ([a].map Kp)) J ?_
 obtain ⟨aw,l,u⟩:=q7 u
 refine q3z [.hs 1 1 0 [a].length] (fun h=>h = aw) (fun (h : List Int)=>⟨[(2,.d (.nilsl)),(3,q6 0),(4,.ref 0 4 0 0),(10,.fn 157 [.ref 1 1 0 0,.ref 2 1 0 0])],[(0,.dat 4 [[.nilsl,.nilsl,q8 0,q8 0]]),(1,.cel 1 [[.d (.sl 1 (h.map (eI .i64)))]]),(2,.cel 1 [[.hs 3 1 0 [a].length]]),(3,.dat 1 ([a].map Kp))],4⟩) J J Tryz.func139 J qh qh J ?_ ?_
 ·refine qc<|Qs (.ref 2 1 0 0) (.cel 1 [[.hs 1 1 0 [a].length]]) J<|qa J<|qt<|K4 J J<|q9<|qf<|qc<|G (.hs 1 1 0 [a].length) J<|G (q6 1) J<|O J<|q9<|Q3<|Ys<|qc<|G (Q0 true) J<|q9<|qf<|Zg J<|ql<|qf ?_
  obtain ⟨ax,ac,l⟩:=q7 l
  refine Qk (fun m=>m = ax) (fun (m : List Int)=>⟨[(1,.ref 2 1 0 0),(3,.ref 3 1 0 0),(8,.hs 1 1 0 [a].length),(9,q6 1),(10,q6 0)],[(0,.dat 4 [[.nilsl,.nilsl,q8 0,q8 0]]),(1,.dat 1 ([a].map Kp)),(2,.cel 1 [[.hs 1 1 0 [a].length]]),(3,.cel 1 [[.hs 4 1 0 m.length]]),(4,.dat 1 (m.map (eI .i64)))],5⟩) qe ?_ ?_
  ·refine qc ?_
   obtain ⟨ad,am,ac⟩:=q7 ac
   refine qz am J J<|Qd (.d (.sl 4 (ad.map Q2))) am J<|qa J<|qt<|O J<|Qi J<|O J<|q9 ?_
   obtain ⟨ay,az,ac⟩:=q7 ac
   refine Q3<|Qe (J8 ad) (fun (w : Int × List Int)=>⟨[(1,.ref 2 1 0 0),(3,.ref 3 1 0 0),(8,.hs 1 1 0 [a].length),(9,q6 1),(10,q6 0),(14,.d (.sl 4 (ad.map Q2))),(15,q6 (ad.length : Int)),(16,q6 w.1)],[(0,.dat 4 [[.nilsl,.nilsl,q8 0,q8 0]]),(1,.dat 1 ([a].map Kp)),(2,.cel 1 [[.hs 1 1 0 [a].length]]),(3,.cel 1 [[.hs 4 1 0 w.2.length]]),(4,.dat 1 (w.2.map (eI .i64)))],5⟩) (0,[]) ay az (wkA [(2,2),(3,3)] [] [4]) ?_
   intro w cd p
   unfold J8 at p
   refine qc<|G (.d (.bool (decide (w.1 < (ad.length : Int))))) J<|q9<|qf ?_
   refine qo J p (fun _ p=>?_) (fun _ p=>?_)
   ·refine ql<|qf<|Q3<|qc ?_
    obtain ⟨g,ba,p⟩:=q7 p
    refine Qc (enc:=Q2) ba J<|G (.d (.agg [q8 g.X0,q8 g.Y0,q8 g.X1,q8 g.Y1])) J<|K4 J J<|Ql 5 (.dat 4 [[q8 g.X0,q8 g.Y0,q8 g.X1,q8 g.Y1]]) J<|q9<|qw<|G (.hs 4 1 0 w.2.length) J<|G (.ref 5 4 0 0) J<|G (q6 g.X0) J<|G (.ref 5 4 0 2) J<|G (q6 g.X1) J<|Qs (.hs 6 1 0 [g.X0,g.X1].length) (.dat 1 ([g.X0,g.X1].map (eI .i64))) J ?_
    obtain ⟨bb,bc,p⟩:=q7 p
    refine Ku (xs:=w.2) (ys:=[g.X0,g.X1]) (enc:=(eI .i64)) (.hs 6 1 0 [g.X0,g.X1].length) bc J J J J J J J (Ks J J) J J J J<|Ql 3 (.cel 1 [[.hs 7 1 0 bb.length]]) J<|qv<|Qn<|qw<|G (.d (q8 (w64 (w.1 + 1)))) J<|O J<|qv ?_
    exact ⟨_,qm p,wkA [(2,2),(3,3),(4,7)] [] []⟩
   refine Q8 ?_
   refine ⟨_,qm p,fun hm=>?_⟩
   subst hm
   obtain rfl:=qd ac
   exact ⟨_,J,wkA [(2,2),(3,3),(4,4)] [] []⟩
  intro m hb
  subst hb
  refine qw<|G (q6 1) J<|O J<|q9<|Ys<|qc<|G (Q0 false) J<|q9<|qf<|Zf J<|Q8<|Jw<|qc<|G (.hs 4 1 0 m.length) J ?_
  obtain ⟨ak,bd,l⟩:=q7 l
  obtain ⟨ce,be,l⟩:=q7 l
  have bf:=Kn be
  refine K9 [(0,4)] [(0,1),(1,1),(2,1),(3,1),(4,0)] [.hs 4 1 0 m.length] (.d (.tup [])) 1 [(4,.dat 1 (ak.map (eI .i64))),(0,.dat 4 [[.nilsl,.nilsl,q8 0,q8 0]]),(1,.dat 1 ([a].map Kp)),(2,.cel 1 [[.hs 1 1 0 [a].length]]),(3,.cel 1 [[.hs 4 1 0 m.length]])] 5 (qdc m ak bd)<|qt<|G (.hs 4 1 0 m.length) J ?_
  obtain ⟨z,bg,l⟩:=q7 l
  obtain ⟨cf,bh,l⟩:=q7 l
  have cg:=Kn bh
  obtain ⟨ch,bi,l⟩:=q7 l
  have bj:=qdu bi
  refine U1 [(0,4)] [(0,1),(1,1),(2,1),(3,1),(4,0)] [.hs 4 1 0 m.length] (.hs 4 1 z.1.1 z.1.2) [(4,.dat 1 (z.2.map (eI .i64)))] [(4,.dat 1 (z.2.map (eI .i64))),(0,.dat 4 [[.nilsl,.nilsl,q8 0,q8 0]]),(1,.dat 1 ([a].map Kp)),(2,.cel 1 [[.hs 1 1 0 [a].length]]),(3,.cel 1 [[.hs 4 1 0 m.length]])] 5 (qd3 ak z bg) J J J (Ym [(0,4)] [] [] J ⟨⟨_,J,K6 (by simp [bf]) J qx (ltd J)⟩,trivial⟩ ⟨Qt J J,trivial⟩) (Ym [(0,1),(1,1),(2,1),(3,1),(4,0)] [] [] J ⟨⟨_,J,.hs J qx (ltd J)⟩,trivial⟩ ⟨Qt J J,trivial⟩) J ⟨.inl J,.inr ⟨J,J⟩,.inr ⟨J,J⟩,.inr ⟨J,J⟩,.inr ⟨J,J⟩,trivial⟩<|Ql 3 (.cel 1 [[.hs 4 1 z.1.1 z.1.2]]) J<|qt<|G (.fn 157 [.ref 3 1 0 0,.ref 2 1 0 0]) J<|qa J<|qs ?_
  refine ⟨.inr J,_,J,?_⟩
  obtain rfl:=qd l
  exact ⟨_,J,wkE [(0,0),(1,3),(2,2),(3,1)] [4] [] J ⟨qr J,qr J,⟨_,J,.ref J qx (ltd J)⟩,⟨_,J,(q2c (.cons (.ref J qx (ltd J)) (.cons (.ref J qx (ltd J)) .nil)))⟩,trivial⟩ ⟨Qt J J,⟨ltd J,.inr ⟨qx,_,J,Jm (.cons (qdw bj J qx) J .nil)⟩⟩,⟨ltd J,.inr ⟨qx,_,J,Jm (.cons (.hs J qx (ltd J)) J .nil)⟩⟩,Qt J J,trivial⟩⟩
 intro h hb
 subst hb
 refine q9<|Q3 ?_
 obtain ⟨bk,al,u⟩:=q7 u
 refine q6p (fun n=>n = bk) (fun (n : List qk × Int × Int × List qi)=>⟨[(4,.ref 0 4 0 0)],[(0,.cel 4 [[.hs 1 4 0 n.2.2.2.length,.d (.sl 2 (n.1.map Qh)),q6 n.2.1,q6 n.2.2.1]]),(1,.dat 4 (n.2.2.2.map Q2))],2⟩) ?_ ?_
 ·refine Yb (st':=⟨[(2,.d (.nilsl)),(3,q6 0),(4,.ref 0 4 0 0),(10,.fn 157 [.ref 1 1 0 0,.ref 2 1 0 0])],[(0,.dat 4 [[.nilsl,.nilsl,q8 0,q8 0]]),(1,.cel 1 [[.d (.sl 1 (h.map (eI .i64)))]]),(2,.cel 1 [[.hs 3 1 0 [a].length]]),(3,.dat 1 ([a].map Kp))],4⟩) (wkA [(0,0),(1,1),(2,2),(3,3)] [] []) ?_ qe
  refine q6q [.ref 1 1 0 0,.ref 2 1 0 0] (.inl J) Tryz.func157 J qh qh J ?_
  intro A847 B848 hA847 hB848
  refine qc<|qa J<|q9 ?_
  obtain ⟨bl,bm,al⟩:=q7 al
  refine Q3<|Qe (q36 h a) (fun (b : Int × List qk × Int × Int × List qi)=>⟨[(0,.yld 4),(1,.ref 1 1 0 0),(2,.ref 2 1 0 0),(4,q6 b.1)],[(0,.cel 4 [[.hs 5 4 0 b.2.2.2.2.length,.d (.sl 2 (b.2.1.map Qh)),q6 b.2.2.1,q6 b.2.2.2.1]]),(1,.cel 1 [[.d (.sl 1 (h.map (eI .i64)))]]),(2,.cel 1 [[.hs 3 1 0 [a].length]]),(3,.dat 1 ([a].map Kp)),(4,.loop [(2,.d (.nilsl)),(3,q6 0),(4,.ref 0 4 0 0),(10,.fn 157 [.ref 1 1 0 0,.ref 2 1 0 0])] [11] A847 B848 .ready none),(5,.dat 4 (b.2.2.2.2.map Q2))],6⟩) (1,[],0,0,[]) bl bm (wkA [] [] [5]) ?_
  intro b ci j
  unfold q36 at j
  refine qf<|qc<|O J<|G (.d (.sl 1 (h.map (eI .i64)))) J<|Qi J<|G (.d (.bool (decide (b.1 < (h.length : Int))))) J<|q9 ?_
  refine qo J j (fun _ j=>?_) (fun _ j=>?_)
  ·refine ql<|qf<|Q3<|qf<|Qj [Qv 7,(some [],[7]),U,(some [],[6]),U,qu 2,U,U,U,qu 1,U,U,U,U,qu 1] qh<|G (.d (.sl 1 (h.map (eI .i64)))) J<|O J<|G (.d (q8 (w64 (b.1 - 1)))) J ?_
   obtain ⟨f,bn,j⟩:=q7 j
   refine Qc (enc:=(eI .i64)) bn J<|G (q6 f) J<|G (.d (.sl 1 (h.map (eI .i64)))) J<|O J ?_
   obtain ⟨k,bo,j⟩:=q7 j
   refine Qc (enc:=(eI .i64)) bo J<|G (q6 k) J<|G (.hs 3 1 0 [a].length) J<|G (q6 1) J<|Qs (.hs 6 1 0 1) (.dat 1 [[.nilsl]]) J<|G (.agg [q6 f,q6 k,.hs 6 1 0 1]) J<|K4 J J<|Ql 7 (.cel 3 [[q6 f,q6 k,.hs 6 1 0 1]]) J<|q9<|qf<|qc<|G (.hs 3 1 0 [a].length) J<|G (q6 1) J<|O J<|q9<|Q3<|Ys<|qc<|G (Q0 true) J<|q9<|qf<|Zg J<|ql<|qf ?_
   obtain ⟨bp,ae,j⟩:=q7 j
   refine Qk (fun s=>s = bp) (fun (s : List qk)=>⟨[(0,.yld 4),(1,.ref 1 1 0 0),(2,.ref 2 1 0 0),(4,q6 b.1),(5,.ref 5 3 0 0),(29,.hs 3 1 0 [a].length),(30,q6 1),(31,q6 0)],[(0,.cel 4 [[.hs 6 4 0 b.2.2.2.2.length,.d (.sl 2 (b.2.1.map Qh)),q6 b.2.2.1,q6 b.2.2.2.1]]),(1,.cel 1 [[.d (.sl 1 (h.map (eI .i64)))]]),(2,.cel 1 [[.hs 3 1 0 [a].length]]),(3,.dat 1 ([a].map Kp)),(4,.loop [(2,.d (.nilsl)),(3,q6 0),(4,.ref 0 4 0 0),(10,.fn 157 [.ref 1 1 0 0,.ref 2 1 0 0])] [11] A847 B848 .ready none),(5,.cel 3 [[q6 f,q6 k,.hs 7 1 0 1]]),(6,.dat 4 (b.2.2.2.2.map Q2)),(7,.cel 1 [[.hs 8 2 0 s.length]]),(8,.dat 2 (s.map Qh))],9⟩) qe ?_ ?_
   ·refine qc<|O J ?_
    obtain ⟨aa,an,ae⟩:=q7 ae
    refine qz an J J<|Qd (.d (.sl 4 (aa.map Q2))) an J<|qa J<|qa J<|qt<|O J<|Qi J<|O J<|q9 ?_
    obtain ⟨bq,br,ae⟩:=q7 ae
    refine Q3<|Qe (Uo aa f) (fun (t : Int × List qk)=>⟨[(0,.yld 4),(1,.ref 1 1 0 0),(2,.ref 2 1 0 0),(4,q6 b.1),(5,.ref 5 3 0 0),(6,q6 0),(29,.hs 3 1 0 [a].length),(30,q6 1),(31,q6 0),(36,.d (.sl 4 (aa.map Q2))),(37,q6 (aa.length : Int)),(38,q6 t.1)],[(0,.cel 4 [[.hs 6 4 0 b.2.2.2.2.length,.d (.sl 2 (b.2.1.map Qh)),q6 b.2.2.1,q6 b.2.2.2.1]]),(1,.cel 1 [[.d (.sl 1 (h.map (eI .i64)))]]),(2,.cel 1 [[.hs 3 1 0 [a].length]]),(3,.dat 1 ([a].map Kp)),(4,.loop [(2,.d (.nilsl)),(3,q6 0),(4,.ref 0 4 0 0),(10,.fn 157 [.ref 1 1 0 0,.ref 2 1 0 0])] [11] A847 B848 .ready none),(5,.cel 3 [[q6 f,q6 k,.hs 7 1 0 1]]),(6,.dat 4 (b.2.2.2.2.map Q2)),(7,.cel 1 [[.hs 8 2 0 t.2.length]]),(8,.dat 2 (t.2.map Qh))],9⟩) (0,[]) bq br (wkA [(5,7),(6,5),(7,6)] [] [8]) ?_
    intro t cj x
    unfold Uo at x
    refine qc<|G (.d (.bool (decide (t.1 < (aa.length : Int))))) J<|q9<|qf ?_
    refine qo J x (fun _ x=>?_) (fun _ x=>?_)
    ·refine ql<|qf ?_
     obtain ⟨bs,o,x⟩:=q7 x
     refine Qk (fun af=>af = bs) (fun (af : List qk)=>⟨[(0,.yld 4),(1,.ref 1 1 0 0),(2,.ref 2 1 0 0),(4,q6 b.1),(5,.ref 5 3 0 0),(6,q6 0),(29,.hs 3 1 0 [a].length),(30,q6 1),(31,q6 0),(36,.d (.sl 4 (aa.map Q2))),(37,q6 (aa.length : Int)),(38,q6 t.1)],[(0,.cel 4 [[.hs 6 4 0 b.2.2.2.2.length,.d (.sl 2 (b.2.1.map Qh)),q6 b.2.2.1,q6 b.2.2.2.1]]),(1,.cel 1 [[.d (.sl 1 (h.map (eI .i64)))]]),(2,.cel 1 [[.hs 3 1 0 [a].length]]),(3,.dat 1 ([a].map Kp)),(4,.loop [(2,.d (.nilsl)),(3,q6 0),(4,.ref 0 4 0 0),(10,.fn 157 [.ref 1 1 0 0,.ref 2 1 0 0])] [11] A847 B848 .ready none),(5,.cel 3 [[q6 f,q6 k,.hs 7 1 0 1]]),(6,.dat 4 (b.2.2.2.2.map Q2)),(7,.cel 1 [[.hs 8 2 0 af.length]]),(8,.dat 2 (af.map Qh))],9⟩) qe ?_ ?_
     ·refine qc ?_
      obtain ⟨c,bt,o⟩:=q7 o
      refine Qc (enc:=Q2) bt J<|G (.d (.agg [q8 c.X0,q8 c.Y0,q8 c.X1,q8 c.Y1])) J<|K4 J J<|Ql 9 (.dat 4 [[q8 c.X0,q8 c.Y0,q8 c.X1,q8 c.Y1]]) J<|qt<|G (.ref 9 4 0 0) J<|G (q6 c.X0) J<|G (.ref 5 3 0 0) J<|G (q6 f) J<|G (.d (.bool (decide (c.X0≤f)))) J ?_
      obtain ⟨bu,ag,o⟩:=q7 o
      refine Qb 7 (fun A st=>∃ (ao ap aq ar au av : V),st = A [(53,Q0 bu),(52,av),(51,au),(50,ar),(49,aq),(48,ap),(47,ao)]) ?_ ?_
      ·refine Q9 J J ag (fun ag=>?_) (fun ag=>?_)
       ·refine G (.ref 5 3 0 0) J<|G (q6 f) J<|G (.ref 9 4 0 2) J<|G (q6 c.X1) J<|G (.d (.bool (decide (f < c.X1)))) J<|G (.d (.bool (decide (f < c.X1)))) J<|q9 ?_
        obtain rfl:=qd ag
        exact ⟨_,_,_,_,_,_,J⟩
       refine qb J<|qb J<|qb J<|qb J<|qb J<|G (Q0 false) J<|q9 ?_
       obtain rfl:=qd ag
       exact ⟨_,_,_,_,_,_,J⟩
      rintro _ ⟨ao,ap,aq,ar,au,av,rfl⟩
      refine q9 ?_
      refine qo J o (fun _ o=>?_) (fun _ o=>?_)
      ·refine Qj [Qv 7,U,(some [8,10],[8,11]),(some [],[10]),U,qu 9,U,qu 9,U,qu 7,U,U,qu 5,U,U,qu 5,U] qh<|G (.ref 5 3 0 2) J<|G (.hs 7 1 0 1) J<|O J<|G (.ref 5 3 0 2) J<|G (.hs 7 1 0 1) J<|O J<|G (.ref 7 1 0 0) J<|G (.hs 8 2 0 t.2.length) J<|G (.ref 9 4 0 1) J<|G (q6 c.Y0) J<|G (.ref 9 4 0 3) J<|G (q6 c.Y1) J<|G (.d (.agg [q8 c.Y0,q8 c.Y1])) J<|Qs (.hs 10 2 0 [({Lo:=c.Y0,Hi:=c.Y1} : qk)].length) (.dat 2 ([({Lo:=c.Y0,Hi:=c.Y1} : qk)].map Qh)) J ?_
       obtain ⟨bv,bw,o⟩:=q7 o
       refine Ku (xs:=t.2) (ys:=[({Lo:=c.Y0,Hi:=c.Y1} : qk)]) (enc:=Qh) (.hs 10 2 0 [({Lo:=c.Y0,Hi:=c.Y1} : qk)].length) bw J J J J J J J (Ks J J) J J J J<|G (.ref 7 1 0 0) J<|Ql 7 (.cel 1 [[.hs 11 2 0 bv.length]]) J<|qv ?_
       obtain rfl:=qd o
       exact ⟨_,J,wkA [(5,5),(6,6),(7,7),(8,11)] [] []⟩
      refine ql<|Qf ?_
      obtain rfl:=qd o
      exact ⟨_,J,wkA [(5,5),(6,6),(7,7),(8,8)] [] []⟩
     intro af hb
     subst hb
     refine qw<|G (.d (q8 (w64 (t.1 + 1)))) J<|O J<|qv ?_
     exact ⟨_,qm x,wkA [(5,5),(6,6),(7,7),(8,8)] [] []⟩
    refine Q8 ?_
    refine ⟨_,qm x,fun hm=>?_⟩
    subst hm
    obtain rfl:=qd ae
    exact ⟨_,J,wkA [(5,5),(6,6),(7,7),(8,8)] [] []⟩
   intro s hb
   subst hb
   refine qw<|G (q6 1) J<|O J<|q9<|Ys<|qc<|G (Q0 false) J<|q9<|qf<|Zf J<|Q8<|Jw<|qf ?_
   refine Yb (st':=⟨[(0,.yld 4),(1,.ref 1 1 0 0),(2,.ref 2 1 0 0),(4,q6 b.1),(5,.ref 5 3 0 0)],[(0,.cel 4 [[.hs 6 4 0 b.2.2.2.2.length,.d (.sl 2 (b.2.1.map Qh)),q6 b.2.2.1,q6 b.2.2.2.1]]),(1,.cel 1 [[.d (.sl 1 (h.map (eI .i64)))]]),(2,.cel 1 [[.hs 3 1 0 [a].length]]),(3,.dat 1 ([a].map Kp)),(4,.loop [(2,.d (.nilsl)),(3,q6 0),(4,.ref 0 4 0 0),(10,.fn 157 [.ref 1 1 0 0,.ref 2 1 0 0])] [11] A847 B848 .ready none),(5,.cel 3 [[q6 f,q6 k,.hs 7 1 0 1]]),(6,.dat 4 (b.2.2.2.2.map Q2)),(7,.cel 1 [[.d (.sl 2 (s.map Qh))]])],8⟩) (wkA [(5,5),(6,6),(7,7)] [8] []) ?_ qe
   refine qw<|O J<|G (.agg [q6 f,q6 k,.hs 7 1 0 1]) J ?_
   obtain ⟨bz,ah,j⟩:=q7 j
   refine q5w (fun y=>y = bz) (fun (y : List qk × Int × Int × List qi)=>⟨[(0,.yld 4),(1,.ref 1 1 0 0),(2,.ref 2 1 0 0),(4,q6 b.1),(74,Q0 true)],[(0,.cel 4 [[.hs 5 4 0 y.2.2.2.length,.d (.sl 2 (y.1.map Qh)),q6 y.2.1,q6 y.2.2.1]]),(1,.cel 1 [[.d (.sl 1 (h.map (eI .i64)))]]),(2,.cel 1 [[.hs 3 1 0 [a].length]]),(3,.dat 1 ([a].map Kp)),(4,.loop [(2,.d (.nilsl)),(3,q6 0),(4,.ref 0 4 0 0),(10,.fn 157 [.ref 1 1 0 0,.ref 2 1 0 0])] [11] A847 B848 .ready none),(5,.dat 4 (y.2.2.2.map Q2))],6⟩) hA847 hB848 J J J J J J ?_ ?_
   ·refine qw<|K4 J J<|Ql 8 (.cel 3 [[q6 f,q6 k,.hs 7 1 0 1]]) J<|qv ?_
    refine ⟨J,_,J,?_⟩
    refine Q3<|qc<|G (.ref 8 3 0 2) J<|G (.hs 7 1 0 1) J<|G (.ref 7 1 0 0) J<|G (.d (.sl 2 (s.map Qh))) J ?_
    obtain ⟨ai,ca,ah⟩:=q7 ah
    refine Q4 (q123 s ai ca) J<|O J<|G (.d (.sl 2 (ai.1.map Qh))) J<|G (q6 ai.2) J<|qa J<|qa J<|q9<|qw<|G (.ref 8 3 0 0) J<|G (q6 f) J<|G (.ref 8 3 0 1) J<|G (q6 k) J<|O J ?_
    obtain ⟨ab,cb,ah⟩:=q7 ah
    refine K9 [(0,0),(1,6)] [(0,0),(1,3),(2,3),(3,3),(4,3),(5,3),(6,1),(7,3),(8,3),(9,2)] [.ref 0 4 0 0,q6 f,q6 k,.d (.sl 2 (ai.1.map Qh))] (.d (.tup [])) 2 [(0,.cel 4 [[.hs 9 4 0 ab.2.2.2.length,.d (.sl 2 (ab.1.map Qh)),q6 ab.2.1,q6 ab.2.2.1]]),(9,.dat 4 (ab.2.2.2.map Q2)),(1,.cel 1 [[.d (.sl 1 (h.map (eI .i64)))]]),(2,.cel 1 [[.hs 3 1 0 [a].length]]),(3,.dat 1 ([a].map Kp)),(4,.loop [(2,.d (.nilsl)),(3,q6 0),(4,.ref 0 4 0 0),(10,.fn 157 [.ref 1 1 0 0,.ref 2 1 0 0])] [11] A847 B848 .busy none),(5,.cel 3 [[q6 f,q6 k,.hs 7 1 0 1]]),(7,.cel 1 [[.d (.sl 2 (s.map Qh))]]),(8,.cel 3 [[q6 f,q6 k,.hs 7 1 0 1]])] 10 (qmi b.2.2.2.2 b.2.1 b.2.2.1 b.2.2.2.1 f k ai.1 ab cb)<|qv<|Qn<|Qf ?_
    refine ⟨_,J,?_⟩
    obtain rfl:=qd ah
    exact ⟨_,J,wkA [(5,9)] [] []⟩
   intro y hb
   subst hb
   refine G (Q0 false) J<|q9<|Zf J<|ql<|Qf<|Qn<|qw<|O J<|G (.d (q8 (w64 (b.1 + 1)))) J<|qa J<|qv ?_
   exact ⟨_,qm j,wkA [(5,5)] [] []⟩
  refine Q8 ?_
  refine ⟨_,qm j,fun hm=>?_⟩
  subst hm
  refine ⟨.inl J,_,J,_,_,.nor,J,qx,?_⟩
  refine q56<|Qf ?_
  obtain rfl:=qd al
  exact ⟨_,J,wkA [(0,0),(1,5)] [] []⟩
 intro n st hb hw
 subst hb
 refine Yb hw ?_ qe
 refine qc ?_
 obtain ⟨cc,aj,u⟩:=q7 u
 refine q3z [.ref 0 4 0 0] (fun q=>q = cc) (fun (q : Int × List qi)=>⟨[(26,.tup [.hs 0 4 0 q.2.length,q6 q.1])],[(0,.dat 4 (q.2.map Q2))],1⟩) J J Tryz.func111 J qh qh J ?_ ?_
 ·refine qc<|qa J<|qa J<|q9<|qf<|qc<|O J<|G (.ref 0 4 0 0) J<|G (.ref 0 4 0 0) J<|G (.hs 1 4 0 n.2.2.2.length) J<|G (q6 (n.2.2.2.length : Int)) J<|G (.d (.bool (decide ((n.2.2.2.length : Int) > 400)))) J<|q9 ?_
  refine qo J aj (fun _ aj=>?_) (fun _ aj=>?_)
  ·refine qc<|qa J<|qa J<|qs ?_
   refine ⟨.inr J,_,J,?_⟩
   obtain rfl:=qd aj
   exact ⟨_,J,wkA [] [] [0]⟩
  refine ql<|qc<|O J<|G (.ref 0 4 0 0) J<|G (.ref 0 4 0 0) J<|G (.hs 1 4 0 n.2.2.2.length) J<|qa J<|qa J<|qs ?_
  refine ⟨.inr J,_,J,?_⟩
  obtain rfl:=qd aj
  exact ⟨_,J,wkA [(0,1)] [] []⟩
 intro q hb
 subst hb
 refine G (.hs 0 4 0 q.2.length) J<|G (q6 q.1) J<|qa J<|qa J<|qs ?_
 obtain rfl:=qd u
 exact finD (.inr J) (v:=.tup [.hs 0 4 0 q.2.length,q6 q.1]) J (q53 (Yp (Zi J J) (Yp J J))) (.refl _)
theorem qgi (b : List qi) (r : List qi × Int) (a : q1x b = some r) : Pure Tryz.prog tab 99 [.sl 4 (b.map Q2)] (.tup [.sl 4 (r.1.map Q2),q8 r.2]):=by
 unfold q1x at a
 refine Qo Tryz.func99 J qh qh J<|qc<|qa J<|qa J<|q9<|qf<|qc<|O J<|Qi J<|G _ J<|q9 ?_
 refine qo J a (fun _ a=>?_) (fun _ a=>?_)
 ·refine qc<|qa J<|qa J<|qs ?_
  obtain rfl:=qd a
  exact finD (.inr J) J J (Ye (.cons (.nil _) (.cons (.refl _) .nil)))
 refine ql<|qf<|qc<|O J ?_
 obtain ⟨d,f,a⟩:=q7 a
 refine Q4 (qym b (fun c=>q34 c) 124 [] (fun c r hr=>qwj c r hr) d f) J<|q9 ?_
 refine qo J a (fun _ a=>?_) (fun _ a=>?_)
 ·refine qc<|qa J<|qa J<|qs ?_
  obtain rfl:=qd a
  exact finD (.inr J) J J (Ye (.cons (.nil _) (.cons (.refl _) .nil)))
 refine ql<|qc<|O J ?_
 obtain ⟨g,h,a⟩:=q7 a
 refine Q4 (qmj b g h) J<|G _ J<|G _ J<|qa J<|qa J<|qs ?_
 obtain rfl:=qd a
 exact Q5 _ J
theorem qnc (c : List qi) (f : List qi) (r : Bool) (b : q6t c f = some r) : Pure Tryz.prog tab 127 [.sl 4 (c.map Q2),.sl 4 (f.map Q2)] (.bool r):=by
 unfold q6t at b
 refine Qo Tryz.func127 J qh qh J<|qc<|qa J<|q9<|qf<|qc<|O J<|Qi J<|O J<|Qi J<|G _ J<|q9 ?_
 refine qo J b (fun _ b=>?_) (fun _ b=>?_)
 ·refine qc<|qa J<|qs ?_
  obtain rfl:=qd b
  exact Q5 _ J
 refine ql<|qf<|qc<|O J<|Qi J<|O J<|q9 ?_
 obtain ⟨h,k,b⟩:=q7 b
 refine Qk (fun g=>.inl g = h) (fun g=>⟨[],[],0⟩) qe ?_ ?_
 ·refine Qe (qd4 c f) (fun j=>⟨[(0,.d (.sl 4 (c.map Q2))),(1,.d (.sl 4 (f.map Q2))),(12,q6 (c.length : Int)),(13,q6 j)],[],0⟩) 0 h k (wkA [] [] []) ?_
  intro j n a
  unfold qd4 at a
  refine qc<|G _ J<|q9<|qf ?_
  refine qo J a (fun _ a=>?_) (fun _ a=>?_)
  ·refine ql<|qf<|Q3<|qc<|O J<|qa J<|q9<|qf<|Qj [U,U,U,U,U,U,U,U,U] qh<|O J<|O J ?_
   obtain ⟨o,l,a⟩:=q7 a
   refine Qc l J<|G _ J<|O J<|O J ?_
   obtain ⟨p,m,a⟩:=q7 a
   refine Qc m J<|G _ J<|G _ J<|q9 ?_
   refine qo J a (fun _ a=>?_) (fun _ a=>?_)
   ·refine qc<|qa J<|qs ?_
    refine ⟨_,qm a,fun hm=>?_⟩
    subst hm
    obtain rfl:=qd b
    exact Q5 _ J
   refine ql<|Qf<|Qn<|qw<|G _ J<|O J<|qv ?_
   exact ⟨_,qm a,wkA [] [] []⟩
  refine Q8 ?_
  refine ⟨_,qm a,fun hm=>?_⟩
  subst hm
  exact ⟨_,J,wkA [] [] []⟩
 intro g hb
 subst hb
 refine qc<|qa J<|qs ?_
 obtain rfl:=qd b
 exact Q5 _ J
theorem qnp (g : List qg) (k : List qi) (l : Int) (o : Int) (p : Int) (b : Int) (h : List qi) (r : List qi × Int × Int × List qg) (a : q7u  g k l o p b h = some r) : K8 Tryz.prog tab 100 [.ref 0 4 0 0,q6 p,q6 b,.d (.sl 4 (h.map Q2))] [(0,.cel 4 [[.hs 1 6 0 g.length,.d (.sl 4 (k.map Q2)),q6 l,q6 o]]),(1,.dat 6 (g.map Qg))] 2 (.d (.tup [])) [(0,.cel 4 [[.hs 2 6 0 r.2.2.2.length,.d (.sl 4 (r.1.map Q2)),q6 r.2.1,q6 r.2.2.1]]),(2,.dat 6 (r.2.2.2.map Qg))] 3:=by
 unfold q7u at a
 refine Kr Tryz.func100 J qh qh J<|qf<|qc<|O J<|Qi J<|G _ J ?_
 obtain ⟨ak,m,a⟩:=q7 a
 refine Qb 8 (fun A st=>∃ u v w x y z aa,st = A [(21,Q0 ak),(20,aa),(19,z),(18,y),(17,x),(16,w),(15,v),(14,u)]) ?_ ?_
 ·refine Q9 J J m (fun m=>?_) (fun m=>?_)
  ·refine O J<|G _ J<|G _ J<|G _ J<|O J<|G _ J<|G _ J<|q9 ?_
   obtain rfl:=qd m
   exact ⟨_,_,_,_,_,_,_,J⟩
  refine qb J<|qb J<|qb J<|qb J<|qb J<|qb J<|G _ J<|q9 ?_
  obtain rfl:=qd m
  exact ⟨_,_,_,_,_,_,_,J⟩
 rintro _ ⟨u,v,w,x,y,z,aa,rfl⟩
 obtain ⟨al,j,a⟩:=q7 a
 refine Qb 8 (fun A st=>∃ ab ac ad ae af ag ah,st = A [(29,Q0 al),(28,ah),(27,ag),(26,af),(25,ae),(24,ad),(23,ac),(22,ab)]) ?_ ?_
 ·refine Q9 J J j (fun j=>?_) (fun j=>?_)
  ·refine O J<|G _ J<|G _ J<|G _ J<|O J ?_
   obtain ⟨am,an,j⟩:=q7 j
   refine Q4 (qnc k h am an) J<|G _ J<|q9 ?_
   obtain rfl:=qd j
   exact ⟨_,_,_,_,_,_,_,J⟩
  refine qb J<|qb J<|qb J<|qb J<|qb J<|qb J<|G _ J<|q9 ?_
  obtain rfl:=qd j
  exact ⟨_,_,_,_,_,_,_,J⟩
 rintro _ ⟨ab,ac,ad,ae,af,ag,ah,rfl⟩
 refine q9 ?_
 refine qo J a (fun _ a=>?_) (fun _ a=>?_)
 ·refine qf<|qc<|O J<|G _ J<|G _ J<|G _ J<|qa J<|q9 ?_
  obtain ⟨ai,ao,a⟩:=q7 a
  refine Qk (fun n=>n = ai) (fun n=>⟨[(0,.ref 0 4 0 0),(2,q6 b)],[(0,.cel 4 [[.hs 1 6 0 n.length,.d (.sl 4 (k.map Q2)),q6 l,q6 o]]),(1,.dat 6 (n.map Qg))],2⟩) qe ?_ ?_
  ·refine Qe (q7v b) (fun q=>⟨[(0,.ref 0 4 0 0),(2,q6 b),(8,q6 q.1)],[(0,.cel 4 [[.hs 1 6 0 q.2.length,.d (.sl 4 (k.map Q2)),q6 l,q6 o]]),(1,.dat 6 (q.2.map Qg))],2⟩) (l,g) ai ao (wkA [] [] []) ?_
   intro q av f
   unfold q7v at f
   refine qf<|qc<|O J<|O J<|G _ J<|G _ J<|G _ J<|G _ J<|G _ J<|q9 ?_
   refine qo J f (fun _ f=>?_) (fun _ f=>?_)
   ·refine ql<|qf<|Q3<|qw<|O J<|G _ J<|G _ J<|G _ J<|O J<|O J ?_
    obtain ⟨t,aj,f⟩:=q7 f
    refine qz aj J J<|G _ J<|G _ J<|K5 (ds:=[q8 b]) ({Lo:=t.Lo,Hi:=({X:=t.Hi.X,Y:=t.Hi.Y,Z:=b} : Qa)} : qg) aj J J J J J J J J (leb J) J<|qv<|Qn<|qw<|O J<|G _ J<|qa J<|qv ?_
    exact ⟨_,qm f,wkE [] [] [] J ⟨⟨_,J,.ref J qx (ltd J)⟩,qr J,qr J,trivial⟩ ⟨⟨ltd J,.inr ⟨qx,_,J,Jm (.cons (K6 qe J qx (ltd J)) J (.cons (.d (.refl _)) J (.cons (.d (.refl _)) J (.cons (.d (.refl _)) J .nil))))⟩⟩,Qt J J,trivial⟩⟩
   refine Q8 ?_
   refine ⟨_,qm f,fun hm=>?_⟩
   subst hm
   exact ⟨_,J,wkA [] [] []⟩
  intro n hb
  subst hb
  refine qc<|O J<|O J<|G _ J<|G _ J<|Ql 0 _ J<|qs ?_
  obtain rfl:=qd a
  exact ⟨.inr J,_,J,wkA [(2,1)] [] []⟩
 refine ql<|qc<|O J<|O J<|O J<|O J<|G _ J<|G _ J<|G _ J<|G _ J<|O J<|O J<|G _ J<|G _ J<|Ql 0 _ J<|G _ J<|G _ J<|Ql 0 _ J<|G _ J<|G _ J<|Ql 0 _ J<|qt<|O J<|Qi J<|O J<|q9 ?_
 obtain ⟨ap,aq,a⟩:=q7 a
 refine Q3<|Qe (q7w h p b g) (fun s=>⟨[(0,.ref 0 4 0 0),(1,q6 p),(2,q6 b),(72,.d (.sl 4 (h.map Q2))),(73,q6 (h.length : Int)),(74,q6 s.1)],[(0,.cel 4 [[.hs 2 6 0 s.2.length,.d (.sl 4 (h.map Q2)),q6 (g.length : Int),q6 b]]),(2,.dat 6 (s.2.map Qg))],3⟩) (0,g) ap aq (wkA [(2,1)] [] []) ?_
 intro s aw c
 unfold q7w at c
 refine qc<|G _ J<|q9<|qf ?_
 refine qo J c (fun _ c=>?_) (fun _ c=>?_)
 ·refine ql<|qf<|Q3<|qc ?_
  obtain ⟨ax,ar,c⟩:=q7 c
  refine Qc ar J<|G _ J<|K4 J J<|Ql 3 _ J<|q9<|Qj [Qv 0,U,U,(some [2,4],[2,5]),(some [],[4]),U,U,U,qu 3,U,qu 3,U,U,U,qu 3,U,qu 3,U,qu 0,U,U,U,U] qh<|O J<|O J<|G _ J<|G _ J<|G _ J<|G _ J<|G _ J<|G _ J<|G _ J<|O J<|G _ J<|G _ J<|G _ J<|G _ J<|G _ J<|O J<|G _ J<|G _ J<|Qs _ _ J ?_
  obtain ⟨ay,au,c⟩:=q7 c
  refine Ku _ au J J J J J J J (Ks J J) J J J J<|G _ J<|G _ J<|Ql 0 _ J<|qv<|Qn<|qw<|G _ J<|O J<|qv ?_
  exact ⟨_,qm c,wkA [(2,5)] [] []⟩
 refine Q8 ?_
 refine ⟨_,qm c,fun hm=>?_⟩
 subst hm
 obtain rfl:=qd a
 exact ⟨.inl J,_,J,wkA [(2,2)] [] []⟩
theorem qnt (b : List qg) (r : List qg × Int) (h : q7z b = some r) : Pure Tryz.prog tab 72 [.agg [.nilf],.sl 1 ([b].map Qq)] (.tup [.sl 6 (r.1.map Qg),q8 r.2]):=by
 unfold q7z at h
 refine Qo Tryz.func72 J qh qh J<|qc<|Qs _ _ J<|K4 J J<|K4 J J<|qt<|K4 J J<|q9<|qf<|qc<|O J ?_
 obtain ⟨ao,f,h⟩:=q7 h
 refine q3z [.d (.sl 1 ([b].map Qq))] (fun g=>g = ao) (fun (g : List Int)=>⟨[(2,.ref 0 1 0 0),(4,.ref 1 1 0 0),(5,.ref 2 1 0 0),(6,.ref 3 4 0 0),(14,.fn 122 [.ref 4 1 0 0,.ref 5 1 0 0])],[(0,.dat 1 [[.nilf]]),(1,.dat 1 [[.nilsl]]),(2,.dat 1 [[q8 0]]),(3,.dat 4 [[.nilsl,.nilsl,q8 0,q8 0]]),(4,.cel 1 [[.d (.sl 1 (g.map (eI .i64)))]]),(5,.dat 1 [[.sl 1 ([b].map Qq)]])],6⟩) J J Tryz.func98 J qh qh J ?_ ?_
 ·refine qc<|Qs _ _ J<|qa J<|qt<|K4 J J<|q9<|qf<|qc<|G _ J<|q5v 1 J J J J J<|O J<|q9<|Q3<|Ys<|qc<|G _ J<|q9<|qf<|Zg J<|ql<|qf ?_
  obtain ⟨ap,v,f⟩:=q7 f
  refine Qk (fun l=>l = ap) (fun l=>⟨[(1,.ref 4 1 0 0),(3,.ref 5 1 0 0),(8,.d (.sl 1 ([b].map Qq))),(9,q6 1),(10,q6 0)],[(0,.dat 1 [[.nilf]]),(1,.dat 1 [[.nilsl]]),(2,.dat 1 [[q8 0]]),(3,.dat 4 [[.nilsl,.nilsl,q8 0,q8 0]]),(4,.dat 1 [[.sl 1 ([b].map Qq)]]),(5,.cel 1 [[.hs 6 1 0 l.length]]),(6,.dat 1 (l.map (eI .i64)))],7⟩) qe ?_ ?_
  ·refine qc ?_
   obtain ⟨ae,aq,v⟩:=q7 v
   refine Qc aq J<|G _ J<|qa J<|qt<|O J<|Qi J<|O J<|q9 ?_
   obtain ⟨ar,au,v⟩:=q7 v
   refine Q3<|Qe (q24 ae) (fun ac=>⟨[(1,.ref 4 1 0 0),(3,.ref 5 1 0 0),(8,.d (.sl 1 ([b].map Qq))),(9,q6 1),(10,q6 0),(14,.d (.sl 6 (ae.map Qg))),(15,q6 (ae.length : Int)),(16,q6 ac.1)],[(0,.dat 1 [[.nilf]]),(1,.dat 1 [[.nilsl]]),(2,.dat 1 [[q8 0]]),(3,.dat 4 [[.nilsl,.nilsl,q8 0,q8 0]]),(4,.dat 1 [[.sl 1 ([b].map Qq)]]),(5,.cel 1 [[.hs 6 1 0 ac.2.length]]),(6,.dat 1 (ac.2.map (eI .i64)))],7⟩) (0,[]) ar au (wkA [(4,4),(5,5)] [] [6]) ?_
   intro ac bu k
   unfold q24 at k
   refine qc<|G _ J<|q9<|qf ?_
   refine qo J k (fun _ k=>?_) (fun _ k=>?_)
   ·refine ql<|qf<|Q3<|qc ?_
    obtain ⟨bv,av,k⟩:=q7 k
    refine Qc av J<|G _ J<|K4 J J<|Ql 7 _ J<|q9<|qw<|G _ J<|G _ J<|G _ J<|G _ J<|G _ J<|G _ J<|G _ J<|Qs _ _ J ?_
    obtain ⟨bw,aw,k⟩:=q7 k
    refine Ku _ aw J J J J J J J (Ks J J) J J J J<|Ql 5 _ J<|qv<|Qn<|qw<|G _ J<|O J<|qv ?_
    exact ⟨_,qm k,wkA [(4,4),(5,5),(6,9)] [] []⟩
   refine Q8 ?_
   refine ⟨_,qm k,fun hm=>?_⟩
   subst hm
   obtain rfl:=qd v
   exact ⟨_,J,wkA [(4,4),(5,5),(6,6)] [] []⟩
  intro l hb
  subst hb
  refine qw<|G _ J<|O J<|q9<|Ys<|qc<|G _ J<|q9<|qf<|Zf J<|Q8<|Jw<|qc<|G _ J ?_
  obtain ⟨af,ax,f⟩:=q7 f
  obtain ⟨bz,ay,f⟩:=q7 f
  have az:=Kn ay
  refine K9 [(0,6)] [(0,1),(1,1),(2,1),(3,1),(4,1),(5,1),(6,0)] _ (.d (.tup [])) 1 [(6,.dat 1 (af.map (eI .i64))),(0,.dat 1 [[.nilf]]),(1,.dat 1 [[.nilsl]]),(2,.dat 1 [[q8 0]]),(3,.dat 4 [[.nilsl,.nilsl,q8 0,q8 0]]),(4,.dat 1 [[.sl 1 ([b].map Qq)]]),(5,.cel 1 [[.hs 6 1 0 l.length]])] 7 (qdc l af ax)<|qt<|G _ J ?_
  obtain ⟨w,ba,f⟩:=q7 f
  obtain ⟨ca,bb,f⟩:=q7 f
  have cb:=Kn bb
  obtain ⟨cc,bc,f⟩:=q7 f
  have bd:=qdu bc
  refine U1 [(0,6)] [(0,1),(1,1),(2,1),(3,1),(4,1),(5,1),(6,0)] [.hs 6 1 0 l.length] (.hs 6 1 w.1.1 w.1.2) [(6,.dat 1 (w.2.map (eI .i64)))] [(6,.dat 1 (w.2.map (eI .i64))),(0,.dat 1 [[.nilf]]),(1,.dat 1 [[.nilsl]]),(2,.dat 1 [[q8 0]]),(3,.dat 4 [[.nilsl,.nilsl,q8 0,q8 0]]),(4,.dat 1 [[.sl 1 ([b].map Qq)]]),(5,.cel 1 [[.hs 6 1 0 l.length]])] 7 (qd3 af w ba) J J J (Ym [(0,6)] [] [] J ⟨⟨_,J,K6 (by simp [az]) J qx (ltd J)⟩,trivial⟩ ⟨Qt J J,trivial⟩) (Ym [(0,1),(1,1),(2,1),(3,1),(4,1),(5,1),(6,0)] [] [] J ⟨⟨_,J,.hs J qx (ltd J)⟩,trivial⟩ ⟨Qt J J,trivial⟩) J ⟨.inl J,.inr ⟨J,J⟩,.inr ⟨J,J⟩,.inr ⟨J,J⟩,.inr ⟨J,J⟩,.inr ⟨J,J⟩,.inr ⟨J,J⟩,trivial⟩<|Ql 5 _ J<|qt<|G _ J<|qa J<|qs ?_
  refine ⟨.inr J,_,J,?_⟩
  obtain rfl:=qd f
  exact ⟨_,J,wkE [(0,0),(1,1),(2,2),(3,3),(4,5),(5,4)] [6] [] J ⟨⟨_,J,.ref J qx (ltd J)⟩,⟨_,J,.ref J qx (ltd J)⟩,⟨_,J,.ref J qx (ltd J)⟩,⟨_,J,.ref J qx (ltd J)⟩,⟨_,J,(q2c (.cons (.ref J qx (ltd J)) (.cons (.ref J qx (ltd J)) .nil)))⟩,trivial⟩ ⟨Qt J J,Qt J J,Qt J J,Qt J J,⟨ltd J,.inr ⟨qx,_,J,Jm (.cons (qdw bd J qx) J .nil)⟩⟩,Qt J J,trivial⟩⟩
 intro g hb
 subst hb
 refine q9<|Q3 ?_
 obtain ⟨be,ad,h⟩:=q7 h
 refine q6p (fun n=>.inl n = be) (fun n=>⟨[(4,.ref 0 1 0 0),(5,.ref 1 1 0 0),(6,.ref 2 4 0 0)],[(0,.dat 1 [[.nilsl]]),(1,.dat 1 [[q8 0]]),(2,.cel 4 [[.hs 3 6 0 n.2.2.2.length,.d (.sl 4 (n.1.map Q2)),q6 n.2.1,q6 n.2.2.1]]),(3,.dat 6 (n.2.2.2.map Qg))],4⟩) ?_ ?_
 ·refine Yb (st':=⟨[(2,.ref 0 1 0 0),(4,.ref 1 1 0 0),(5,.ref 2 1 0 0),(6,.ref 3 4 0 0),(14,.fn 122 [.ref 4 1 0 0,.ref 5 1 0 0])],[(0,.dat 1 [[.nilf]]),(1,.dat 1 [[.nilsl]]),(2,.dat 1 [[q8 0]]),(3,.dat 4 [[.nilsl,.nilsl,q8 0,q8 0]]),(4,.cel 1 [[.d (.sl 1 (g.map (eI .i64)))]]),(5,.dat 1 [[.sl 1 ([b].map Qq)]])],6⟩) (wkA [(0,0),(1,1),(2,2),(3,3),(4,4),(5,5)] [] []) ?_ qe
  refine q6q _ (.inl J) Tryz.func122 J qh qh J ?_
  intro A879 B880 hA879 hB880
  refine qc<|qa J<|q9 ?_
  obtain ⟨bf,bg,ad⟩:=q7 ad
  refine Q3<|Qe (q4u g b) (fun a=>⟨[(0,.yld 6),(1,.ref 4 1 0 0),(2,.ref 5 1 0 0),(4,q6 a.1)],[(0,.dat 1 [[.nilf]]),(1,.dat 1 [[.nilsl]]),(2,.dat 1 [[q8 0]]),(3,.cel 4 [[.hs 7 6 0 a.2.2.2.2.length,.d (.sl 4 (a.2.1.map Q2)),q6 a.2.2.1,q6 a.2.2.2.1]]),(4,.cel 1 [[.d (.sl 1 (g.map (eI .i64)))]]),(5,.dat 1 [[.sl 1 ([b].map Qq)]]),(6,.loop [(2,.ref 0 1 0 0),(4,.ref 1 1 0 0),(5,.ref 2 1 0 0),(6,.ref 3 4 0 0),(14,.fn 122 [.ref 4 1 0 0,.ref 5 1 0 0])] [15] A879 B880 .ready none),(7,.dat 6 (a.2.2.2.2.map Qg))],8⟩) (1,[],0,0,[]) bf bg (wkA [] [] [7]) ?_
  intro a cd c
  unfold q4u at c
  refine qf<|qc<|O J<|G _ J<|Qi J<|G _ J<|q9 ?_
  refine qo J c (fun _ c=>?_) (fun _ c=>?_)
  ·refine ql<|qf<|Q3<|qf<|Qj [Qv 9,(some [],[9]),U,(some [],[8]),U,qu 5,U,U,U,qu 4,U,U,U,U,qu 4] qh<|G _ J<|O J<|G _ J ?_
   obtain ⟨o,bh,c⟩:=q7 c
   refine Qc bh J<|G _ J<|G _ J<|O J ?_
   obtain ⟨t,bi,c⟩:=q7 c
   refine Qc bi J<|G _ J<|G _ J<|q5v 1 J J J J J<|Qs _ _ J<|G _ J<|K4 J J<|Ql 9 _ J<|q9<|qf<|qc<|G _ J<|q5v 1 J J J J J<|O J<|q9<|Q3<|Ys<|qc<|G _ J<|q9<|qf<|Zg J<|ql<|qf ?_
   obtain ⟨bj,x,c⟩:=q7 c
   refine Qk (fun p=>p = bj) (fun p=>⟨[(0,.yld 6),(1,.ref 4 1 0 0),(2,.ref 5 1 0 0),(4,q6 a.1),(5,.ref 7 3 0 0),(29,.d (.sl 1 ([b].map Qq))),(30,q6 1),(31,q6 0)],[(0,.dat 1 [[.nilf]]),(1,.dat 1 [[.nilsl]]),(2,.dat 1 [[q8 0]]),(3,.cel 4 [[.hs 8 6 0 a.2.2.2.2.length,.d (.sl 4 (a.2.1.map Q2)),q6 a.2.2.1,q6 a.2.2.2.1]]),(4,.cel 1 [[.d (.sl 1 (g.map (eI .i64)))]]),(5,.dat 1 [[.sl 1 ([b].map Qq)]]),(6,.loop [(2,.ref 0 1 0 0),(4,.ref 1 1 0 0),(5,.ref 2 1 0 0),(6,.ref 3 4 0 0),(14,.fn 122 [.ref 4 1 0 0,.ref 5 1 0 0])] [15] A879 B880 .ready none),(7,.cel 3 [[q6 o,q6 t,.hs 9 1 0 1]]),(8,.dat 6 (a.2.2.2.2.map Qg)),(9,.cel 1 [[.hs 10 4 0 p.length]]),(10,.dat 4 (p.map Q2))],11⟩) qe ?_ ?_
   ·refine qc<|O J ?_
    obtain ⟨y,bk,x⟩:=q7 x
    refine Qc bk J<|G _ J<|qa J<|qa J<|qt<|O J<|Qi J<|O J<|q9 ?_
    obtain ⟨bl,bm,x⟩:=q7 x
    refine Q3<|Qe (q25 y o) (fun z=>⟨[(0,.yld 6),(1,.ref 4 1 0 0),(2,.ref 5 1 0 0),(4,q6 a.1),(5,.ref 7 3 0 0),(6,q6 0),(29,.d (.sl 1 ([b].map Qq))),(30,q6 1),(31,q6 0),(36,.d (.sl 6 (y.map Qg))),(37,q6 (y.length : Int)),(38,q6 z.1)],[(0,.dat 1 [[.nilf]]),(1,.dat 1 [[.nilsl]]),(2,.dat 1 [[q8 0]]),(3,.cel 4 [[.hs 8 6 0 a.2.2.2.2.length,.d (.sl 4 (a.2.1.map Q2)),q6 a.2.2.1,q6 a.2.2.2.1]]),(4,.cel 1 [[.d (.sl 1 (g.map (eI .i64)))]]),(5,.dat 1 [[.sl 1 ([b].map Qq)]]),(6,.loop [(2,.ref 0 1 0 0),(4,.ref 1 1 0 0),(5,.ref 2 1 0 0),(6,.ref 3 4 0 0),(14,.fn 122 [.ref 4 1 0 0,.ref 5 1 0 0])] [15] A879 B880 .ready none),(7,.cel 3 [[q6 o,q6 t,.hs 9 1 0 1]]),(8,.dat 6 (a.2.2.2.2.map Qg)),(9,.cel 1 [[.hs 10 4 0 z.2.length]]),(10,.dat 4 (z.2.map Q2))],11⟩) (0,[]) bl bm (wkA [(7,9),(8,7),(9,8)] [] [10]) ?_
    intro z ce q
    unfold q25 at q
    refine qc<|G _ J<|q9<|qf ?_
    refine qo J q (fun _ q=>?_) (fun _ q=>?_)
    ·refine ql<|qf ?_
     obtain ⟨bn,j,q⟩:=q7 q
     refine Qk (fun aa=>aa = bn) (fun aa=>⟨[(0,.yld 6),(1,.ref 4 1 0 0),(2,.ref 5 1 0 0),(4,q6 a.1),(5,.ref 7 3 0 0),(6,q6 0),(29,.d (.sl 1 ([b].map Qq))),(30,q6 1),(31,q6 0),(36,.d (.sl 6 (y.map Qg))),(37,q6 (y.length : Int)),(38,q6 z.1)],[(0,.dat 1 [[.nilf]]),(1,.dat 1 [[.nilsl]]),(2,.dat 1 [[q8 0]]),(3,.cel 4 [[.hs 8 6 0 a.2.2.2.2.length,.d (.sl 4 (a.2.1.map Q2)),q6 a.2.2.1,q6 a.2.2.2.1]]),(4,.cel 1 [[.d (.sl 1 (g.map (eI .i64)))]]),(5,.dat 1 [[.sl 1 ([b].map Qq)]]),(6,.loop [(2,.ref 0 1 0 0),(4,.ref 1 1 0 0),(5,.ref 2 1 0 0),(6,.ref 3 4 0 0),(14,.fn 122 [.ref 4 1 0 0,.ref 5 1 0 0])] [15] A879 B880 .ready none),(7,.cel 3 [[q6 o,q6 t,.hs 9 1 0 1]]),(8,.dat 6 (a.2.2.2.2.map Qg)),(9,.cel 1 [[.hs 10 4 0 aa.length]]),(10,.dat 4 (aa.map Q2))],11⟩) qe ?_ ?_
     ·refine qc ?_
      obtain ⟨cf,bo,j⟩:=q7 j
      refine Qc bo J<|G _ J<|K4 J J<|Ql 11 _ J<|qt<|G _ J<|G _ J<|G _ J<|G _ J<|G _ J<|G _ J ?_
      obtain ⟨bp,ab,j⟩:=q7 j
      refine Qb 8 (fun A st=>∃ ag ah ai aj ak al am,st = A [(55,Q0 bp),(54,am),(53,al),(52,ak),(51,aj),(50,ai),(49,ah),(48,ag)]) ?_ ?_
      ·refine Q9 J J ab (fun ab=>?_) (fun ab=>?_)
       ·refine G _ J<|G _ J<|G _ J<|G _ J<|G _ J<|G _ J<|G _ J<|q9 ?_
        obtain rfl:=qd ab
        exact ⟨_,_,_,_,_,_,_,J⟩
       refine qb J<|qb J<|qb J<|qb J<|qb J<|qb J<|G _ J<|q9 ?_
       obtain rfl:=qd ab
       exact ⟨_,_,_,_,_,_,_,J⟩
      rintro _ ⟨ag,ah,ai,aj,ak,al,am,rfl⟩
      refine q9 ?_
      refine qo J j (fun _ j=>?_) (fun _ j=>?_)
      ·refine Qj [Qv 9,U,(some [10,12],[10,13]),(some [],[12]),U,qu 11,U,U,qu 11,U,U,qu 11,U,U,qu 11,U,U,qu 9,U,U,qu 7,U,U,qu 7,U] qh<|G _ J<|G _ J<|O J<|G _ J<|G _ J<|O J<|G _ J<|G _ J<|G _ J<|G _ J<|G _ J<|G _ J<|G _ J<|G _ J<|G _ J<|G _ J<|G _ J<|G _ J<|G _ J<|G _ J<|G _ J<|Qs _ _ J ?_
       obtain ⟨cg,bq,j⟩:=q7 j
       refine Ku _ bq J J J J J J J (Ks J J) J J J J<|G _ J<|Ql 9 _ J<|qv ?_
       obtain rfl:=qd j
       exact ⟨_,J,wkA [(7,7),(8,8),(9,9),(10,13)] [] []⟩
      refine ql<|Qf ?_
      obtain rfl:=qd j
      exact ⟨_,J,wkA [(7,7),(8,8),(9,9),(10,10)] [] []⟩
     intro aa hb
     subst hb
     refine qw<|G _ J<|O J<|qv ?_
     exact ⟨_,qm q,wkA [(7,7),(8,8),(9,9),(10,10)] [] []⟩
    refine Q8 ?_
    refine ⟨_,qm q,fun hm=>?_⟩
    subst hm
    obtain rfl:=qd x
    exact ⟨_,J,wkA [(7,7),(8,8),(9,9),(10,10)] [] []⟩
   intro p hb
   subst hb
   refine qw<|G _ J<|O J<|q9<|Ys<|qc<|G _ J<|q9<|qf<|Zf J<|Q8<|Jw<|qf ?_
   refine Yb (st':=⟨[(0,.yld 6),(1,.ref 4 1 0 0),(2,.ref 5 1 0 0),(4,q6 a.1),(5,.ref 7 3 0 0)],[(0,.dat 1 [[.nilf]]),(1,.dat 1 [[.nilsl]]),(2,.dat 1 [[q8 0]]),(3,.cel 4 [[.hs 8 6 0 a.2.2.2.2.length,.d (.sl 4 (a.2.1.map Q2)),q6 a.2.2.1,q6 a.2.2.2.1]]),(4,.cel 1 [[.d (.sl 1 (g.map (eI .i64)))]]),(5,.dat 1 [[.sl 1 ([b].map Qq)]]),(6,.loop [(2,.ref 0 1 0 0),(4,.ref 1 1 0 0),(5,.ref 2 1 0 0),(6,.ref 3 4 0 0),(14,.fn 122 [.ref 4 1 0 0,.ref 5 1 0 0])] [15] A879 B880 .ready none),(7,.cel 3 [[q6 o,q6 t,.hs 9 1 0 1]]),(8,.dat 6 (a.2.2.2.2.map Qg)),(9,.cel 1 [[.d (.sl 4 (p.map Q2))]])],10⟩) (wkA [(7,7),(8,8),(9,9)] [10] []) ?_ qe
   refine qw<|O J<|G _ J ?_
   obtain ⟨br,m,c⟩:=q7 c
   refine q5w (fun s=>.inl s = br) (fun (s : List qi × Int × Int × List qg)=>⟨[(0,.yld 6),(1,.ref 4 1 0 0),(2,.ref 5 1 0 0),(4,q6 a.1),(84,Q0 true)],[(0,.dat 1 [[.nilf]]),(1,.dat 1 [[.nilsl]]),(2,.dat 1 [[q8 0]]),(3,.cel 4 [[.hs 7 6 0 s.2.2.2.length,.d (.sl 4 (s.1.map Q2)),q6 s.2.1,q6 s.2.2.1]]),(4,.cel 1 [[.d (.sl 1 (g.map (eI .i64)))]]),(5,.dat 1 [[.sl 1 ([b].map Qq)]]),(6,.loop [(2,.ref 0 1 0 0),(4,.ref 1 1 0 0),(5,.ref 2 1 0 0),(6,.ref 3 4 0 0),(14,.fn 122 [.ref 4 1 0 0,.ref 5 1 0 0])] [15] A879 B880 .ready none),(7,.dat 6 (s.2.2.2.map Qg))],8⟩) hA879 hB880 J J J J J J ?_ ?_
   ·refine qw<|K4 J J<|Ql 10 _ J<|qv ?_
    refine ⟨J,_,J,?_⟩
    refine Q3<|qc<|G _ J<|G _ J<|G _ J<|G _ J ?_
    obtain ⟨an,bs,m⟩:=q7 m
    refine Q4 (qgi p an bs) J<|O J<|G _ J<|G _ J<|qa J<|qa J<|q9<|qf<|qc<|G _ J<|G _ J<|G _ J<|G _ J<|O J<|q9<|Q3<|Ys<|qc<|G _ J<|q9<|qf<|Zf J<|Q8<|Jw<|qf<|qc<|O J<|G _ J<|q9 ?_
    refine qo J m (fun _ m=>?_) (fun _ m=>?_)
    ·refine qc<|O J<|Ql 1 _ J<|Ql 2 _ J<|qs ?_
     obtain rfl:=qd m
     refine ⟨_,J,?_⟩
     refine G _ J<|q9<|Zg J<|q15 ?_
     refine ⟨_,qm c,fun hm=>?_⟩
     subst hm
     refine ⟨.inr J,_,J,_,_,.ret,J,qx,?_⟩
     refine qbl ?_
     obtain rfl:=qd ad
     obtain rfl:=qd h
     exact finD (.inr J) J J (Ye (.cons (.nil _) (.cons (.refl _) .nil)))
    refine ql<|qw<|G _ J<|G _ J<|G _ J<|G _ J<|O J ?_
    obtain ⟨u,bt,m⟩:=q7 m
    refine K9 [(0,3),(1,8)] [(0,3),(1,3),(2,3),(3,0),(4,3),(5,3),(6,3),(7,3),(8,1),(9,3),(10,3),(11,2)] _ (.d (.tup [])) 2 [(3,.cel 4 [[.hs 11 6 0 u.2.2.2.length,.d (.sl 4 (u.1.map Q2)),q6 u.2.1,q6 u.2.2.1]]),(11,.dat 6 (u.2.2.2.map Qg)),(0,.dat 1 [[.nilf]]),(1,.dat 1 [[.nilsl]]),(2,.dat 1 [[q8 0]]),(4,.cel 1 [[.d (.sl 1 (g.map (eI .i64)))]]),(5,.dat 1 [[.sl 1 ([b].map Qq)]]),(6,.loop [(2,.ref 0 1 0 0),(4,.ref 1 1 0 0),(5,.ref 2 1 0 0),(6,.ref 3 4 0 0),(14,.fn 122 [.ref 4 1 0 0,.ref 5 1 0 0])] [15] A879 B880 .busy none),(7,.cel 3 [[q6 o,q6 t,.hs 9 1 0 1]]),(9,.cel 1 [[.d (.sl 4 (p.map Q2))]]),(10,.cel 3 [[q6 o,q6 t,.hs 9 1 0 1]])] 12 (qnp a.2.2.2.2 a.2.1 a.2.2.1 a.2.2.2.1 o t an.1 u bt)<|qv<|Qn<|Qf ?_
    refine ⟨_,J,?_⟩
    obtain rfl:=qd m
    exact ⟨_,J,wkA [(7,11)] [] []⟩
   intro s hb
   subst hb
   refine G _ J<|q9<|Zf J<|ql<|Qf<|Qn<|qw<|O J<|G _ J<|qa J<|qv ?_
   exact ⟨_,qm c,wkA [(7,7)] [] []⟩
  refine Q8 ?_
  refine ⟨_,qm c,fun hm=>?_⟩
  subst hm
  refine ⟨.inl J,_,J,_,_,.nor,J,qx,?_⟩
  refine q56<|Qf ?_
  obtain rfl:=qd ad
  exact ⟨_,J,wkA [(0,1),(1,2),(2,3),(3,7)] [] []⟩
 intro n st hb hw
 subst hb
 refine Yb hw ?_ qe
 refine qf<|qc<|G _ J<|G _ J<|G _ J<|G _ J<|q9 ?_
 refine qo J h (fun _ h=>?_) (fun _ h=>?_)
 ·refine qc<|Ql 0 _ J<|Ql 1 _ J<|qs ?_
  obtain rfl:=qd h
  exact finD (.inr J) J J (Ye (.cons (.nil _) (.cons (.refl _) .nil)))
 refine ql<|qc<|G _ J<|G _ J<|Ql 0 _ J<|Ql 1 _ J<|qs ?_
 obtain rfl:=qd h
 exact finD (.inr J) J (q53 (Yp (Zi J J) (Yp J J))) (.refl _)
theorem qyp (c : List qg) (f : List qg) (r : Bool) (b : qd5 c f = some r) : Pure Tryz.prog tab 73 [.sl 6 (c.map Qg),.sl 6 (f.map Qg)] (.bool r):=by
 unfold qd5 at b
 refine Qo Tryz.func73 J qh qh J<|qc<|qa J<|q9<|qf<|qc<|O J<|Qi J<|O J<|Qi J<|G _ J<|q9 ?_
 refine qo J b (fun _ b=>?_) (fun _ b=>?_)
 ·refine qc<|qa J<|qs ?_
  obtain rfl:=qd b
  exact Q5 _ J
 refine ql<|qf<|qc<|O J<|Qi J<|O J<|q9 ?_
 obtain ⟨h,k,b⟩:=q7 b
 refine Qk (fun g=>.inl g = h) (fun g=>⟨[],[],0⟩) qe ?_ ?_
 ·refine Qe (qgv c f) (fun j=>⟨[(0,.d (.sl 6 (c.map Qg))),(1,.d (.sl 6 (f.map Qg))),(12,q6 (c.length : Int)),(13,q6 j)],[],0⟩) 0 h k (wkA [] [] []) ?_
  intro j n a
  unfold qgv at a
  refine qc<|G _ J<|q9<|qf ?_
  refine qo J a (fun _ a=>?_) (fun _ a=>?_)
  ·refine ql<|qf<|Q3<|qc<|O J<|qa J<|q9<|qf<|Qj [U,U,U,U,U,U,U,U,U] qh<|O J<|O J ?_
   obtain ⟨o,l,a⟩:=q7 a
   refine Qc l J<|G _ J<|O J<|O J ?_
   obtain ⟨p,m,a⟩:=q7 a
   refine Qc m J<|G _ J<|G _ J<|q9 ?_
   refine qo J a (fun _ a=>?_) (fun _ a=>?_)
   ·refine qc<|qa J<|qs ?_
    refine ⟨_,qm a,fun hm=>?_⟩
    subst hm
    obtain rfl:=qd b
    exact Q5 _ J
   refine ql<|Qf<|Qn<|qw<|G _ J<|O J<|qv ?_
   exact ⟨_,qm a,wkA [] [] []⟩
  refine Q8 ?_
  refine ⟨_,qm a,fun hm=>?_⟩
  subst hm
  exact ⟨_,J,wkA [] [] []⟩
 intro g hb
 subst hb
 refine qc<|qa J<|qs ?_
 obtain rfl:=qd b
 exact Q5 _ J
theorem qao (c : List qg) (r : Int) (a : q23 c = some r) : Pure Tryz.prog tab 44 [.sl 6 (c.map Qg)] (q8 r):=by
 unfold q23 at a
 refine Qo Tryz.func44 J qh qh J<|qc<|qa J<|q9<|qf<|qc<|O J<|Qi J<|G _ J<|q9 ?_
 refine qo J a (fun _ a=>?_) (fun _ a=>?_)
 ·refine qc<|qa J<|qs ?_
  obtain rfl:=qd a
  exact Q5 _ J
 refine ql<|qf<|qc<|O J ?_
 obtain ⟨m,n,a⟩:=q7 a
 refine Q4 (qgu c (fun d=>q3d d) 70 [] (fun d r hr=>q11l d r hr) m n) J<|q9 ?_
 refine qo J a (fun _ a=>?_) (fun _ a=>?_)
 ·refine qc<|qa J<|qs ?_
  obtain rfl:=qd a
  exact Q5 _ J
 refine ql<|qf<|qc<|G _ J<|O J<|q40 (es:=1) ([c].map Qq) J J J J J ?_
 obtain ⟨f,o,a⟩:=q7 a
 refine Q4 (qnt c f o) J<|O J<|G _ J<|G _ J<|qa J<|qa J<|qt<|O J<|G _ J ?_
 obtain ⟨p,b,a⟩:=q7 a
 refine Qb 6 (fun A st=>∃ g h j k l,st = A [(24,Q0 p),(23,l),(22,k),(21,j),(20,h),(19,g)]) ?_ ?_
 ·refine Q9 J J b (fun b=>?_) (fun b=>?_)
  ·refine qb J<|qb J<|qb J<|qb J<|G _ J<|q9 ?_
   obtain rfl:=qd b
   exact ⟨_,_,_,_,_,J⟩
  refine O J<|O J ?_
  obtain ⟨q,s,b⟩:=q7 b
  refine Q4 (qyp f.1 c q s) J<|G _ J<|G _ J<|q9 ?_
  obtain rfl:=qd b
  exact ⟨_,_,_,_,_,J⟩
 rintro _ ⟨g,h,j,k,l,rfl⟩
 refine q9 ?_
 refine qo J a (fun _ a=>?_) (fun _ a=>?_)
 ·refine qc<|qa J<|qs ?_
  obtain rfl:=qd a
  exact Q5 _ J
 refine ql<|qc<|qa J<|qs ?_
 obtain rfl:=qd a
 exact Q5 _ J
theorem q12p (a : Qy) (r : Bool) (b : qb6 a = some r) : Pure Tryz.prog tab 66 [.agg [q8 a.From.X,q8 a.From.Y,q8 a.From.Z,q8 a.To.X,q8 a.To.Y,q8 a.To.Z,q8 a.Depth]] (.bool r):=by
 unfold qb6 at b
 refine Qo Tryz.func66 J qh qh J<|qc<|Qs _ _ J<|qa J<|qt<|G _ J<|G _ J<|G _ J<|qa J<|qs ?_
 obtain rfl:=qd b
 exact Q5 _ J
theorem q12q (b : Qp) (f : List (List qg)) (r : Int) (a : qb5 b f = some r) : Pure Tryz.prog tab 39 [.agg [.sl 7 (b.Lines.map Kb),.sl 5 (b.Marks.map Km),.int .u8 b.End.Frame.Turn,q8 b.End.Frame.At.X,q8 b.End.Frame.At.Y,q8 b.End.Frame.At.Z,q8 b.End.Drawn],.sl 1 (f.map Qq)] (q8 r):=by
 unfold qb5 at a
 refine Qo Tryz.func39 J qh qh J<|qc<|Qs _ _ J<|qa J<|q9<|qf<|qc<|G _ J ?_
 obtain ⟨q,s,a⟩:=q7 a
 refine Q4 (qom b q s) J<|O J<|G _ J<|G _ J<|qa J<|qa J<|qt<|O J<|G _ J<|q9 ?_
 refine qo J a (fun _ a=>?_) (fun _ a=>?_)
 ·refine qc<|O J<|qa J<|qs ?_
  obtain rfl:=qd a
  exact Q5 _ J
 refine ql<|qf<|qc<|O J<|Qi J<|G _ J<|q9 ?_
 refine qo J a (fun _ a=>?_) (fun _ a=>?_)
 ·refine qc<|qa J<|qs ?_
  obtain rfl:=qd a
  exact Q5 _ J
 refine ql<|qf<|qc<|O J<|Qi J<|O J<|q9 ?_
 obtain ⟨k,t,a⟩:=q7 a
 refine Qk (fun h=>.inl h = k) (fun h=>⟨[(1,.d (.sl 1 (f.map Qq))),(2,.ref 0 7 0 0)],[(0,.dat 7 [[.sl 7 (b.Lines.map Kb),.sl 5 (b.Marks.map Km),.int .u8 b.End.Frame.Turn,q8 b.End.Frame.At.X,q8 b.End.Frame.At.Y,q8 b.End.Frame.At.Z,q8 b.End.Drawn]])],1⟩) qe ?_ ?_
 ·refine Qe (q87 f) (fun l=>⟨[(1,.d (.sl 1 (f.map Qq))),(2,.ref 0 7 0 0),(21,.d (.sl 1 (f.map Qq))),(22,q6 (f.length : Int)),(23,q6 l)],[(0,.dat 7 [[.sl 7 (b.Lines.map Kb),.sl 5 (b.Marks.map Km),.int .u8 b.End.Frame.Turn,q8 b.End.Frame.At.X,q8 b.End.Frame.At.Y,q8 b.End.Frame.At.Z,q8 b.End.Drawn]])],1⟩) 0 k t (wkA [(0,0)] [] []) ?_
  intro l ab c
  unfold q87 at c
  refine qc<|G _ J<|q9<|qf ?_
  refine qo J c (fun _ c=>?_) (fun _ c=>?_)
  ·refine ql<|qf<|Q3<|qc ?_
   obtain ⟨u,v,c⟩:=q7 c
   refine Qc v J<|G _ J<|qa J<|qt<|O J ?_
   obtain ⟨w,x,c⟩:=q7 c
   refine Q4 (qao u w x) J<|qa J<|qt<|O J<|G _ J<|q9 ?_
   refine qo J c (fun _ c=>?_) (fun _ c=>?_)
   ·refine qc<|O J<|qa J<|qs ?_
    refine ⟨_,qm c,fun hm=>?_⟩
    subst hm
    obtain rfl:=qd a
    exact Q5 _ J
   refine ql<|Qf<|Qn<|qw<|G _ J<|O J<|qv ?_
   exact ⟨_,qm c,wkA [(0,0)] [] []⟩
  refine Q8 ?_
  refine ⟨_,qm c,fun hm=>?_⟩
  subst hm
  exact ⟨_,J,wkA [(0,0)] [] []⟩
 intro h hb
 subst hb
 refine qf<|qc<|G _ J<|G _ J<|Qi J<|G _ J ?_
 obtain ⟨y,g,a⟩:=q7 a
 refine Qb 5 (fun A st=>∃ m n o p,st = A [(41,Q0 y),(40,p),(39,o),(38,n),(37,m)]) ?_ ?_
 ·refine Q9 J J g (fun g=>?_) (fun g=>?_)
  ·refine O J<|Qi J<|G _ J<|G _ J<|q9 ?_
   obtain rfl:=qd g
   exact ⟨_,_,_,_,J⟩
  refine qb J<|qb J<|qb J<|G _ J<|q9 ?_
  obtain rfl:=qd g
  exact ⟨_,_,_,_,J⟩
 rintro _ ⟨m,n,o,p,rfl⟩
 refine q9 ?_
 refine qo J a (fun _ a=>?_) (fun _ a=>?_)
 ·refine qc<|qa J<|qs ?_
  obtain rfl:=qd a
  exact Q5 _ J
 refine ql<|qf<|qc<|G _ J<|G _ J ?_
 obtain ⟨z,aa,a⟩:=q7 a
 refine Q4 (qnb b.Lines (fun j=>qb6 j) 66 [] (fun j r hr=>q12p j r hr) z aa) J<|q9 ?_
 refine qo J a (fun _ a=>?_) (fun _ a=>?_)
 ·refine qc<|qa J<|qs ?_
  obtain rfl:=qd a
  exact Q5 _ J
 refine ql<|qc<|qa J<|qs ?_
 obtain rfl:=qd a
 exact Q5 _ J
end Go.Proofs.YtbknppciefodiaaGreat
