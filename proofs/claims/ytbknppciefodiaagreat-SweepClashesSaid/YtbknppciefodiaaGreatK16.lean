/- W_Allb -/
import Derived.Test.YtbknppciefodiaaGreatK15
namespace Go.Proofs.YtbknppciefodiaaGreat
open Go Go.Am Go.Sh
set_option maxHeartbeats 8000000
set_option maxRecDepth 100000
theorem qyg (h : List ql) (g : Int) (k : Int) (j : ql→ql→Option Int) (p3F : FuncId) (p3C : List DV) (p3Ok : ∀ (m : ql) (n : ql) (r : Int),j m n = some r→Pure Tryz.prog tab p3F ([.agg [q9 m.at_,q9 m.list_,q9 m.by_],.agg [q9 n.at_,q9 n.list_,q9 n.by_]] ++ p3C) (q9 r)) (r : Int × Int) (a : q9m h g k j = some r) : Pure Tryz.prog tab 178 [.sl 3 (h.map Qh),q9 g,q9 k,.fn p3F p3C] (.tup [q9 r.1,q9 r.2]):=by
 unfold q9m at a
 refine Qf Tryz.func178 J qh qh J<|qc<|qb J<|qb J<|qp<|O J<|O J<|G _ J<|qb J<|qp<|Qv J J<|qp<|O J<|O J<|G _ J<|G _ J<|G _ J<|qb J<|qp<|O J<|O J<|G _ J<|G _ J<|G _ J<|qb J<|qp<|O J<|O J<|G _ J<|G _ J<|G _ J<|qb J<|qa<|qf<|qc<|O J<|G _ J<|qa ?_
 obtain ⟨t,f,a⟩:=q6 a
 refine Yk (fun l=>l = t) (fun l=>⟨[(11,.ref 0 1 0 0),(13,q7 l.1)],[(0,.dat 1 [[q9 l.2]])],1⟩) qe ?_ ?_
 ·refine qm J f (fun _ f=>?_) (fun _ f=>?_)
  ·refine qf<|qc<|O J<|G _ J<|qa ?_
   obtain ⟨u,b,f⟩:=q6 f
   refine Yk (fun c=>c = u) (fun c=>⟨[(0,.d (.sl 3 (h.map Qh))),(3,.d (.fn p3F p3C)),(11,.ref 0 1 0 0),(12,q7 c.1),(13,q7 c.2.1),(14,q7 c.2.2.1)],[(0,.dat 1 [[q9 c.2.2.2]])],1⟩) qe ?_ ?_
   ·refine qm J b (fun _ b=>?_) (fun _ b=>?_)
    ·refine qc<|O J<|O J<|O J ?_
     obtain ⟨o,v,b⟩:=q6 b
     refine K1 [(0,0)] [(0,0)] _ (q7 o.1) 1 [(0,.dat 1 [[q9 o.2]])] 1 (qge j p3F p3C p3Ok h (w64 (g + (w64 ((w64 (Int.tdiv (w64 (k - g)) 4)) * 1)))) 0 o v)<|qb J<|qp<|O J<|O J<|O J ?_
     obtain ⟨p,w,b⟩:=q6 b
     refine K1 [(0,0)] [(0,0)] _ (q7 p.1) 1 [(0,.dat 1 [[q9 p.2]])] 1 (qge j p3F p3C p3Ok h (w64 (g + (w64 ((w64 (Int.tdiv (w64 (k - g)) 4)) * 2)))) o.2 p w)<|qb J<|qa<|qt<|O J<|O J<|O J ?_
     obtain ⟨q,x,b⟩:=q6 b
     refine K1 [(0,0)] [(0,0)] _ (q7 q.1) 1 [(0,.dat 1 [[q9 q.2]])] 1 (qge j p3F p3C p3Ok h (w64 (g + (w64 ((w64 (Int.tdiv (w64 (k - g)) 4)) * 3)))) p.2 q x)<|qb J<|qr ?_
     obtain rfl:=qd b
     exact ⟨_,J,wkA [(0,0)] [] []⟩
    refine qk<|Q7 ?_
    obtain rfl:=qd b
    exact ⟨_,J,wkA [(0,0)] [] []⟩
   intro c hb
   subst hb
   refine qt<|O J<|O J<|O J<|O J<|O J ?_
   obtain ⟨s,y,f⟩:=q6 f
   refine K1 [(0,0)] [(0,0)] _ (q7 s.1) 1 [(0,.dat 1 [[q9 s.2]])] 1 (qmt j p3F p3C p3Ok h c.1 c.2.1 c.2.2.1 c.2.2.2 s y)<|qb J<|qr ?_
   obtain rfl:=qd f
   exact ⟨_,J,wkA [(0,0)] [] []⟩
  refine qk<|Q7 ?_
  obtain rfl:=qd f
  exact ⟨_,J,wkA [(0,0)] [] []⟩
 intro l hb
 subst hb
 refine qc<|G _ J<|qa<|qx<|qc<|G _ J<|qb J<|qa ?_
 refine qm J a (fun _ a=>?_) (fun _ a=>?_)
 ·refine qc<|O J<|qb J<|qb J<|qo ?_
  obtain rfl:=qd a
  exact qy _ J
 refine qc<|G _ J<|qb J<|qa ?_
 refine qm J a (fun _ a=>?_) (fun _ a=>?_)
 ·refine qc<|O J<|qb J<|qb J<|qo ?_
  obtain rfl:=qd a
  exact qy _ J
 refine qc<|O J<|qb J<|qb J<|qo ?_
 obtain rfl:=qd a
 exact qy _ J
theorem qyw (l : ql→ql→Option Int) (q1F : FuncId) (q1C : List DV) (_q1Ok : ∀ (c : ql) (f : ql) (r : Int),l c f = some r→Pure Tryz.prog tab q1F ([.agg [q9 c.at_,q9 c.list_,q9 c.by_],.agg [q9 f.at_,q9 f.list_,q9 f.by_]] ++ q1C) (q9 r)) (g : List ql) (j : Int) (k : Int) (r : List ql) (h : qa7 l g j k = some r) : K0 Tryz.prog tab 179 [.hs 0 3 0 g.length,q7 j,q7 k,.d (.fn q1F q1C)] [(0,.dat 3 (g.map Qh))] 1 (.d (.tup [])) [(0,.dat 3 (r.map Qh))] 1:=by
 unfold qa7 at h
 refine Kh Tryz.func179 J qh qh J<|qc<|O J<|qb J<|qp<|O J<|G _ J<|qb J<|qa ?_
 obtain ⟨q,s,h⟩:=q6 h
 refine qx<|Q5 (qa8) (fun b=>⟨[(0,.hs 0 3 0 b.2.2.length),(8,q7 b.1),(9,q7 b.2.1)],[(0,.dat 3 (b.2.2.map Qh))],1⟩) (j,w64 (k - 1),g) q s (wkA [] [] []) ?_
 intro b v a
 unfold qa8 at a
 refine qf<|qc<|O J<|O J<|G _ J<|qa ?_
 refine qm J a (fun _ a=>?_) (fun _ a=>?_)
 ·refine qk<|qx<|qf<|Q9 [Qm 0,U,Qm 0,U,qq 0,U,U,U,qq 0,U,U,U,U,U,U,U] qh<|O J<|O J<|O J<|O J<|O J<|O J ?_
  obtain ⟨t,m,a⟩:=q6 a
  refine qv m J J<|Q4 _ m J<|O J<|O J ?_
  obtain ⟨u,n,a⟩:=q6 a
  refine qv n J J<|Q4 _ n J ?_
  obtain ⟨w,o,a⟩:=q6 a
  refine qv o J J<|Qw t o J J J J J J J J (leb J) J ?_
  obtain ⟨x,p,a⟩:=q6 a
  refine qv p qe J<|Qw u p J J J J J J J J (leb J) J<|qp<|O J<|G _ J<|qb J<|qa<|qt<|O J<|G _ J<|qb J<|qr<|Qg<|Q7 ?_
  exact ⟨_,(Option.some.inj a).symm,wkE [] [] [] J ⟨⟨_,J,Qy qe J qs (ltd J)⟩,qn J,qn J,trivial⟩ ⟨Qk J J,trivial⟩⟩
 refine Q3 ?_
 refine ⟨_,(Option.some.inj a).symm,fun hm=>?_⟩
 subst hm
 obtain rfl:=qd h
 exact ⟨.inl J,_,J,wkA [] [] []⟩
theorem qym (o : ql→ql→Option Int) (q1F : FuncId) (q1C : List DV) (q1Ok : ∀ (t : ql) (u : ql) (r : Int),o t u = some r→Pure Tryz.prog tab q1F ([.agg [q9 t.at_,q9 t.list_,q9 t.by_],.agg [q9 u.at_,q9 u.list_,q9 u.by_]] ++ q1C) (q9 r)) (v : List ql) (j : Int) (g : Int) (r : Bool × List ql) (p : q6r o v j g = some r) : K0 Tryz.prog tab 180 [.hs 0 3 0 v.length,q7 j,q7 g,.d (.fn q1F q1C)] [(0,.dat 3 (v.map Qh))] 1 (qu r.1) [(0,.dat 3 (r.2.map Qh))] 1:=by
 unfold q6r at p
 refine Kh Tryz.func180 J qh qh J<|qc<|qb J<|qp<|O J<|G _ J<|qb J<|qa<|qf<|qc<|qb J<|qa ?_
 obtain ⟨z,bm,p⟩:=q6 p
 refine Qc (fun w=>.inl w = z) (fun w=>⟨[],[(0,.dat 3 (w.map Qh))],1⟩) qe ?_ ?_
 ·refine Q5 (q6s g o j) (fun f=>⟨[(0,.hs 0 3 0 f.2.2.length),(1,q7 j),(2,q7 g),(3,.d (.fn q1F q1C)),(9,q7 f.1),(10,q7 f.2.1)],[(0,.dat 3 (f.2.2.map Qh))],1⟩) (w64 (j + 1),0,v) z bm (wkA [] [] []) ?_
  intro f co l
  unfold q6s at l
  refine qf<|qc<|O J<|G _ J<|qa ?_
  refine qm J l (fun _ l=>?_) (fun _ l=>?_)
  ·refine qk<|qf ?_
   obtain ⟨bn,a,l⟩:=q6 l
   refine Qc (fun q=>.inl q = bn) (fun q=>⟨[(0,.hs 0 3 0 q.2.length),(1,q7 j),(2,q7 g),(3,.d (.fn q1F q1C)),(9,q7 q.1),(10,q7 f.2.1)],[(0,.dat 3 (q.2.map Qh))],1⟩) qe ?_ ?_
   ·refine qf ?_
    obtain ⟨aa,bo,a⟩:=q6 a
    refine Qc (fun h=>h = aa) (fun h=>⟨[(0,.hs 0 3 0 f.2.2.length),(1,q7 j),(2,q7 g),(3,.d (.fn q1F q1C)),(9,q7 h),(10,q7 f.2.1)],[(0,.dat 3 (f.2.2.map Qh))],1⟩) qe ?_ ?_
    ·refine Q5 (q9t g f o) (fun ab=>⟨[(0,.hs 0 3 0 f.2.2.length),(1,q7 j),(2,q7 g),(3,.d (.fn q1F q1C)),(9,q7 ab),(10,q7 f.2.1)],[(0,.dat 3 (f.2.2.map Qh))],1⟩) f.1 aa bo (wkA [] [] []) ?_
     intro ab cp m
     unfold q9t at m
     refine qf<|qf<|Q9 [U,U,U,U,qq 0,U,U,U,U,qq 0,U,U,U,U,U,U,U,U] qh<|O J<|O J<|G _ J ?_
     obtain ⟨bp,k,m⟩:=q6 m
     refine Q2 15 (fun A st=>∃ ac ad ae af ag ah ai aj ak al am an ao ap,st = A [(36,qu bp),(35,ap),(34,ao),(33,an),(32,am),(31,al),(30,ak),(29,aj),(28,ai),(27,ah),(26,ag),(25,af),(24,ae),(23,ad),(22,ac)]) ?_ ?_
     ·refine Q0 J J k (fun k=>?_) (fun k=>?_)
      ·refine O J<|O J<|O J ?_
       obtain ⟨bq,aq,k⟩:=q6 k
       refine qv aq J J<|Q4 _ aq J<|O J<|O J<|G _ J ?_
       obtain ⟨br,ar,k⟩:=q6 k
       refine qv ar J J<|Q4 _ ar J ?_
       obtain ⟨bs,bt,k⟩:=q6 k
       refine Y7 _ (q1Ok bq br bs bt) J J J (.inl J)<|G _ J<|G _ J<|G _ J<|qa ?_
       obtain rfl:=qd k
       exact ⟨_,_,_,_,_,_,_,_,_,_,_,_,_,_,J⟩
      refine q8 J<|q8 J<|q8 J<|q8 J<|q8 J<|q8 J<|q8 J<|q8 J<|q8 J<|q8 J<|q8 J<|q8 J<|q8 J<|G _ J<|qa ?_
      obtain rfl:=qd k
      exact ⟨_,_,_,_,_,_,_,_,_,_,_,_,_,_,J⟩
     rintro _ ⟨ac,ad,ae,af,ag,ah,ai,aj,ak,al,am,an,ao,ap,rfl⟩
     refine qa ?_
     refine qm J m (fun _ m=>?_) (fun _ m=>?_)
     ·refine qk<|qx<|qt<|O J<|G _ J<|qb J<|qr<|Qg<|Q7 ?_
      exact ⟨_,(Option.some.inj m).symm,wkA [] [] []⟩
     refine Q3 ?_
     refine ⟨_,(Option.some.inj m).symm,fun hm=>?_⟩
     subst hm
     exact ⟨_,J,wkA [] [] []⟩
    intro h hb
    subst hb
    refine qf<|qc<|O J<|O J<|G _ J<|qa ?_
    refine qm J a (fun _ a=>?_) (fun _ a=>?_)
    ·refine qc<|qb J<|qo ?_
     obtain rfl:=qd a
     refine ⟨_,(Option.some.inj l).symm,fun hm=>?_⟩
     subst hm
     obtain rfl:=qd p
     exact ⟨.inr J,_,J,wkA [] [] []⟩
    refine qk<|qf<|qc<|O J<|O J<|G _ J<|G _ J<|qa ?_
    refine qm J a (fun _ a=>?_) (fun _ a=>?_)
    ·refine qc<|qb J<|qo ?_
     obtain rfl:=qd a
     refine ⟨_,(Option.some.inj l).symm,fun hm=>?_⟩
     subst hm
     obtain rfl:=qd p
     exact ⟨.inr J,_,J,wkA [] [] []⟩
    refine qk<|qf<|Q9 [Qm 0,U,Qm 0,U,qq 0,U,U,U,qq 0,U,U,U,U,U,U,U,U,U] qh<|O J<|O J<|O J<|O J<|G _ J<|O J<|O J<|G _ J ?_
    obtain ⟨au,av,a⟩:=q6 a
    refine qv av J J<|Q4 _ av J<|O J<|O J ?_
    obtain ⟨aw,ax,a⟩:=q6 a
    refine qv ax J J<|Q4 _ ax J ?_
    obtain ⟨cq,ay,a⟩:=q6 a
    refine qv ay J J<|Qw au ay J J J J J J J J (leb J) J ?_
    obtain ⟨cr,az,a⟩:=q6 a
    refine qv az qe J<|Qw aw az J J J J J J J J (leb J) J<|qa<|qf<|qc<|O J<|O J<|G _ J<|G _ J<|qa ?_
    obtain ⟨bu,n,a⟩:=q6 a
    refine Yk (fun s=>s = bu) (fun s=>⟨[(0,.hs 0 3 0 s.length),(1,q7 j),(2,q7 g),(3,.d (.fn q1F q1C)),(9,q7 h),(10,q7 f.2.1)],[(0,.dat 3 (s.map Qh))],1⟩) qe ?_ ?_
    ·refine qm J n (fun _ n=>?_) (fun _ n=>?_)
     ·refine qc<|O J<|G _ J<|qb J<|qa ?_
      obtain ⟨bv,bw,n⟩:=q6 n
      refine qx<|Q5 (q9u o) (fun x=>⟨[(0,.hs 0 3 0 x.2.length),(1,q7 j),(2,q7 g),(3,.d (.fn q1F q1C)),(9,q7 h),(10,q7 f.2.1),(11,q7 x.1)],[(0,.dat 3 (x.2.map Qh))],1⟩) (w64 (h - 1),(f.2.2.set h.toNat au).set (w64 (h - 1)).toNat aw) bv bw (wkE [] [] [] J ⟨⟨_,J,Qy qe J qs (ltd J)⟩,qn J,qn J,qn J,qn J,qn J,qn J,trivial⟩ ⟨Qk J J,trivial⟩) ?_
      intro x cs b
      unfold q9u at b
      refine qf<|qc<|O J<|G _ J<|qa ?_
      refine qm J b (fun _ b=>?_) (fun _ b=>?_)
      ·refine qk<|qf<|qx<|qf<|qf<|Q9 [U,U,U,qq 0,U,U,U,U,qq 0,U,U,U,U] qh<|O J<|O J<|O J ?_
       obtain ⟨bz,ba,b⟩:=q6 b
       refine qv ba J J<|Q4 _ ba J<|O J<|O J<|G _ J ?_
       obtain ⟨ca,bb,b⟩:=q6 b
       refine qv bb J J<|Q4 _ bb J ?_
       obtain ⟨cb,cc,b⟩:=q6 b
       refine Y7 _ (q1Ok bz ca cb cc) J J J (.inl J)<|G _ J<|G _ J<|qa ?_
       refine qm J b (fun _ b=>?_) (fun _ b=>?_)
       ·refine Q3 ?_
        refine ⟨_,(Option.some.inj b).symm,fun hm=>?_⟩
        subst hm
        obtain rfl:=qd n
        exact ⟨_,J,wkA [] [] []⟩
       refine qk<|Q9 [Qm 0,U,Qm 0,U,qq 0,U,U,U,qq 0,U,U,U,U,U,U,U,U,U] qh<|O J<|O J<|O J<|O J<|G _ J<|O J<|O J<|G _ J ?_
       obtain ⟨cd,bc,b⟩:=q6 b
       refine qv bc J J<|Q4 _ bc J<|O J<|O J ?_
       obtain ⟨ce,bd,b⟩:=q6 b
       refine qv bd J J<|Q4 _ bd J ?_
       obtain ⟨ct,be,b⟩:=q6 b
       refine qv be J J<|Qw cd be J J J J J J J J (leb J) J ?_
       obtain ⟨cu,bf,b⟩:=q6 b
       refine qv bf qe J<|Qw ce bf J J J J J J J J (leb J) J<|qr<|Qg<|qt<|O J<|G _ J<|qb J<|qr ?_
       exact ⟨_,(Option.some.inj b).symm,wkE [] [] [] J ⟨⟨_,J,Qy qe J qs (ltd J)⟩,qn J,qn J,qn J,qn J,qn J,qn J,trivial⟩ ⟨Qk J J,trivial⟩⟩
      refine Q3 ?_
      refine ⟨_,(Option.some.inj b).symm,fun hm=>?_⟩
      subst hm
      obtain rfl:=qd n
      exact ⟨_,J,wkA [] [] []⟩
     refine qk<|Q7 ?_
     obtain rfl:=qd n
     exact ⟨_,J,wkE [] [] [] J ⟨⟨_,J,Qy qe J qs (ltd J)⟩,qn J,qn J,qn J,qn J,qn J,trivial⟩ ⟨Qk J J,trivial⟩⟩
    intro s hb
    subst hb
    refine qc<|O J<|O J<|G _ J<|G _ J<|qa ?_
    refine qm J a (fun _ a=>?_) (fun _ a=>?_)
    ·refine qc<|O J<|G _ J<|qb J<|qa ?_
     obtain ⟨cf,cg,a⟩:=q6 a
     refine qx<|Q5 (q9v g o h) (fun y=>⟨[(0,.hs 0 3 0 y.2.length),(1,q7 j),(2,q7 g),(3,.d (.fn q1F q1C)),(9,q7 h),(10,q7 f.2.1),(12,q7 y.1)],[(0,.dat 3 (y.2.map Qh))],1⟩) (w64 (h + 1),s) cf cg (wkA [] [] []) ?_
     intro y cv c
     unfold q9v at c
     refine qf<|qc<|O J<|O J<|G _ J<|qa ?_
     refine qm J c (fun _ c=>?_) (fun _ c=>?_)
     ·refine qk<|qf<|qx<|qf<|qf<|Q9 [U,U,U,qq 0,U,U,U,U,qq 0,U,U,U,U] qh<|O J<|O J<|O J ?_
      obtain ⟨ch,bg,c⟩:=q6 c
      refine qv bg J J<|Q4 _ bg J<|O J<|O J<|G _ J ?_
      obtain ⟨ci,bh,c⟩:=q6 c
      refine qv bh J J<|Q4 _ bh J ?_
      obtain ⟨cj,ck,c⟩:=q6 c
      refine Y7 _ (q1Ok ch ci cj ck) J J J (.inl J)<|G _ J<|G _ J<|qa ?_
      refine qm J c (fun _ c=>?_) (fun _ c=>?_)
      ·refine Q3 ?_
       refine ⟨_,(Option.some.inj c).symm,fun hm=>?_⟩
       subst hm
       obtain rfl:=qd a
       exact ⟨_,J,wkA [] [] []⟩
      refine qk<|Q9 [Qm 0,U,Qm 0,U,qq 0,U,U,U,qq 0,U,U,U,U,U,U,U,U,U] qh<|O J<|O J<|O J<|O J<|G _ J<|O J<|O J<|G _ J ?_
      obtain ⟨cm,bi,c⟩:=q6 c
      refine qv bi J J<|Q4 _ bi J<|O J<|O J ?_
      obtain ⟨cn,bj,c⟩:=q6 c
      refine qv bj J J<|Q4 _ bj J ?_
      obtain ⟨cw,bk,c⟩:=q6 c
      refine qv bk J J<|Qw cm bk J J J J J J J J (leb J) J ?_
      obtain ⟨cx,bl,c⟩:=q6 c
      refine qv bl qe J<|Qw cn bl J J J J J J J J (leb J) J<|qr<|Qg<|qt<|O J<|G _ J<|qb J<|qr ?_
      exact ⟨_,(Option.some.inj c).symm,wkE [] [] [] J ⟨⟨_,J,Qy qe J qs (ltd J)⟩,qn J,qn J,qn J,qn J,qn J,qn J,trivial⟩ ⟨Qk J J,trivial⟩⟩
     refine Q3 ?_
     refine ⟨_,(Option.some.inj c).symm,fun hm=>?_⟩
     subst hm
     obtain rfl:=qd a
     exact ⟨_,J,wkA [] [] []⟩
    refine qk<|Q7 ?_
    obtain rfl:=qd a
    exact ⟨_,J,wkA [] [] []⟩
   intro q hb
   subst hb
   refine qt<|O J<|G _ J<|qb J<|qr ?_
   exact ⟨_,(Option.some.inj l).symm,wkA [] [] []⟩
  refine Q3 ?_
  refine ⟨_,(Option.some.inj l).symm,fun hm=>?_⟩
  subst hm
  exact ⟨_,J,wkA [] [] []⟩
 intro w hb
 subst hb
 refine qc<|qb J<|qo ?_
 obtain rfl:=qd p
 exact ⟨.inr J,_,J,wkA [] [] []⟩
theorem qyp (m : ql→ql→Option Int) (q1F : FuncId) (q1C : List DV) (q1Ok : ∀ (o : ql) (p : ql) (r : Int),m o p = some r→Pure Tryz.prog tab q1F ([.agg [q9 o.at_,q9 o.list_,q9 o.by_],.agg [q9 p.at_,q9 p.list_,q9 p.by_]] ++ q1C) (q9 r)) (q : List ql) (c : Int) (t : Int) (u : Int) (r : Int × List ql) (f : qa3 m q c t u = some r) : K0 Tryz.prog tab 181 [.hs 0 3 0 q.length,q7 c,q7 t,q7 u,.d (.fn q1F q1C)] [(0,.dat 3 (q.map Qh))] 1 (q7 r.1) [(0,.dat 3 (r.2.map Qh))] 1:=by
 unfold qa3 at f
 refine Kh Tryz.func181 J qh qh J<|qc<|qb J<|qa<|qf<|Q9 [Qm 0,U,Qm 0,U,qq 0,U,U,U,qq 0,U,U,U,U,U,U,U] qh<|O J<|O J<|O J<|O J<|O J<|O J ?_
 obtain ⟨v,w,f⟩:=q6 f
 refine qv w J J<|Q4 _ w J<|O J<|O J ?_
 obtain ⟨x,y,f⟩:=q6 f
 refine qv y J J<|Q4 _ y J ?_
 obtain ⟨cg,z,f⟩:=q6 f
 refine qv z J J<|Qw v z J J J J J J J J (leb J) J ?_
 obtain ⟨ch,aa,f⟩:=q6 f
 refine qv aa qe J<|Qw x aa J J J J J J J J (leb J) J<|qp<|O J<|G _ J<|O J<|G _ J<|qb J<|qb J<|qa<|qf ?_
 obtain ⟨ab,bp,f⟩:=q6 f
 refine Qc (fun n=>n = ab) (fun n=>⟨[(11,q7 n.1)],[(0,.dat 3 (n.2.map Qh))],1⟩) qe ?_ ?_
 ·refine Q5 (qa4 c m) (fun a=>⟨[(0,.hs 0 3 0 a.2.2.length),(1,q7 c),(4,.d (.fn q1F q1C)),(11,q7 a.1),(12,q7 a.2.1)],[(0,.dat 3 (a.2.2.map Qh))],1⟩) (w64 (c + 1),w64 (t - 1),(q.set c.toNat v).set u.toNat x) ab bp (wkE [] [] [] J ⟨⟨_,J,Qy qe J qs (ltd J)⟩,qn J,qn J,qn J,qn J,trivial⟩ ⟨Qk J J,trivial⟩) ?_
  intro a ci b
  unfold qa4 at b
  refine qx<|qf ?_
  obtain ⟨ac,bq,b⟩:=q6 b
  refine Qc (fun l=>l = ac) (fun l=>⟨[(0,.hs 0 3 0 a.2.2.length),(1,q7 c),(4,.d (.fn q1F q1C)),(11,q7 l),(12,q7 a.2.1)],[(0,.dat 3 (a.2.2.map Qh))],1⟩) qe ?_ ?_
  ·refine Q5 (qa5 a c m) (fun ad=>⟨[(0,.hs 0 3 0 a.2.2.length),(1,q7 c),(4,.d (.fn q1F q1C)),(11,q7 ad),(12,q7 a.2.1)],[(0,.dat 3 (a.2.2.map Qh))],1⟩) a.1 ac bq (wkA [] [] []) ?_
   intro ad cj j
   unfold qa5 at j
   refine qf<|qf<|Q9 [U,U,U,U,qq 0,U,U,U,qq 0,U,U,U,U,U,U,U,U] qh<|O J<|O J<|G _ J ?_
   obtain ⟨br,g,j⟩:=q6 j
   refine Q2 14 (fun A st=>∃ ae af ag ah ai aj ak al am an ao ap aq,st = A [(47,qu br),(46,aq),(45,ap),(44,ao),(43,an),(42,am),(41,al),(40,ak),(39,aj),(38,ai),(37,ah),(36,ag),(35,af),(34,ae)]) ?_ ?_
   ·refine Q0 J J g (fun g=>?_) (fun g=>?_)
    ·refine O J<|O J<|O J ?_
     obtain ⟨bs,ar,g⟩:=q6 g
     refine qv ar J J<|Q4 _ ar J<|O J<|O J ?_
     obtain ⟨bt,au,g⟩:=q6 g
     refine qv au J J<|Q4 _ au J ?_
     obtain ⟨bu,bv,g⟩:=q6 g
     refine Y7 _ (q1Ok bs bt bu bv) J J J (.inl J)<|G _ J<|G _ J<|G _ J<|qa ?_
     obtain rfl:=qd g
     exact ⟨_,_,_,_,_,_,_,_,_,_,_,_,_,J⟩
    refine q8 J<|q8 J<|q8 J<|q8 J<|q8 J<|q8 J<|q8 J<|q8 J<|q8 J<|q8 J<|q8 J<|q8 J<|G _ J<|qa ?_
    obtain rfl:=qd g
    exact ⟨_,_,_,_,_,_,_,_,_,_,_,_,_,J⟩
   rintro _ ⟨ae,af,ag,ah,ai,aj,ak,al,am,an,ao,ap,aq,rfl⟩
   refine qa ?_
   refine qm J j (fun _ j=>?_) (fun _ j=>?_)
   ·refine qk<|qx<|qt<|O J<|G _ J<|qb J<|qr<|Qg<|Q7 ?_
    exact ⟨_,(Option.some.inj j).symm,wkA [] [] []⟩
   refine Q3 ?_
   refine ⟨_,(Option.some.inj j).symm,fun hm=>?_⟩
   subst hm
   exact ⟨_,J,wkA [] [] []⟩
  intro l hb
  subst hb
  refine qf ?_
  obtain ⟨av,bw,b⟩:=q6 b
  refine Qc (fun s=>s = av) (fun s=>⟨[(0,.hs 0 3 0 a.2.2.length),(1,q7 c),(4,.d (.fn q1F q1C)),(11,q7 l),(12,q7 s)],[(0,.dat 3 (a.2.2.map Qh))],1⟩) qe ?_ ?_
  ·refine Q5 (qa6 l a c m) (fun aw=>⟨[(0,.hs 0 3 0 a.2.2.length),(1,q7 c),(4,.d (.fn q1F q1C)),(11,q7 l),(12,q7 aw)],[(0,.dat 3 (a.2.2.map Qh))],1⟩) a.2.1 av bw (wkA [] [] []) ?_
   intro aw ck k
   unfold qa6 at k
   refine qf<|qf<|Q9 [U,U,U,qq 0,U,U,U,qq 0,U,U,U,U,U,U,U,U] qh<|O J<|O J<|G _ J ?_
   obtain ⟨bz,h,k⟩:=q6 k
   refine Q2 13 (fun A st=>∃ ax ay az ba bb bc bd be bf bg bh bi,st = A [(65,qu bz),(64,bi),(63,bh),(62,bg),(61,bf),(60,be),(59,bd),(58,bc),(57,bb),(56,ba),(55,az),(54,ay),(53,ax)]) ?_ ?_
   ·refine Q0 J J h (fun h=>?_) (fun h=>?_)
    ·refine O J<|O J<|O J ?_
     obtain ⟨ca,bj,h⟩:=q6 h
     refine qv bj J J<|Q4 _ bj J<|O J<|O J ?_
     obtain ⟨cb,bk,h⟩:=q6 h
     refine qv bk J J<|Q4 _ bk J ?_
     obtain ⟨cc,cd,h⟩:=q6 h
     refine Y7 _ (q1Ok ca cb cc cd) J J J (.inl J)<|G _ J<|G _ J<|qa ?_
     obtain rfl:=qd h
     exact ⟨_,_,_,_,_,_,_,_,_,_,_,_,J⟩
    refine q8 J<|q8 J<|q8 J<|q8 J<|q8 J<|q8 J<|q8 J<|q8 J<|q8 J<|q8 J<|q8 J<|G _ J<|qa ?_
    obtain rfl:=qd h
    exact ⟨_,_,_,_,_,_,_,_,_,_,_,_,J⟩
   rintro _ ⟨ax,ay,az,ba,bb,bc,bd,be,bf,bg,bh,bi,rfl⟩
   refine qa ?_
   refine qm J k (fun _ k=>?_) (fun _ k=>?_)
   ·refine qk<|qx<|qt<|O J<|G _ J<|qb J<|qr<|Qg<|Q7 ?_
    exact ⟨_,(Option.some.inj k).symm,wkA [] [] []⟩
   refine Q3 ?_
   refine ⟨_,(Option.some.inj k).symm,fun hm=>?_⟩
   subst hm
   exact ⟨_,J,wkA [] [] []⟩
  intro s hb
  subst hb
  refine qf<|qc<|O J<|O J<|G _ J<|qa ?_
  refine qm J b (fun _ b=>?_) (fun _ b=>?_)
  ·refine Q3 ?_
   refine ⟨_,(Option.some.inj b).symm,fun hm=>?_⟩
   subst hm
   exact ⟨_,J,wkA [] [] []⟩
  refine qk<|qf<|Q9 [Qm 0,U,Qm 0,U,qq 0,U,U,U,qq 0,U,U,U,U,U,U,U] qh<|O J<|O J<|O J<|O J<|O J<|O J ?_
  obtain ⟨ce,bl,b⟩:=q6 b
  refine qv bl J J<|Q4 _ bl J<|O J<|O J ?_
  obtain ⟨cf,bm,b⟩:=q6 b
  refine qv bm J J<|Q4 _ bm J ?_
  obtain ⟨cm,bn,b⟩:=q6 b
  refine qv bn J J<|Qw ce bn J J J J J J J J (leb J) J ?_
  obtain ⟨cn,bo,b⟩:=q6 b
  refine qv bo qe J<|Qw cf bo J J J J J J J J (leb J) J<|qp<|O J<|G _ J<|qb J<|qa<|qt<|O J<|G _ J<|qb J<|qr<|Qg<|Q7 ?_
  exact ⟨_,(Option.some.inj b).symm,wkE [] [] [] J ⟨⟨_,J,Qy qe J qs (ltd J)⟩,qn J,qn J,qn J,qn J,trivial⟩ ⟨Qk J J,trivial⟩⟩
 intro n hb
 subst hb
 refine qc<|O J<|qb J<|qo ?_
 obtain rfl:=qd f
 exact ⟨.inr J,_,J,wkA [] [] []⟩
theorem qyo (v : ql→ql→Option Int) (q1F : FuncId) (q1C : List DV) (q1Ok : ∀ (x0 : ql) (x1 : ql) (r : Int),v x0 x1 = some r→Pure Tryz.prog tab q1F ([.agg [q9 x0.at_,q9 x0.list_,q9 x0.by_],.agg [q9 x1.at_,q9 x1.list_,q9 x1.by_]] ++ q1C) (q9 r)) (g : List ql) (b : Int) (x : Int) (h : Int) (r : Int × Bool × List ql) (a : q9x v g b x h = some r) : K0 Tryz.prog tab 182 [.hs 0 3 0 g.length,q7 b,q7 x,q7 h,.d (.fn q1F q1C)] [(0,.dat 3 (g.map Qh))] 1 (.d (.tup [q9 r.1,.bool r.2.1])) [(0,.dat 3 (r.2.2.map Qh))] 1:=by
 unfold q9x at a
 refine Kh Tryz.func182 J qh qh J<|qc<|qb J<|qb J<|qa<|qf<|Q9 [Qm 0,U,Qm 0,U,qq 0,U,U,U,qq 0,U,U,U,U,U,U,U] qh<|O J<|O J<|O J<|O J<|O J<|O J ?_
 obtain ⟨j,ad,a⟩:=q6 a
 refine qv ad J J<|Q4 _ ad J<|O J<|O J ?_
 obtain ⟨k,ae,a⟩:=q6 a
 refine qv ae J J<|Q4 _ ae J ?_
 obtain ⟨gd,af,a⟩:=q6 a
 refine qv af J J<|Qw j af J J J J J J J J (leb J) J ?_
 obtain ⟨ge,ag,a⟩:=q6 a
 refine qv ag qe J<|Qw k ag J J J J J J J J (leb J) J<|qp<|O J<|G _ J<|O J<|G _ J<|qb J<|qb J<|qa<|qf ?_
 obtain ⟨ah,dw,a⟩:=q6 a
 refine Qc (fun p=>p = ah) (fun p=>⟨[(0,.hs 0 3 0 ((g.set b.toNat j).set h.toNat k).length),(1,q7 b),(4,.d (.fn q1F q1C)),(12,q7 p),(13,.d (q9 (w64 (x - 1))))],[(0,.dat 3 (((g.set b.toNat j).set h.toNat k).map Qh))],1⟩) qe ?_ ?_
 ·refine Q5 (q9y x g b j h k v) (fun ai=>⟨[(0,.hs 0 3 0 ((g.set b.toNat j).set h.toNat k).length),(1,q7 b),(4,.d (.fn q1F q1C)),(12,q7 ai),(13,.d (q9 (w64 (x - 1))))],[(0,.dat 3 (((g.set b.toNat j).set h.toNat k).map Qh))],1⟩) (w64 (b + 1)) ah dw (wkE [] [] [] J ⟨⟨_,J,Qy qe J qs (ltd J)⟩,qn J,qn J,qn J,qn J,trivial⟩ ⟨Qk J J,trivial⟩) ?_
  intro ai gf q
  unfold q9y at q
  refine qf<|qf<|Q9 [U,U,U,qq 0,U,U,U,qq 0,U,U,U,U,U,U,U,U] qh<|O J<|O J<|G _ J ?_
  obtain ⟨dx,l,q⟩:=q6 q
  refine Q2 13 (fun A st=>∃ aj ak al am an ao ap aq ar au av aw,st = A [(47,qu dx),(46,aw),(45,av),(44,au),(43,ar),(42,aq),(41,ap),(40,ao),(39,an),(38,am),(37,al),(36,ak),(35,aj)]) ?_ ?_
  ·refine Q0 J J l (fun l=>?_) (fun l=>?_)
   ·refine O J<|O J<|O J ?_
    obtain ⟨dy,ax,l⟩:=q6 l
    refine qv ax J J<|Q4 _ ax J<|O J<|O J ?_
    obtain ⟨dz,ay,l⟩:=q6 l
    refine qv ay J J<|Q4 _ ay J ?_
    obtain ⟨fa,fb,l⟩:=q6 l
    refine Y7 _ (q1Ok dy dz fa fb) J J J (.inl J)<|G _ J<|G _ J<|qa ?_
    obtain rfl:=qd l
    exact ⟨_,_,_,_,_,_,_,_,_,_,_,_,J⟩
   refine q8 J<|q8 J<|q8 J<|q8 J<|q8 J<|q8 J<|q8 J<|q8 J<|q8 J<|q8 J<|q8 J<|G _ J<|qa ?_
   obtain rfl:=qd l
   exact ⟨_,_,_,_,_,_,_,_,_,_,_,_,J⟩
  rintro _ ⟨aj,ak,al,am,an,ao,ap,aq,ar,au,av,aw,rfl⟩
  refine qa ?_
  refine qm J q (fun _ q=>?_) (fun _ q=>?_)
  ·refine qk<|qx<|qt<|O J<|G _ J<|qb J<|qr<|Qg<|Q7 ?_
   exact ⟨_,(Option.some.inj q).symm,wkA [] [] []⟩
  refine Q3 ?_
  refine ⟨_,(Option.some.inj q).symm,fun hm=>?_⟩
  subst hm
  exact ⟨_,J,wkA [] [] []⟩
 intro p hb
 subst hb
 refine qf ?_
 obtain ⟨az,fc,a⟩:=q6 a
 refine Qc (fun y=>y = az) (fun y=>⟨[(0,.hs 0 3 0 ((g.set b.toNat j).set h.toNat k).length),(1,q7 b),(4,.d (.fn q1F q1C)),(12,q7 p),(13,q7 y)],[(0,.dat 3 (((g.set b.toNat j).set h.toNat k).map Qh))],1⟩) qe ?_ ?_
 ·refine Q5 (q9z p g b j h k v) (fun ba=>⟨[(0,.hs 0 3 0 ((g.set b.toNat j).set h.toNat k).length),(1,q7 b),(4,.d (.fn q1F q1C)),(12,q7 p),(13,q7 ba)],[(0,.dat 3 (((g.set b.toNat j).set h.toNat k).map Qh))],1⟩) (w64 (x - 1)) az fc (wkA [] [] []) ?_
  intro ba gg s
  unfold q9z at s
  refine qf<|qf<|Q9 [U,U,U,U,qq 0,U,U,U,qq 0,U,U,U,U,U,U,U,U] qh<|O J<|O J<|G _ J ?_
  obtain ⟨fd,m,s⟩:=q6 s
  refine Q2 14 (fun A st=>∃ bb bc bd be bf bg bh bi bj bk bl bm bn,st = A [(66,qu fd),(65,bn),(64,bm),(63,bl),(62,bk),(61,bj),(60,bi),(59,bh),(58,bg),(57,bf),(56,be),(55,bd),(54,bc),(53,bb)]) ?_ ?_
  ·refine Q0 J J m (fun m=>?_) (fun m=>?_)
   ·refine O J<|O J<|O J ?_
    obtain ⟨fe,bo,m⟩:=q6 m
    refine qv bo J J<|Q4 _ bo J<|O J<|O J ?_
    obtain ⟨ff,bp,m⟩:=q6 m
    refine qv bp J J<|Q4 _ bp J ?_
    obtain ⟨fg,fh,m⟩:=q6 m
    refine Y7 _ (q1Ok fe ff fg fh) J J J (.inl J)<|G _ J<|G _ J<|G _ J<|qa ?_
    obtain rfl:=qd m
    exact ⟨_,_,_,_,_,_,_,_,_,_,_,_,_,J⟩
   refine q8 J<|q8 J<|q8 J<|q8 J<|q8 J<|q8 J<|q8 J<|q8 J<|q8 J<|q8 J<|q8 J<|q8 J<|G _ J<|qa ?_
   obtain rfl:=qd m
   exact ⟨_,_,_,_,_,_,_,_,_,_,_,_,_,J⟩
  rintro _ ⟨bb,bc,bd,be,bf,bg,bh,bi,bj,bk,bl,bm,bn,rfl⟩
  refine qa ?_
  refine qm J s (fun _ s=>?_) (fun _ s=>?_)
  ·refine qk<|qx<|qt<|O J<|G _ J<|qb J<|qr<|Qg<|Q7 ?_
   exact ⟨_,(Option.some.inj s).symm,wkA [] [] []⟩
  refine Q3 ?_
  refine ⟨_,(Option.some.inj s).symm,fun hm=>?_⟩
  subst hm
  exact ⟨_,J,wkA [] [] []⟩
 intro y hb
 subst hb
 refine qf<|qc<|O J<|O J<|G _ J<|qa ?_
 refine qm J a (fun _ a=>?_) (fun _ a=>?_)
 ·refine qf<|Q9 [Qm 0,U,Qm 0,U,qq 0,U,U,U,qq 0,U,U,U,U,U,U,U] qh<|O J<|O J<|O J<|O J<|O J<|O J ?_
  obtain ⟨fi,bq,a⟩:=q6 a
  refine qv bq J J<|Q4 _ bq J<|O J<|O J ?_
  obtain ⟨fj,br,a⟩:=q6 a
  refine qv br J J<|Q4 _ br J ?_
  obtain ⟨gh,bs,a⟩:=q6 a
  refine qv bs J J<|Qw fi bs J J J J J J J J (leb J) J ?_
  obtain ⟨gi,bt,a⟩:=q6 a
  refine qv bt qe J<|Qw fj bt J J J J J J J J (leb J) J<|qp<|O J<|qb J<|qb J<|qo ?_
  obtain rfl:=qd a
  exact ⟨.inr J,_,J,wkA [] [] []⟩
 refine qk<|qf<|Q9 [Qm 0,U,Qm 0,U,qq 0,U,U,U,qq 0,U,U,U,U,U,U,U] qh<|O J<|O J<|O J<|O J<|O J<|O J ?_
 obtain ⟨bu,bv,a⟩:=q6 a
 refine qv bv J J<|Q4 _ bv J<|O J<|O J ?_
 obtain ⟨bw,bz,a⟩:=q6 a
 refine qv bz J J<|Q4 _ bz J ?_
 obtain ⟨gj,ca,a⟩:=q6 a
 refine qv ca J J<|Qw bu ca J J J J J J J J (leb J) J ?_
 obtain ⟨gk,cb,a⟩:=q6 a
 refine qv cb qe J<|Qw bw cb J J J J J J J J (leb J) J<|qp<|O J<|G _ J<|qb J<|qp<|O J<|G _ J<|qb J<|qa<|qf ?_
 obtain ⟨cc,fk,a⟩:=q6 a
 refine Qc (fun z=>z = cc) (fun z=>⟨[(0,.hs 0 3 0 z.2.length),(1,q7 b),(13,q7 z.1)],[(0,.dat 3 (z.2.map Qh))],1⟩) qe ?_ ?_
 ·refine Q5 (qa0 b v) (fun c=>⟨[(0,.hs 0 3 0 c.2.2.length),(1,q7 b),(4,.d (.fn q1F q1C)),(12,q7 c.1),(13,q7 c.2.1)],[(0,.dat 3 (c.2.2.map Qh))],1⟩) (w64 (p + 1),w64 (y - 1),(((g.set b.toNat j).set h.toNat k).set p.toNat bu).set y.toNat bw) cc fk (wkE [] [] [] J ⟨⟨_,J,Qy qe J qs (ltd J)⟩,qn J,qn J,qn J,qn J,trivial⟩ ⟨Qk J J,trivial⟩) ?_
  intro c gl f
  unfold qa0 at f
  refine qx<|qf ?_
  obtain ⟨cd,fl,f⟩:=q6 f
  refine Qc (fun w=>w = cd) (fun w=>⟨[(0,.hs 0 3 0 c.2.2.length),(1,q7 b),(4,.d (.fn q1F q1C)),(12,q7 w),(13,q7 c.2.1)],[(0,.dat 3 (c.2.2.map Qh))],1⟩) qe ?_ ?_
  ·refine Q5 (qa1 c b v) (fun ce=>⟨[(0,.hs 0 3 0 c.2.2.length),(1,q7 b),(4,.d (.fn q1F q1C)),(12,q7 ce),(13,q7 c.2.1)],[(0,.dat 3 (c.2.2.map Qh))],1⟩) c.1 cd fl (wkA [] [] []) ?_
   intro ce gm t
   unfold qa1 at t
   refine qf<|qf<|Q9 [U,U,U,qq 0,U,U,U,qq 0,U,U,U,U,U,U,U,U] qh<|O J<|O J<|G _ J ?_
   obtain ⟨fm,n,t⟩:=q6 t
   refine Q2 13 (fun A st=>∃ cf cg ch ci cj ck cm cn co cp cq cr,st = A [(120,qu fm),(119,cr),(118,cq),(117,cp),(116,co),(115,cn),(114,cm),(113,ck),(112,cj),(111,ci),(110,ch),(109,cg),(108,cf)]) ?_ ?_
   ·refine Q0 J J n (fun n=>?_) (fun n=>?_)
    ·refine O J<|O J<|O J ?_
     obtain ⟨fo,cs,n⟩:=q6 n
     refine qv cs J J<|Q4 _ cs J<|O J<|O J ?_
     obtain ⟨fq,ct,n⟩:=q6 n
     refine qv ct J J<|Q4 _ ct J ?_
     obtain ⟨fr,fs,n⟩:=q6 n
     refine Y7 _ (q1Ok fo fq fr fs) J J J (.inl J)<|G _ J<|G _ J<|qa ?_
     obtain rfl:=qd n
     exact ⟨_,_,_,_,_,_,_,_,_,_,_,_,J⟩
    refine q8 J<|q8 J<|q8 J<|q8 J<|q8 J<|q8 J<|q8 J<|q8 J<|q8 J<|q8 J<|q8 J<|G _ J<|qa ?_
    obtain rfl:=qd n
    exact ⟨_,_,_,_,_,_,_,_,_,_,_,_,J⟩
   rintro _ ⟨cf,cg,ch,ci,cj,ck,cm,cn,co,cp,cq,cr,rfl⟩
   refine qa ?_
   refine qm J t (fun _ t=>?_) (fun _ t=>?_)
   ·refine qk<|qx<|qt<|O J<|G _ J<|qb J<|qr<|Qg<|Q7 ?_
    exact ⟨_,(Option.some.inj t).symm,wkA [] [] []⟩
   refine Q3 ?_
   refine ⟨_,(Option.some.inj t).symm,fun hm=>?_⟩
   subst hm
   exact ⟨_,J,wkA [] [] []⟩
  intro w hb
  subst hb
  refine qf ?_
  obtain ⟨cu,ft,f⟩:=q6 f
  refine Qc (fun ac=>ac = cu) (fun ac=>⟨[(0,.hs 0 3 0 c.2.2.length),(1,q7 b),(4,.d (.fn q1F q1C)),(12,q7 w),(13,q7 ac)],[(0,.dat 3 (c.2.2.map Qh))],1⟩) qe ?_ ?_
  ·refine Q5 (qa2 w c b v) (fun cv=>⟨[(0,.hs 0 3 0 c.2.2.length),(1,q7 b),(4,.d (.fn q1F q1C)),(12,q7 w),(13,q7 cv)],[(0,.dat 3 (c.2.2.map Qh))],1⟩) c.2.1 cu ft (wkA [] [] []) ?_
   intro cv gn u
   unfold qa2 at u
   refine qf<|qf<|Q9 [U,U,U,U,qq 0,U,U,U,qq 0,U,U,U,U,U,U,U,U] qh<|O J<|O J<|G _ J ?_
   obtain ⟨fu,o,u⟩:=q6 u
   refine Q2 14 (fun A st=>∃ cw cx cy cz da dc dd de df dg dh dj dk,st = A [(139,qu fu),(138,dk),(137,dj),(136,dh),(135,dg),(134,df),(133,de),(132,dd),(131,dc),(130,da),(129,cz),(128,cy),(127,cx),(126,cw)]) ?_ ?_
   ·refine Q0 J J o (fun o=>?_) (fun o=>?_)
    ·refine O J<|O J<|O J ?_
     obtain ⟨fv,dl,o⟩:=q6 o
     refine qv dl J J<|Q4 _ dl J<|O J<|O J ?_
     obtain ⟨fw,dm,o⟩:=q6 o
     refine qv dm J J<|Q4 _ dm J ?_
     obtain ⟨fx,fy,o⟩:=q6 o
     refine Y7 _ (q1Ok fv fw fx fy) J J J (.inl J)<|G _ J<|G _ J<|G _ J<|qa ?_
     obtain rfl:=qd o
     exact ⟨_,_,_,_,_,_,_,_,_,_,_,_,_,J⟩
    refine q8 J<|q8 J<|q8 J<|q8 J<|q8 J<|q8 J<|q8 J<|q8 J<|q8 J<|q8 J<|q8 J<|q8 J<|G _ J<|qa ?_
    obtain rfl:=qd o
    exact ⟨_,_,_,_,_,_,_,_,_,_,_,_,_,J⟩
   rintro _ ⟨cw,cx,cy,cz,da,dc,dd,de,df,dg,dh,dj,dk,rfl⟩
   refine qa ?_
   refine qm J u (fun _ u=>?_) (fun _ u=>?_)
   ·refine qk<|qx<|qt<|O J<|G _ J<|qb J<|qr<|Qg<|Q7 ?_
    exact ⟨_,(Option.some.inj u).symm,wkA [] [] []⟩
   refine Q3 ?_
   refine ⟨_,(Option.some.inj u).symm,fun hm=>?_⟩
   subst hm
   exact ⟨_,J,wkA [] [] []⟩
  intro ac hb
  subst hb
  refine qf<|qc<|O J<|O J<|G _ J<|qa ?_
  refine qm J f (fun _ f=>?_) (fun _ f=>?_)
  ·refine Q3 ?_
   refine ⟨_,(Option.some.inj f).symm,fun hm=>?_⟩
   subst hm
   exact ⟨_,J,wkA [] [] []⟩
  refine qk<|qf<|Q9 [Qm 0,U,Qm 0,U,qq 0,U,U,U,qq 0,U,U,U,U,U,U,U] qh<|O J<|O J<|O J<|O J<|O J<|O J ?_
  obtain ⟨fz,dn,f⟩:=q6 f
  refine qv dn J J<|Q4 _ dn J<|O J<|O J ?_
  obtain ⟨ga,dp,f⟩:=q6 f
  refine qv dp J J<|Q4 _ dp J ?_
  obtain ⟨go,dq,f⟩:=q6 f
  refine qv dq J J<|Qw fz dq J J J J J J J J (leb J) J ?_
  obtain ⟨gp,dr,f⟩:=q6 f
  refine qv dr qe J<|Qw ga dr J J J J J J J J (leb J) J<|qp<|O J<|G _ J<|qb J<|qa<|qt<|O J<|G _ J<|qb J<|qr<|Qg<|Q7 ?_
  exact ⟨_,(Option.some.inj f).symm,wkE [] [] [] J ⟨⟨_,J,Qy qe J qs (ltd J)⟩,qn J,qn J,qn J,qn J,trivial⟩ ⟨Qk J J,trivial⟩⟩
 intro z hb
 subst hb
 refine qf<|Q9 [Qm 0,U,Qm 0,U,qq 0,U,U,U,qq 0,U,U,U,U,U,U,U] qh<|O J<|O J<|O J<|O J<|O J<|O J ?_
 obtain ⟨gb,ds,a⟩:=q6 a
 refine qv ds J J<|Q4 _ ds J<|O J<|O J ?_
 obtain ⟨gc,dt,a⟩:=q6 a
 refine qv dt J J<|Q4 _ dt J ?_
 obtain ⟨gq,du,a⟩:=q6 a
 refine qv du J J<|Qw gb du J J J J J J J J (leb J) J ?_
 obtain ⟨gr,dv,a⟩:=q6 a
 refine qv dv qe J<|Qw gc dv J J J J J J J J (leb J) J<|qp<|O J<|qb J<|qb J<|qo ?_
 obtain rfl:=qd a
 exact ⟨.inr J,_,J,wkA [] [] []⟩
theorem qye (p : ql→ql→Option Int) (q1F : FuncId) (q1C : List DV) (_q1Ok : ∀ (j : ql) (k : ql) (r : Int),p j k = some r→Pure Tryz.prog tab q1F ([.agg [q9 j.at_,q9 j.list_,q9 j.by_],.agg [q9 k.at_,q9 k.list_,q9 k.by_]] ++ q1C) (q9 r)) (l : List ql) (b : Int) (g : Int) (r : List ql) (c : q9k p l b g = some r) : K0 Tryz.prog tab 177 [.hs 0 3 0 l.length,q7 b,q7 g,.d (.fn q1F q1C)] [(0,.dat 3 (l.map Qh))] 1 (.d (.tup [])) [(0,.dat 3 (r.map Qh))] 1:=by
 unfold q9k at c
 refine Kh Tryz.func177 J qh qh J<|qc<|O J<|O J<|G _ J<|qb J<|qp<|O J<|G _ J<|qa ?_
 refine qm J c (fun _ c=>?_) (fun _ c=>?_)
 ·refine qc<|O J<|G _ J<|Qv J J<|Qd 1 _ J<|qp<|O J ?_
  obtain ⟨m,v,c⟩:=q6 c
  refine qz (qmv (w64 (g - b)) m v) J<|qb J<|qp<|O J<|O J<|G _ J<|G _ J<|G _ J<|G _ J<|qb J<|qa ?_
  obtain ⟨w,x,c⟩:=q6 c
  refine qx<|Q5 (q9l b g m) (fun f=>⟨[(0,.hs 0 3 0 f.2.1.length),(1,q7 b),(8,.d (q9 (w64 (g - b)))),(9,.ref 1 1 0 0),(10,.d (.int .u64 m)),(11,q7 f.1)],[(0,.dat 3 (f.2.1.map Qh)),(1,.dat 1 [[.int .u64 f.2.2]])],2⟩) (w64 ((w64 (b + (w64 ((w64 (Int.tdiv (w64 (g - b)) 4)) * 2)))) - 1),l,IntKind.wrap .u64 (w64 (g - b))) w x (wkA [(1,1)] [] []) ?_
  intro f ac a
  unfold q9l at a
  refine qf<|qc<|O J<|O J<|O J<|G _ J<|G _ J<|G _ J<|G _ J<|G _ J<|qa ?_
  refine qm J a (fun _ a=>?_) (fun _ a=>?_)
  ·refine qk<|qf<|qx<|qc ?_
   obtain ⟨n,y,a⟩:=q6 a
   refine K1 [(0,1)] [(0,1),(1,0)] _ (.d (.int .u64 n)) 1 [(1,.dat 1 [[.int .u64 n]]),(0,.dat 3 (f.2.1.map Qh))] 2 (qmy f.2.2 n y)<|O J<|G _ J<|G _ J<|G _ J<|qb J<|qa<|qf<|qc<|O J<|O J<|G _ J<|qa ?_
   obtain ⟨z,h,a⟩:=q6 a
   refine Yk (fun o=>o = z) (fun o=>⟨[(0,.hs 0 3 0 f.2.1.length),(1,q7 b),(8,.d (q9 (w64 (g - b)))),(9,.ref 1 1 0 0),(10,.d (.int .u64 m)),(11,q7 f.1),(12,q7 o)],[(0,.dat 3 (f.2.1.map Qh)),(1,.dat 1 [[.int .u64 n]])],2⟩) qe ?_ ?_
   ·refine qm J h (fun _ h=>?_) (fun _ h=>?_)
    ·refine qt<|O J<|O J<|G _ J<|qb J<|qr ?_
     obtain rfl:=qd h
     exact ⟨_,J,wkA [(1,1)] [] []⟩
    refine qk<|Q7 ?_
    obtain rfl:=qd h
    exact ⟨_,J,wkA [(1,1)] [] []⟩
   intro o hb
   subst hb
   refine Q9 [Qm 0,U,Qm 0,U,qq 0,U,U,U,qq 0,U,U,U,U,U,U,U,U,U,U,U] qh<|O J<|O J<|O J<|O J<|O J<|G _ J<|O J<|O J<|O J<|G _ J ?_
   obtain ⟨aa,q,a⟩:=q6 a
   refine qv q J J<|Q4 _ q J<|O J<|O J ?_
   obtain ⟨ab,s,a⟩:=q6 a
   refine qv s J J<|Q4 _ s J ?_
   obtain ⟨ad,t,a⟩:=q6 a
   refine qv t J J<|Qw aa t J J J J J J J J (leb J) J ?_
   obtain ⟨ae,u,a⟩:=q6 a
   refine qv u qe J<|Qw ab u J J J J J J J J (leb J) J<|qr<|Qg<|qt<|O J<|G _ J<|qb J<|qr ?_
   exact ⟨_,(Option.some.inj a).symm,wkE [(1,1)] [] [] J ⟨⟨_,J,Qy qe J qs (ltd J)⟩,qn J,qn J,⟨_,J,.ref J qs (ltd J)⟩,qn J,qn J,trivial⟩ ⟨Qk J J,Qk J J,trivial⟩⟩
  refine Q3 ?_
  refine ⟨_,(Option.some.inj a).symm,fun hm=>?_⟩
  subst hm
  obtain rfl:=qd c
  exact ⟨.inl J,_,J,wkA [] [] []⟩
 refine qk<|Q7 ?_
 obtain rfl:=qd c
 exact ⟨.inl J,_,J,wkA [] [] []⟩
theorem qys (rec : List ql→Int→Int→Int→Option (List ql)) (g : ql→ql→Option Int) (q1F : FuncId) (q1C : List DV) (q1Ok : ∀ (w : ql) (x : ql) (r : Int),g w x = some r→Pure Tryz.prog tab q1F ([.agg [q9 w.at_,q9 w.list_,q9 w.by_],.agg [q9 x.at_,q9 x.list_,q9 x.by_]] ++ q1C) (q9 r)) (hrec : ∀ (o : List ql) (p : Int) (q : Int) (s : Int) (r : List ql),rec o p q s = some r→K0 Tryz.prog tab 172 [.hs 0 3 0 o.length,q7 p,q7 q,q7 s,.d (.fn q1F q1C)] [(0,.dat 3 (o.map Qh))] 1 (.d (.tup [])) [(0,.dat 3 (r.map Qh))] 1) (o : List ql) (p : Int) (q : Int) (s : Int) (r : List ql) (t : q77 rec g o p q s = some r) : K0 Tryz.prog tab 172 [.hs 0 3 0 o.length,q7 p,q7 q,q7 s,.d (.fn q1F q1C)] [(0,.dat 3 (o.map Qh))] 1 (.d (.tup [])) [(0,.dat 3 (r.map Qh))] 1:=by
 unfold q77 at t
 refine Kh Tryz.func172 J qh qh J<|qc<|qb J<|qp<|qb J<|qa ?_
 obtain ⟨be,bf,t⟩:=q6 t
 refine qx<|Q5 (q76 g rec) (fun b=>⟨[(0,.hs 0 3 0 b.2.2.2.2.2.length),(1,q7 b.1),(2,q7 b.2.1),(3,q7 b.2.2.1),(4,.d (.fn q1F q1C)),(10,qu b.2.2.2.1),(11,qu b.2.2.2.2.1)],[(0,.dat 3 (b.2.2.2.2.2.map Qh))],1⟩) (p,q,s,true,true,o) be bf (wkA [] [] []) ?_
 intro b ct a
 unfold q76 at a
 refine qx<|qc<|O J<|O J<|G _ J<|qb J<|qa<|qf<|qc<|O J<|G _ J<|qa ?_
 refine qm J a (fun _ a=>?_) (fun _ a=>?_)
 ·refine qc<|O J<|O J<|O J<|O J ?_
  obtain ⟨ad,bg,a⟩:=q6 a
  obtain ⟨cu,bh,a⟩:=q6 a
  have cv:=Kd bh
  refine K1 [(0,0)] [(0,0)] _ (.d (.tup [])) 1 [(0,.dat 3 (ad.map Qh))] 1 (qyk g q1F q1C q1Ok b.2.2.2.2.2 b.1 b.2.1 ad bg)<|qo ?_
  refine ⟨_,(Option.some.inj a).symm,fun hm=>?_⟩
  subst hm
  obtain rfl:=qd t
  exact ⟨.inr J,_,J,wkA [] [] []⟩
 refine qk<|qf<|qc<|O J<|G _ J<|qa ?_
 refine qm J a (fun _ a=>?_) (fun _ a=>?_)
 ·refine qc<|O J<|O J<|O J<|O J ?_
  obtain ⟨ae,bi,a⟩:=q6 a
  obtain ⟨cw,bj,a⟩:=q6 a
  have cx:=Kd bj
  refine K1 [(0,0)] [(0,0)] _ (.d (.tup [])) 1 [(0,.dat 3 (ae.map Qh))] 1 (qyi g q1F q1C q1Ok b.2.2.2.2.2 b.1 b.2.1 ae bi)<|qo ?_
  refine ⟨_,(Option.some.inj a).symm,fun hm=>?_⟩
  subst hm
  obtain rfl:=qd t
  exact ⟨.inr J,_,J,wkA [] [] []⟩
 refine qk<|qf<|qc<|O J<|G _ J<|qa ?_
 obtain ⟨bk,l,a⟩:=q6 a
 refine Yk (fun c=>c = bk) (fun c=>⟨[(0,.hs 0 3 0 c.2.length),(1,q7 b.1),(2,q7 b.2.1),(3,q7 c.1),(4,.d (.fn q1F q1C)),(10,qu b.2.2.2.1),(11,qu b.2.2.2.2.1),(12,.d (q9 (w64 (b.2.1 - b.1))))],[(0,.dat 3 (c.2.map Qh))],1⟩) qe ?_ ?_
 ·refine qm J l (fun _ l=>?_) (fun _ l=>?_)
  ·refine qc<|O J<|O J<|O J<|O J ?_
   obtain ⟨af,bl,l⟩:=q6 l
   obtain ⟨cy,bm,l⟩:=q6 l
   have bn:=Kd bm
   refine K1 [(0,0)] [(0,0)] _ (.d (.tup [])) 1 [(0,.dat 3 (af.map Qh))] 1 (qye g q1F q1C q1Ok b.2.2.2.2.2 b.1 b.2.1 af bl)<|qa<|qt<|O J<|G _ J<|qb J<|qr ?_
   obtain rfl:=qd l
   exact ⟨_,J,wkE [] [] [] J ⟨⟨_,J,Qy (by simp [bn]) J qs (ltd J)⟩,qn J,qn J,qn J,qn J,qn J,qn J,qn J,trivial⟩ ⟨Qk J J,trivial⟩⟩
  refine qk<|Q7 ?_
  obtain rfl:=qd l
  exact ⟨_,J,wkA [] [] []⟩
 intro c hb
 subst hb
 refine qc<|O J<|O J<|O J<|O J ?_
 obtain ⟨bo,bp,a⟩:=q6 a
 refine q2h [.hs 0 3 0 c.2.length,q7 b.1,q7 b.2.1,.d (.fn q1F q1C)] (qyg c.2 b.1 b.2.1 g q1F q1C q1Ok bo bp) J J (Zc (Z6 J J) (Zc J (Zc J (Zc J J)))) (.inr J)<|O J<|G _ J<|G _ J<|qb J<|qb J<|qa<|qf<|qc<|O J<|G _ J<|qa ?_
 obtain ⟨bq,m,a⟩:=q6 a
 refine Yk (fun h=>h = bq) (fun h=>⟨[(0,.hs 0 3 0 h.2.2.length),(1,q7 b.1),(2,q7 b.2.1),(3,q7 c.1),(4,.d (.fn q1F q1C)),(10,qu b.2.2.2.1),(11,qu b.2.2.2.2.1),(12,.d (q9 (w64 (b.2.1 - b.1)))),(13,q7 h.1),(14,q7 h.2.1)],[(0,.dat 3 (h.2.2.map Qh))],1⟩) qe ?_ ?_
 ·refine qm J m (fun _ m=>?_) (fun _ m=>?_)
  ·refine qc<|O J<|O J<|O J<|O J ?_
   obtain ⟨ag,br,m⟩:=q6 m
   obtain ⟨cz,bs,m⟩:=q6 m
   have bt:=Kd bs
   refine K1 [(0,0)] [(0,0)] _ (.d (.tup [])) 1 [(0,.dat 3 (ag.map Qh))] 1 (qyw g q1F q1C q1Ok c.2 b.1 b.2.1 ag br)<|qp<|O J<|G _ J<|O J<|O J<|G _ J<|G _ J<|qb J<|qa<|qt<|qb J<|qr ?_
   obtain rfl:=qd m
   exact ⟨_,J,wkE [] [] [] J ⟨⟨_,J,Qy (by simp [bt]) J qs (ltd J)⟩,qn J,qn J,qn J,qn J,qn J,qn J,qn J,qn J,qn J,trivial⟩ ⟨Qk J J,trivial⟩⟩
  refine qk<|Q7 ?_
  obtain rfl:=qd m
  exact ⟨_,J,wkA [] [] []⟩
 intro h hb
 subst hb
 refine qf<|qc<|O J ?_
 obtain ⟨bu,u,a⟩:=q6 a
 refine Q2 3 (fun A st=>∃ ah ai,st = A [(71,qu bu),(70,ai),(69,ah)]) ?_ ?_
 ·refine Q0 J J u (fun u=>?_) (fun u=>?_)
  ·refine O J<|G _ J<|qa ?_
   obtain rfl:=qd u
   exact ⟨_,_,J⟩
  refine q8 J<|G _ J<|qa ?_
  obtain rfl:=qd u
  exact ⟨_,_,J⟩
 rintro _ ⟨ah,ai,rfl⟩
 obtain ⟨bv,v,a⟩:=q6 a
 refine Q2 4 (fun A st=>∃ aj ak al,st = A [(75,qu bv),(74,al),(73,ak),(72,aj)]) ?_ ?_
 ·refine Q0 J J v (fun v=>?_) (fun v=>?_)
  ·refine O J<|G _ J<|G _ J<|qa ?_
   obtain rfl:=qd v
   exact ⟨_,_,_,J⟩
  refine q8 J<|q8 J<|G _ J<|qa ?_
  obtain rfl:=qd v
  exact ⟨_,_,_,J⟩
 rintro _ ⟨aj,ak,al,rfl⟩
 refine qa ?_
 obtain ⟨bw,f,a⟩:=q6 a
 refine Yk (fun n=>.inl n = bw) (fun n=>⟨[(0,.hs 0 3 0 n.length),(1,q7 b.1),(2,q7 b.2.1),(3,q7 c.1),(4,.d (.fn q1F q1C)),(10,qu b.2.2.2.1),(11,qu b.2.2.2.2.1),(12,.d (q9 (w64 (b.2.1 - b.1)))),(13,q7 h.1)],[(0,.dat 3 (n.map Qh))],1⟩) qe ?_ ?_
 ·refine qm J f (fun _ f=>?_) (fun _ f=>?_)
  ·refine qc<|O J<|O J<|O J<|O J ?_
   obtain ⟨z,bz,f⟩:=q6 f
   obtain ⟨da,ca,f⟩:=q6 f
   have cb:=Kd ca
   refine K1 [(0,0)] [(0,0)] _ (qu z.1) 1 [(0,.dat 3 (z.2.map Qh))] 1 (qym g q1F q1C q1Ok h.2.2 b.1 b.2.1 z bz)<|qa ?_
   refine qm J f (fun _ f=>?_) (fun _ f=>?_)
   ·refine Uq ?_
    obtain rfl:=qd f
    refine ⟨_,(Option.some.inj a).symm,fun hm=>?_⟩
    subst hm
    obtain rfl:=qd t
    exact ⟨.inr J,_,J,wkA [] [] []⟩
   refine qk<|Q7 ?_
   obtain rfl:=qd f
   exact ⟨_,J,wkE [] [] [] J ⟨⟨_,J,Qy (by simp [cb]) J qs (ltd J)⟩,qn J,qn J,qn J,qn J,qn J,qn J,qn J,qn J,trivial⟩ ⟨Qk J J,trivial⟩⟩
  refine qk<|Q7 ?_
  obtain rfl:=qd f
  exact ⟨_,J,wkA [] [] []⟩
 intro n hb
 subst hb
 refine qf<|qf<|Q9 [U,U,U,U,qq 0,U,U,U,qq 0,U,U,U,U,U,U,U,U] qh<|O J<|G _ J ?_
 obtain ⟨cc,j,a⟩:=q6 a
 refine Q2 15 (fun A st=>∃ am an ao ap aq ar au av aw ax ay az ba bb,st = A [(97,qu cc),(96,bb),(95,ba),(94,az),(93,ay),(92,ax),(91,aw),(90,av),(89,au),(88,ar),(87,aq),(86,ap),(85,ao),(84,an),(83,am)]) ?_ ?_
 ·refine Q0 J J j (fun j=>?_) (fun j=>?_)
  ·refine O J<|O J<|O J<|G _ J ?_
   obtain ⟨cd,bc,j⟩:=q6 j
   refine qv bc J J<|Q4 _ bc J<|O J<|O J ?_
   obtain ⟨ce,bd,j⟩:=q6 j
   refine qv bd J J<|Q4 _ bd J ?_
   obtain ⟨cf,cg,j⟩:=q6 j
   refine Y7 _ (q1Ok cd ce cf cg) J J J (.inl J)<|G _ J<|G _ J<|G _ J<|qa ?_
   obtain rfl:=qd j
   exact ⟨_,_,_,_,_,_,_,_,_,_,_,_,_,_,J⟩
  refine q8 J<|q8 J<|q8 J<|q8 J<|q8 J<|q8 J<|q8 J<|q8 J<|q8 J<|q8 J<|q8 J<|q8 J<|q8 J<|G _ J<|qa ?_
  obtain rfl:=qd j
  exact ⟨_,_,_,_,_,_,_,_,_,_,_,_,_,_,J⟩
 rintro _ ⟨am,an,ao,ap,aq,ar,au,av,aw,ax,ay,az,ba,bb,rfl⟩
 refine qa ?_
 refine qm J a (fun _ a=>?_) (fun _ a=>?_)
 ·refine qc<|O J<|O J<|O J<|O J<|O J ?_
  obtain ⟨aa,ch,a⟩:=q6 a
  obtain ⟨dc,ci,a⟩:=q6 a
  have cj:=Kd ci
  refine K1 [(0,0)] [(0,0)] _ (q7 aa.1) 1 [(0,.dat 3 (aa.2.map Qh))] 1 (qyp g q1F q1C q1Ok n b.1 b.2.1 h.1 aa ch)<|qb J<|qp<|O J<|qb J<|qa<|Q3<|Jk<|Q7 ?_
  exact ⟨_,(Option.some.inj a).symm,wkE [] [] [] J ⟨⟨_,J,Qy (by simp [cj]) J qs (ltd J)⟩,qn J,qn J,qn J,qn J,qn J,qn J,trivial⟩ ⟨Qk J J,trivial⟩⟩
 refine qk<|qc<|O J<|O J<|O J<|O J<|O J ?_
 obtain ⟨k,ck,a⟩:=q6 a
 obtain ⟨dd,cm,a⟩:=q6 a
 have y:=Kd cm
 refine K1 [(0,0)] [(0,0)] _ (.d (.tup [q9 k.1,.bool k.2.1])) 1 [(0,.dat 3 (k.2.2.map Qh))] 1 (qyo g q1F q1C q1Ok n b.1 b.2.1 h.1 k ck)<|O J<|G _ J<|G _ J<|qb J<|qb J<|qp<|O J<|qb J<|qp<|O J<|O J<|G _ J<|O J<|O J<|G _ J<|qb J<|qb J<|qp<|O J<|G _ J<|qb J<|qp<|O J<|O J<|G _ J<|qa ?_
 refine qm J a (fun _ a=>?_) (fun _ a=>?_)
 ·refine qc<|O J<|O J<|G _ J<|qb J<|qp<|O J<|O J<|O J<|O J<|O J ?_
  obtain ⟨ab,cn,a⟩:=q6 a
  obtain ⟨de,co,a⟩:=q6 a
  have cp:=Kd co
  refine Jq [(0,0)] [(0,0)] [.hs 0 3 0 n.length,q7 b.1,q7 k.1,q7 c.1,.d (.fn q1F q1C)] (.d (.tup [])) [(0,.dat 3 (ab.map Qh))] [(0,.dat 3 (ab.map Qh))] 1 (hrec k.2.2 b.1 k.1 c.1 ab cn) J J J (Y9 [(0,0)] [] [] J ⟨⟨_,J,Qy (by simp [y]) J qs (ltd J)⟩,qn J,qn J,qn J,qn J,trivial⟩ ⟨Qk J J,trivial⟩) (Y9 [(0,0)] [] [] J ⟨qn J,trivial⟩ ⟨Qk J J,trivial⟩) J ⟨.inl J,trivial⟩<|qa<|qt<|O J<|G _ J<|qb J<|qr<|Qg<|Q7 ?_
  exact ⟨_,(Option.some.inj a).symm,wkE [] [] [] J ⟨⟨_,J,Qy (by simp [y,cp]) J qs (ltd J)⟩,qn J,qn J,qn J,qn J,qn J,qn J,trivial⟩ ⟨Qk J J,trivial⟩⟩
 refine qc<|O J<|O J<|G _ J<|qb J<|qp<|O J<|O J<|G _ J<|O J<|O J<|O J ?_
 obtain ⟨ac,cq,a⟩:=q6 a
 obtain ⟨df,cr,a⟩:=q6 a
 have cs:=Kd cr
 refine Jq [(0,0)] [(0,0)] [.hs 0 3 0 n.length,.d (q9 (w64 (k.1 + 1))),q7 b.2.1,q7 c.1,.d (.fn q1F q1C)] (.d (.tup [])) [(0,.dat 3 (ac.map Qh))] [(0,.dat 3 (ac.map Qh))] 1 (hrec k.2.2 (w64 (k.1 + 1)) b.2.1 c.1 ac cq) J J J (Y9 [(0,0)] [] [] J ⟨⟨_,J,Qy (by simp [y]) J qs (ltd J)⟩,qn J,qn J,qn J,qn J,trivial⟩ ⟨Qk J J,trivial⟩) (Y9 [(0,0)] [] [] J ⟨qn J,trivial⟩ ⟨Qk J J,trivial⟩) J ⟨.inl J,trivial⟩<|qa<|qt<|O J<|qb J<|qr<|Qg<|Q7 ?_
 exact ⟨_,(Option.some.inj a).symm,wkE [] [] [] J ⟨⟨_,J,Qy (by simp [y,cs]) J qs (ltd J)⟩,qn J,qn J,qn J,qn J,qn J,qn J,trivial⟩ ⟨Qk J J,trivial⟩⟩
theorem qyt (n : Nat) (g : ql→ql→Option Int) (q1F : FuncId) (q1C : List DV) (q1Ok : ∀ (h : ql) (j : ql) (r : Int),g h j = some r→Pure Tryz.prog tab q1F ([.agg [q9 h.at_,q9 h.list_,q9 h.by_],.agg [q9 j.at_,q9 j.list_,q9 j.by_]] ++ q1C) (q9 r)) : ∀ (a : List ql) (b : Int) (c : Int) (f : Int) (r : List ql),q75 n g a b c f = some r→K0 Tryz.prog tab 172 [.hs 0 3 0 a.length,q7 b,q7 c,q7 f,.d (.fn q1F q1C)] [(0,.dat 3 (a.map Qh))] 1 (.d (.tup [])) [(0,.dat 3 (r.map Qh))] 1:=by
 induction n with
 | zero=>intro a b c f r k;cases k
 | succ n ih=>intro a b c f r k;exact qys (q75 n g) g q1F q1C q1Ok ih a b c f r k
theorem qyc (g : ql→ql→Option Int) (q1F : FuncId) (q1C : List DV) (q1Ok : ∀ (c : ql) (f : ql) (r : Int),g c f = some r→Pure Tryz.prog tab q1F ([.agg [q9 c.at_,q9 c.list_,q9 c.by_],.agg [q9 f.at_,q9 f.list_,q9 f.by_]] ++ q1C) (q9 r)) (b : List ql) (r : List ql) (a : q6g g b = some r) : K0 Tryz.prog tab 162 [.hs 0 3 0 b.length,.d (.fn q1F q1C)] [(0,.dat 3 (b.map Qh))] 1 (.d (.tup [])) [(0,.dat 3 (r.map Qh))] 1:=by
 unfold q6g at a
 refine Kh Tryz.func162 J qh qh J<|qc<|O J<|G _ J<|qb J<|qa<|qt<|O J<|O J<|O J<|G _ J ?_
 obtain ⟨j,l,a⟩:=q6 a
 refine qz (qfb (IntKind.wrap .u64 (b.length : Int)) j l) J<|O J ?_
 obtain ⟨k,h,a⟩:=q6 a
 obtain ⟨o,m,a⟩:=q6 a
 have p:=Kd m
 obtain ⟨n,h⟩:=qf6 h
 refine K1 [(0,0)] [(0,0)] _ (.d (.tup [])) 1 [(0,.dat 3 (k.map Qh))] 1 (qyt n g q1F q1C q1Ok b 0 (b.length : Int) j k h)<|qr ?_
 obtain rfl:=qd a
 exact ⟨.inl J,_,J,wkA [] [] []⟩
theorem qyd (a : List ql) (r : List ql) (b : qcx  a = some r) : K0 Tryz.prog tab 164 [.hs 0 3 0 a.length] [(0,.dat 3 (a.map Qh))] 1 (.fn 173 [.ref 1 1 0 0]) [(0,.dat 3 (r.map Qh)),(1,.cel 1 [[.hs 0 3 0 r.length]])] 2:=by
 unfold qcx at b
 refine Kh Tryz.func164 J qh qh J<|qc<|Qj _ _ J<|qb J<|qp<|G _ J<|qb J<|qo ?_
 obtain rfl:=qd b
 exact ⟨.inr J,_,J,wkA [(1,1)] [] []⟩
theorem q11q (a : List (List qj)) (r : List (List qj) × List ql) (b : qak  a = some r) : K0 Tryz.prog tab 145 [.hs 0 1 0 a.length] [(0,.dat 1 (a.map Uy))] 1 (.fn 173 [.ref 1 1 0 0]) [(0,.dat 1 (r.1.map Uy)),(1,.cel 1 [[.hs 2 3 0 r.2.length]]),(2,.dat 3 (r.2.map Qh))] 3:=by
 unfold qak at b
 refine Kh Tryz.func145 J qh qh J<|qc<|qb J<|qp<|qb J<|qa<|qf<|qc<|O J<|G _ J<|O J<|qa ?_
 obtain ⟨s,u,b⟩:=q6 b
 refine Qc (fun h=>h = s) (fun h=>⟨[(3,.hs 1 3 0 h.length)],[(0,.dat 1 (a.map Uy)),(1,.dat 3 (h.map Qh))],2⟩) qe ?_ ?_
 ·refine Q5 (Ut a) (fun f=>⟨[(3,.hs 1 3 0 f.2.length),(8,.hs 0 1 0 a.length),(9,q7 (a.length : Int)),(10,q7 f.1)],[(0,.dat 1 (a.map Uy)),(1,.dat 3 (f.2.map Qh))],2⟩) (0,[]) s u (wkA [] [] [1]) ?_
  intro f af g
  unfold Ut at g
  refine qc<|G _ J<|qa<|qf ?_
  refine qm J g (fun _ g=>?_) (fun _ g=>?_)
  ·refine qk<|qf ?_
   obtain ⟨v,j,g⟩:=q6 g
   refine Qc (fun k=>k = v) (fun k=>⟨[(3,.hs 1 3 0 k.length),(8,.hs 0 1 0 a.length),(9,q7 (a.length : Int)),(10,q7 f.1)],[(0,.dat 1 (a.map Uy)),(1,.dat 3 (k.map Qh))],2⟩) qe ?_ ?_
   ·refine qc<|O J ?_
    obtain ⟨n,t,j⟩:=q6 j
    refine qv t J J<|Q4 _ t J<|qb J<|qb J<|qp<|O J<|Qa J<|O J<|qa ?_
    obtain ⟨w,x,j⟩:=q6 j
    refine qx<|Q5 (q4c n f) (fun m=>⟨[(3,.hs 1 3 0 m.2.length),(4,q7 f.1),(8,.hs 0 1 0 a.length),(9,q7 (a.length : Int)),(10,q7 f.1),(15,.d (.sl 2 (n.map Q8))),(16,q7 (n.length : Int)),(17,q7 m.1)],[(0,.dat 1 (a.map Uy)),(1,.dat 3 (m.2.map Qh))],2⟩) (0,f.2) w x (wkA [(1,1)] [] []) ?_
    intro m ag c
    unfold q4c at c
    refine qc<|G _ J<|qa<|qf ?_
    refine qm J c (fun _ c=>?_) (fun _ c=>?_)
    ·refine qk<|qf<|qx<|qc ?_
     obtain ⟨ah,y,c⟩:=q6 c
     refine Q1 y J<|G _ J<|Qv J J<|Qd 2 _ J<|qa<|qt<|O J<|G _ J<|G _ J<|O J<|G _ J<|G _ J<|G _ J<|O J<|G _ J<|Qj _ _ J ?_
     obtain ⟨ai,z,c⟩:=q6 c
     refine Kn _ z J J J J J J J (Km J J) J J J J<|qb J<|qr<|Qg<|qt<|G _ J<|O J<|qr ?_
     exact ⟨_,(Option.some.inj c).symm,wkA [(1,4)] [] []⟩
    refine Q3 ?_
    refine ⟨_,(Option.some.inj c).symm,fun hm=>?_⟩
    subst hm
    obtain rfl:=qd j
    exact ⟨_,J,wkA [(1,1)] [] []⟩
   intro k hb
   subst hb
   refine qt<|G _ J<|O J<|qr ?_
   exact ⟨_,(Option.some.inj g).symm,wkA [(1,1)] [] []⟩
  refine Q3 ?_
  refine ⟨_,(Option.some.inj g).symm,fun hm=>?_⟩
  subst hm
  exact ⟨_,J,wkA [(1,1)] [] []⟩
 intro h hb
 subst hb
 refine qc<|O J ?_
 obtain ⟨o,aa,b⟩:=q6 b
 obtain ⟨aj,ab,b⟩:=q6 b
 have ac:=Kd ab
 refine K1 [(0,1)] [(0,1),(1,0)] _ (.d (.tup [])) 1 [(1,.dat 3 (o.map Qh)),(0,.dat 1 (a.map Uy))] 2 (qyc (fun p q=>qaj p q) 163 [] (fun p q r hr=>q11p p q r hr) h o aa)<|qp<|O J ?_
 obtain ⟨l,ad,b⟩:=q6 b
 obtain ⟨ak,ae,b⟩:=q6 b
 have al:=Kd ae
 refine Jq [(0,1)] [(0,2),(1,0),(2,1)] [.hs 1 3 0 h.length] (.fn 173 [.ref 2 1 0 0]) [(1,.dat 3 (l.map Qh)),(2,.cel 1 [[.hs 1 3 0 l.length]])] [(1,.dat 3 (l.map Qh)),(2,.cel 1 [[.hs 1 3 0 l.length]]),(0,.dat 1 (a.map Uy))] 3 (qyd o l ad) J J J (Y9 [(0,1)] [] [] J ⟨⟨_,J,Qy (by simp [ac]) J qs (ltd J)⟩,trivial⟩ ⟨Qk J J,trivial⟩) (Y9 [(0,2),(1,0),(2,1)] [] [] J ⟨⟨_,J,(q1u (.cons (.ref J qs (ltd J)) .nil))⟩,trivial⟩ ⟨Qk J J,⟨ltd J,.inr ⟨qs,_,J,J9 (.cons (.hs J qs (ltd J)) J .nil)⟩⟩,trivial⟩) J ⟨.inl J,.inl J,.inr ⟨J,J⟩,trivial⟩<|qb J<|qo ?_
 obtain rfl:=qd b
 exact ⟨.inr J,_,J,wkA [(1,2),(2,1)] [] []⟩
theorem q11r (f : Int) (h : Bool) (j : Int) (g : List qj) (r : Bool × Int × List qj) (a : qal  f h j g = some r) : K0 Tryz.prog tab 144 [q7 f,.ref 0 1 0 0,.ref 1 1 0 0,.ref 2 1 0 0] [(0,.dat 1 [[.bool h]]),(1,.dat 1 [[q9 j]]),(2,.cel 1 [[.hs 3 2 0 g.length]]),(3,.dat 2 (g.map Q8))] 4 (.d (.tup [])) [(0,.dat 1 [[.bool r.1]]),(1,.dat 1 [[q9 r.2.1]]),(2,.cel 1 [[.hs 4 2 0 r.2.2.length]]),(4,.dat 2 (r.2.2.map Q8))] 5:=by
 unfold qal at a
 refine Kh Tryz.func144 J qh qh J<|qf<|qc<|G _ J<|G _ J ?_
 obtain ⟨aa,c,a⟩:=q6 a
 refine Q2 5 (fun A st=>∃ k l m n,st = A [(12,qu aa),(11,n),(10,m),(9,l),(8,k)]) ?_ ?_
 ·refine Q0 J J c (fun c=>?_) (fun c=>?_)
  ·refine q8 J<|q8 J<|q8 J<|G _ J<|qa ?_
   obtain rfl:=qd c
   exact ⟨_,_,_,_,J⟩
  refine G _ J<|O J<|G _ J<|G _ J<|qa ?_
  obtain rfl:=qd c
  exact ⟨_,_,_,_,J⟩
 rintro _ ⟨k,l,m,n,rfl⟩
 refine qa ?_
 refine qm J a (fun _ a=>?_) (fun _ a=>?_)
 ·refine Uq ?_
  obtain rfl:=qd a
  exact ⟨.inr J,_,J,wkA [(4,3)] [] []⟩
 refine qk<|qc<|G _ J<|G _ J<|qb J<|qa<|qf<|Q9 [U,U,qq 1,qq 3,U,U,U,U,qq 2,U,U,U] qh<|O J<|G _ J ?_
 obtain ⟨ab,b,a⟩:=q6 a
 refine Q2 10 (fun A st=>∃ o p q s t u v w x,st = A [(26,qu ab),(25,x),(24,w),(23,v),(22,u),(21,t),(20,s),(19,q),(18,p),(17,o)]) ?_ ?_
 ·refine Q0 J J b (fun b=>?_) (fun b=>?_)
  ·refine G _ J<|O J<|G _ J ?_
   obtain ⟨ae,y,b⟩:=q6 b
   refine qv y J J<|G _ J<|Q4 _ y J<|G _ J<|G _ J<|G _ J<|qa ?_
   obtain rfl:=qd b
   exact ⟨_,_,_,_,_,_,_,_,_,J⟩
  refine q8 J<|q8 J<|q8 J<|q8 J<|q8 J<|q8 J<|q8 J<|q8 J<|G _ J<|qa ?_
  obtain rfl:=qd b
  exact ⟨_,_,_,_,_,_,_,_,_,J⟩
 rintro _ ⟨o,p,q,s,t,u,v,w,x,rfl⟩
 refine qa ?_
 refine qm J a (fun _ a=>?_) (fun _ a=>?_)
 ·refine qt<|G _ J<|O J<|G _ J<|O J ?_
  obtain ⟨ac,z,a⟩:=q6 a
  refine qv z J J<|G _ J<|Qw (ds:=[q9 f]) ({Lo:=ac.Lo,Hi:=f} : qj) z J J J J J J J J (leb J) J<|qr ?_
  obtain rfl:=qd a
  exact ⟨.inl J,_,J,wkE [(4,3)] [] [] J ⟨qn J,trivial⟩ ⟨Qk J J,Qk J J,⟨ltd J,.inr ⟨qs,_,J,J9 (.cons (Qy qe J qs (ltd J)) J .nil)⟩⟩,Qk J J,trivial⟩⟩
 refine qt<|G _ J<|G _ J<|O J<|G _ J<|Qj _ _ J ?_
 obtain ⟨af,ad,a⟩:=q6 a
 refine Kn _ ad J J J J J J J (Km J J) J J J J<|Qd 2 _ J<|qr ?_
 obtain rfl:=qd a
 exact ⟨.inl J,_,J,wkA [(4,5)] [] []⟩
theorem qnh (m : List qj) (n : List qj) (o : Bool→Bool→Option Bool) (p2F : FuncId) (p2C : List DV) (p2Ok : ∀ (q : Bool) (s : Bool) (r : Bool),o q s = some r→Pure Tryz.prog tab p2F ([.bool q,.bool s] ++ p2C) (.bool r)) (r : List qj) (h : q2y m n o = some r) : Pure Tryz.prog tab 132 [.sl 2 (m.map Q8),.sl 2 (n.map Q8),.fn p2F p2C] (.sl 2 (r.map Q8)):=by
 unfold q2y at h
 refine Qf Tryz.func132 J qh qh J<|qc<|Qj _ _ J<|qb J<|qp<|Qv J J<|qp<|Qv J J<|qp<|Qv J J<|Qv J J<|Qd 3 _ J<|Qd 4 _ J<|qp<|G _ J<|Qv J J<|Qd 5 _ J<|qa<|qf<|qc<|O J<|O J<|Qj _ _ J ?_
 obtain ⟨a,h2,h⟩:=q6 h
 obtain ⟨u3,h4,h⟩:=q6 h
 have h5:=Kd h4
 refine K1 [(0,6)] [(0,3),(1,3),(2,3),(3,3),(4,3),(5,3),(6,0),(7,1),(8,2)] _ (.fn 173 [.ref 7 1 0 0]) 3 [(6,.dat 1 (a.1.map Uy)),(7,.cel 1 [[.hs 8 3 0 a.2.length]]),(8,.dat 3 (a.2.map Qh)),(0,.dat 1 [[.fn p2F p2C]]),(1,.dat 2 [[0,0].flatMap (eI .i64)]),(2,.dat 1 [[.nilsl]]),(3,.dat 1 [[q9 0]]),(4,.dat 1 [[.bool false]]),(5,.cel 1 [[.fn 144 [.ref 4 1 0 0,.ref 3 1 0 0,.ref 2 1 0 0]]])] 9 (q11q [m,n] a h2)<|qa<|qx ?_
 obtain ⟨ad,p,h⟩:=q6 h
 refine q69 (fun k=>k = ad) (fun k=>⟨[(8,.ref 0 1 0 0)],[(0,.cel 1 [[.hs 1 2 0 k.length]]),(1,.dat 2 (k.map Q8))],2⟩) ?_ ?_
 ·refine Y2 (st':=⟨[(5,.ref 0 1 0 0),(6,.d (.nilsl)),(7,.ref 1 2 0 0),(8,.ref 2 1 0 0),(9,.ref 3 1 0 0),(10,.ref 4 1 0 0),(11,.ref 5 1 0 0),(17,.fn 173 [.ref 6 1 0 0])],[(0,.dat 1 [[.fn p2F p2C]]),(1,.dat 2 [[0,0].flatMap (eI .i64)]),(2,.dat 1 [[.nilsl]]),(3,.dat 1 [[q9 0]]),(4,.dat 1 [[.bool false]]),(5,.cel 1 [[.fn 144 [.ref 4 1 0 0,.ref 3 1 0 0,.ref 2 1 0 0]]]),(6,.cel 1 [[.hs 7 3 0 a.2.length]]),(7,.dat 3 (a.2.map Qh))],8⟩) (wkA [(0,0),(1,1),(2,2),(3,3),(4,4),(5,5),(6,7),(7,8)] [] []) ?_ qe
  refine q6a _ (.inl J) Tryz.func173 J qh qh J ?_
  intro A154 B155 hA154 hB155
  refine qc<|G _ J<|G _ J<|O J<|qa ?_
  obtain ⟨ae,af,p⟩:=q6 p
  refine qx<|Q5 (q4d a o) (fun c=>⟨[(0,.yld 8),(5,.hs 7 3 0 a.2.length),(6,q7 (a.2.length : Int)),(7,q7 c.1)],[(0,.dat 1 [[.fn p2F p2C]]),(1,.dat 2 [c.2.1.flatMap (eI .i64)]),(2,.cel 1 [[.hs 9 2 0 c.2.2.2.2.length]]),(3,.dat 1 [[q9 c.2.2.1]]),(4,.dat 1 [[.bool c.2.2.2.1]]),(5,.cel 1 [[.fn 144 [.ref 4 1 0 0,.ref 3 1 0 0,.ref 2 1 0 0]]]),(6,.cel 1 [[.hs 7 3 0 a.2.length]]),(7,.dat 3 (a.2.map Qh)),(8,.loop [(5,.ref 0 1 0 0),(6,.d (.nilsl)),(7,.ref 1 2 0 0),(8,.ref 2 1 0 0),(9,.ref 3 1 0 0),(10,.ref 4 1 0 0),(11,.ref 5 1 0 0),(17,.fn 173 [.ref 6 1 0 0])] [18] A154 B155 .ready none),(9,.dat 2 (c.2.2.2.2.map Q8))],10⟩) (0,[0,0],0,false,[]) ae af (wkA [] [] [9]) ?_
  intro c am f
  unfold q4d at f
  refine qc<|G _ J<|qa<|qf ?_
  refine qm J f (fun _ f=>?_) (fun _ f=>?_)
  ·refine qk<|qf<|qx<|qc ?_
   obtain ⟨g,t,f⟩:=q6 f
   refine qv t J J<|Q4 _ t J<|Qv J J<|Qd 10 _ J<|qp<|O J<|G _ J ?_
   obtain ⟨ag,b,f⟩:=q6 f
   refine q5g (fun j=>j = ag) (fun (j : List Int × Bool × List qj)=>⟨[(0,.yld 8),(5,.hs 7 3 0 a.2.length),(6,q7 (a.2.length : Int)),(7,q7 c.1),(13,qu true)],[(0,.dat 1 [[.fn p2F p2C]]),(1,.dat 2 [j.1.flatMap (eI .i64)]),(2,.cel 1 [[.hs 9 2 0 j.2.2.length]]),(3,.dat 1 [[q9 g.at_]]),(4,.dat 1 [[.bool j.2.1]]),(5,.cel 1 [[.fn 144 [.ref 4 1 0 0,.ref 3 1 0 0,.ref 2 1 0 0]]]),(6,.cel 1 [[.hs 7 3 0 a.2.length]]),(7,.dat 3 (a.2.map Qh)),(8,.loop [(5,.ref 0 1 0 0),(6,.d (.nilsl)),(7,.ref 1 2 0 0),(8,.ref 2 1 0 0),(9,.ref 3 1 0 0),(10,.ref 4 1 0 0),(11,.ref 5 1 0 0),(17,.fn 173 [.ref 6 1 0 0])] [18] A154 B155 .ready none),(9,.dat 2 (j.2.2.map Q8))],10⟩) hA154 hB155 J J J J J J ?_ ?_
   ·refine qt<|Qv J J<|Qd 11 _ J<|qr ?_
    refine ⟨J,_,J,?_⟩
    refine qx<|qc<|G _ J<|G _ J<|G _ J ?_
    obtain ⟨l,ah,b⟩:=q6 b
    refine K1 [(0,4),(1,3),(2,2),(3,9)] [(0,5),(1,5),(2,2),(3,1),(4,0),(5,5),(6,5),(7,5),(8,5),(9,3),(10,5),(11,5),(12,4)] _ (.d (.tup [])) 4 [(2,.cel 1 [[.hs 12 2 0 l.2.2.length]]),(3,.dat 1 [[q9 l.2.1]]),(4,.dat 1 [[.bool l.1]]),(12,.dat 2 (l.2.2.map Q8)),(0,.dat 1 [[.fn p2F p2C]]),(1,.dat 2 [c.2.1.flatMap (eI .i64)]),(5,.cel 1 [[.fn 144 [.ref 4 1 0 0,.ref 3 1 0 0,.ref 2 1 0 0]]]),(6,.cel 1 [[.hs 7 3 0 a.2.length]]),(7,.dat 3 (a.2.map Qh)),(8,.loop [(5,.ref 0 1 0 0),(6,.d (.nilsl)),(7,.ref 1 2 0 0),(8,.ref 2 1 0 0),(9,.ref 3 1 0 0),(10,.ref 4 1 0 0),(11,.ref 5 1 0 0),(17,.fn 173 [.ref 6 1 0 0])] [18] A154 B155 .busy none),(10,.dat 3 [[q9 g.at_,q9 g.list_,q9 g.by_]]),(11,.dat 3 [[q9 g.at_,q9 g.list_,q9 g.by_]])] 13 (q11r g.at_ c.2.2.2.1 c.2.2.1 c.2.2.2.2 l ah)<|qa<|qf<|Q9 [Qm 1,U,U,qq 11,U,qq 1,U,qq 11,U] qh<|G _ J<|G _ J ?_
    obtain ⟨u,v,b⟩:=q6 b
    refine qc3 v J J J J J<|qfp (enc:=(eI .i64)) (q7 u) v (fun _=>rfl) J J J J J J<|G _ J<|G _ J<|G _ J ?_
    obtain ⟨an,w,b⟩:=q6 b
    refine qc3 w J J J J J<|qtq (enc:=(eI .i64)) (w64 (u + g.by_)) w (fun _=>rfl) J J J J J J J J<|qa<|Q9 [Qm 4,Qm 3,U,U,qq 1,U,U,qq 1,U,qq 0,qq 11,U] qh<|G _ J<|G _ J<|G _ J ?_
    obtain ⟨x,y,b⟩:=q6 b
    refine qc3 y J J J J J<|qfp (enc:=(eI .i64)) (q7 x) y (fun _=>rfl) J J J J J J<|G _ J ?_
    obtain ⟨z,aa,b⟩:=q6 b
    refine qc3 aa J J J J J<|qfp (enc:=(eI .i64)) (q7 z) aa (fun _=>rfl) J J J J J J<|G _ J ?_
    obtain ⟨ai,aj,b⟩:=q6 b
    refine Y7 _ (p2Ok (decide (x > 0)) (decide (z > 0)) ai aj) J J J (.inl J)<|Qd 3 _ J<|Qd 4 _ J<|qr<|Qg<|Q7 ?_
    refine ⟨_,J,?_⟩
    obtain rfl:=qd b
    exact ⟨_,J,wkA [(9,12)] [] []⟩
   intro j hb
   subst hb
   refine G _ J<|qa<|Z2 J<|qk<|Q7<|Qg<|qt<|G _ J<|O J<|qr ?_
   exact ⟨_,(Option.some.inj f).symm,wkA [(9,9)] [] []⟩
  refine Q3 ?_
  refine ⟨_,(Option.some.inj f).symm,fun hm=>?_⟩
  subst hm
  refine ⟨.inl J,_,J,_,_,.nor,J,qs,?_⟩
  refine q4p<|Q7 ?_
  obtain rfl:=qd p
  exact ⟨_,J,wkA [(0,2),(1,9)] [] []⟩
 intro k st hb hw
 subst hb
 refine Y2 hw ?_ qe
 refine qc<|G _ J<|qb J<|qo ?_
 obtain rfl:=qd h
 exact finD (.inr J) J (Z6 J J) (.refl _)
theorem q11j (a : Bool) (b : Bool) (r : Bool) (c : qai a b = some r) : Pure Tryz.prog tab 160 [.bool a,.bool b] (.bool r):=by
 unfold qai at c
 refine Qf Tryz.func160 J qh qh J<|qc<|qb J<|qp<|O J<|qb J<|qo ?_
 obtain rfl:=qd c
 exact qy _ J
theorem q11k (c : List qj) (r : List qj × Int) (a : q7k c = some r) : Pure Tryz.prog tab 140 [.sl 2 (c.map Q8)] (.tup [.sl 2 (r.1.map Q8),q9 r.2]):=by
 unfold q7k at a
 refine Qf Tryz.func140 J qh qh J<|qc<|qb J<|qb J<|qa<|qf<|qc<|O J<|Qa J<|G _ J<|qa ?_
 refine qm J a (fun _ a=>?_) (fun _ a=>?_)
 ·refine qc<|qb J<|qb J<|qo ?_
  obtain rfl:=qd a
  exact finD (.inr J) J J (Kz (.cons (.nil _) (.cons (.refl _) .nil)))
 refine qk<|qf<|qc<|O J ?_
 obtain ⟨f,g,a⟩:=q6 a
 refine qz (qy2 c (fun b=>qd5 b) 159 [] (fun b r hr=>q11i b r hr) f g) J<|qa ?_
 refine qm J a (fun _ a=>?_) (fun _ a=>?_)
 ·refine qc<|qb J<|qb J<|qo ?_
  obtain rfl:=qd a
  exact finD (.inr J) J J (Kz (.cons (.nil _) (.cons (.refl _) .nil)))
 refine qk<|qc<|O J ?_
 obtain ⟨h,j,a⟩:=q6 a
 refine qz (q3j (.cons (.refl _) (.cons (.nil _) (.cons (.refl _) .nil))) (qnh c [] (fun b d=>qai b d) 160 [] (fun b d r hr=>q11j b d r hr) h j)) J<|qb J<|qb J<|qo ?_
 obtain rfl:=qd a
 exact qy _ J
theorem qy4 (c : List qj) (f : List qj) (r : Bool) (b : q9h c f = some r) : Pure Tryz.prog tab 130 [.sl 2 (c.map Q8),.sl 2 (f.map Q8)] (.bool r):=by
 unfold q9h at b
 refine Qf Tryz.func130 J qh qh J<|qc<|qb J<|qa<|qf<|qc<|O J<|Qa J<|O J<|Qa J<|G _ J<|qa ?_
 refine qm J b (fun _ b=>?_) (fun _ b=>?_)
 ·refine qc<|qb J<|qo ?_
  obtain rfl:=qd b
  exact qy _ J
 refine qk<|qf<|qc<|O J<|Qa J<|O J<|qa ?_
 obtain ⟨h,k,b⟩:=q6 b
 refine Qc (fun g=>.inl g = h) (fun g=>⟨[],[],0⟩) qe ?_ ?_
 ·refine Q5 (qcq c f) (fun j=>⟨[(0,.d (.sl 2 (c.map Q8))),(1,.d (.sl 2 (f.map Q8))),(12,q7 (c.length : Int)),(13,q7 j)],[],0⟩) 0 h k (wkA [] [] []) ?_
  intro j n a
  unfold qcq at a
  refine qc<|G _ J<|qa<|qf ?_
  refine qm J a (fun _ a=>?_) (fun _ a=>?_)
  ·refine qk<|qf<|qx<|qc<|O J<|qb J<|qa<|qf<|Q9 [U,U,U,U,U,U,U,U,U] qh<|O J<|O J ?_
   obtain ⟨o,l,a⟩:=q6 a
   refine Q1 l J<|G _ J<|O J<|O J ?_
   obtain ⟨p,m,a⟩:=q6 a
   refine Q1 m J<|G _ J<|G _ J<|qa ?_
   refine qm J a (fun _ a=>?_) (fun _ a=>?_)
   ·refine qc<|qb J<|qo ?_
    refine ⟨_,(Option.some.inj a).symm,fun hm=>?_⟩
    subst hm
    obtain rfl:=qd b
    exact qy _ J
   refine qk<|Q7<|Qg<|qt<|G _ J<|O J<|qr ?_
   exact ⟨_,(Option.some.inj a).symm,wkA [] [] []⟩
  refine Q3 ?_
  refine ⟨_,(Option.some.inj a).symm,fun hm=>?_⟩
  subst hm
  exact ⟨_,J,wkA [] [] []⟩
 intro g hb
 subst hb
 refine qc<|qb J<|qo ?_
 obtain rfl:=qd b
 exact qy _ J
theorem qlw (g : List qi) (k : List qj) (l : Int) (o : Int) (p : Int) (b : Int) (h : List qj) (r : List qj × Int × Int × List qi) (a : q61  g k l o p b h = some r) : K0 Tryz.prog tab 110 [.ref 0 4 0 0,q7 p,q7 b,.d (.sl 2 (h.map Q8))] [(0,.cel 4 [[.hs 1 4 0 g.length,.d (.sl 2 (k.map Q8)),q7 l,q7 o]]),(1,.dat 4 (g.map qw))] 2 (.d (.tup [])) [(0,.cel 4 [[.hs 2 4 0 r.2.2.2.length,.d (.sl 2 (r.1.map Q8)),q7 r.2.1,q7 r.2.2.1]]),(2,.dat 4 (r.2.2.2.map qw))] 3:=by
 unfold q61 at a
 refine Kh Tryz.func110 J qh qh J<|qf<|qc<|O J<|Qa J<|G _ J ?_
 obtain ⟨ak,m,a⟩:=q6 a
 refine Q2 8 (fun A st=>∃ u v w x y z aa,st = A [(21,qu ak),(20,aa),(19,z),(18,y),(17,x),(16,w),(15,v),(14,u)]) ?_ ?_
 ·refine Q0 J J m (fun m=>?_) (fun m=>?_)
  ·refine O J<|G _ J<|G _ J<|G _ J<|O J<|G _ J<|G _ J<|qa ?_
   obtain rfl:=qd m
   exact ⟨_,_,_,_,_,_,_,J⟩
  refine q8 J<|q8 J<|q8 J<|q8 J<|q8 J<|q8 J<|G _ J<|qa ?_
  obtain rfl:=qd m
  exact ⟨_,_,_,_,_,_,_,J⟩
 rintro _ ⟨u,v,w,x,y,z,aa,rfl⟩
 obtain ⟨al,j,a⟩:=q6 a
 refine Q2 8 (fun A st=>∃ ab ac ad ae af ag ah,st = A [(29,qu al),(28,ah),(27,ag),(26,af),(25,ae),(24,ad),(23,ac),(22,ab)]) ?_ ?_
 ·refine Q0 J J j (fun j=>?_) (fun j=>?_)
  ·refine O J<|G _ J<|G _ J<|G _ J<|O J ?_
   obtain ⟨am,an,j⟩:=q6 j
   refine qz (qy4 k h am an) J<|G _ J<|qa ?_
   obtain rfl:=qd j
   exact ⟨_,_,_,_,_,_,_,J⟩
  refine q8 J<|q8 J<|q8 J<|q8 J<|q8 J<|q8 J<|G _ J<|qa ?_
  obtain rfl:=qd j
  exact ⟨_,_,_,_,_,_,_,J⟩
 rintro _ ⟨ab,ac,ad,ae,af,ag,ah,rfl⟩
 refine qa ?_
 refine qm J a (fun _ a=>?_) (fun _ a=>?_)
 ·refine qf<|qc<|O J<|G _ J<|G _ J<|G _ J<|qb J<|qa ?_
  obtain ⟨ai,ao,a⟩:=q6 a
  refine Qc (fun n=>n = ai) (fun n=>⟨[(0,.ref 0 4 0 0),(2,q7 b)],[(0,.cel 4 [[.hs 1 4 0 n.length,.d (.sl 2 (k.map Q8)),q7 l,q7 o]]),(1,.dat 4 (n.map qw))],2⟩) qe ?_ ?_
  ·refine Q5 (q62 b) (fun q=>⟨[(0,.ref 0 4 0 0),(2,q7 b),(8,q7 q.1)],[(0,.cel 4 [[.hs 1 4 0 q.2.length,.d (.sl 2 (k.map Q8)),q7 l,q7 o]]),(1,.dat 4 (q.2.map qw))],2⟩) (l,g) ai ao (wkA [] [] []) ?_
   intro q av f
   unfold q62 at f
   refine qf<|qc<|O J<|O J<|G _ J<|G _ J<|G _ J<|G _ J<|G _ J<|qa ?_
   refine qm J f (fun _ f=>?_) (fun _ f=>?_)
   ·refine qk<|qf<|qx<|qt<|O J<|G _ J<|G _ J<|G _ J<|O J<|O J ?_
    obtain ⟨t,aj,f⟩:=q6 f
    refine qv aj J J<|G _ J<|Qw (ds:=[q9 b]) ({X0:=t.X0,Y0:=t.Y0,X1:=b,Y1:=t.Y1} : qi) aj J J J J J J J J (leb J) J<|qr<|Qg<|qt<|O J<|G _ J<|qb J<|qr ?_
    exact ⟨_,(Option.some.inj f).symm,wkE [] [] [] J ⟨⟨_,J,.ref J qs (ltd J)⟩,qn J,qn J,trivial⟩ ⟨⟨ltd J,.inr ⟨qs,_,J,J9 (.cons (Qy qe J qs (ltd J)) J (.cons (.d (.refl _)) J (.cons (.d (.refl _)) J (.cons (.d (.refl _)) J .nil))))⟩⟩,Qk J J,trivial⟩⟩
   refine Q3 ?_
   refine ⟨_,(Option.some.inj f).symm,fun hm=>?_⟩
   subst hm
   exact ⟨_,J,wkA [] [] []⟩
  intro n hb
  subst hb
  refine qc<|O J<|O J<|G _ J<|G _ J<|Qd 0 _ J<|qo ?_
  obtain rfl:=qd a
  exact ⟨.inr J,_,J,wkA [(2,1)] [] []⟩
 refine qk<|qc<|O J<|O J<|O J<|O J<|G _ J<|G _ J<|G _ J<|G _ J<|O J<|O J<|G _ J<|G _ J<|Qd 0 _ J<|G _ J<|G _ J<|Qd 0 _ J<|G _ J<|G _ J<|Qd 0 _ J<|qp<|O J<|Qa J<|O J<|qa ?_
 obtain ⟨ap,aq,a⟩:=q6 a
 refine qx<|Q5 (q63 h p b g) (fun s=>⟨[(0,.ref 0 4 0 0),(1,q7 p),(2,q7 b),(71,.d (.sl 2 (h.map Q8))),(72,q7 (h.length : Int)),(73,q7 s.1)],[(0,.cel 4 [[.hs 2 4 0 s.2.length,.d (.sl 2 (h.map Q8)),q7 (g.length : Int),q7 b]]),(2,.dat 4 (s.2.map qw))],3⟩) (0,g) ap aq (wkA [(2,1)] [] []) ?_
 intro s aw c
 unfold q63 at c
 refine qc<|G _ J<|qa<|qf ?_
 refine qm J c (fun _ c=>?_) (fun _ c=>?_)
 ·refine qk<|qf<|qx<|qc ?_
  obtain ⟨ax,ar,c⟩:=q6 c
  refine Q1 ar J<|G _ J<|Qv J J<|Qd 3 _ J<|qa<|Q9 [Qm 0,U,U,(some [2,4],[2,5]),(some [],[4]),U,qq 3,U,U,qq 3,U,U,qq 0,U,U,U,U] qh<|O J<|O J<|G _ J<|G _ J<|G _ J<|O J<|G _ J<|G _ J<|O J<|G _ J<|G _ J<|G _ J<|Qj _ _ J ?_
  obtain ⟨ay,au,c⟩:=q6 c
  refine Kn _ au J J J J J J J (Km J J) J J J J<|G _ J<|G _ J<|Qd 0 _ J<|qr<|Qg<|qt<|G _ J<|O J<|qr ?_
  exact ⟨_,(Option.some.inj c).symm,wkA [(2,5)] [] []⟩
 refine Q3 ?_
 refine ⟨_,(Option.some.inj c).symm,fun hm=>?_⟩
 subst hm
 obtain rfl:=qd a
 exact ⟨.inl J,_,J,wkA [(2,2)] [] []⟩
theorem qlz (a : List qi) (r : List qi × Int) (u : q65 a = some r) : Pure Tryz.prog tab 126 [.sl 4 (a.map qw)] (.tup [.sl 4 (r.1.map qw),q9 r.2]):=by
 unfold q65 at u
 refine Qf Tryz.func126 J qh qh J<|qc<|qb J<|qb J<|qp<|Qv J J<|qa<|qf<|qc<|O J<|Qj (.hs 1 1 0 [a].length) (.dat 1 ([a].map Kf)) J ?_
 obtain ⟨aw,l,u⟩:=q6 u
 refine q3g [.hs 1 1 0 [a].length] (fun h=>h = aw) (fun (h : List Int)=>⟨[(2,.d (.nilsl)),(3,q7 0),(4,.ref 0 4 0 0),(10,.fn 157 [.ref 1 1 0 0,.ref 2 1 0 0])],[(0,.dat 4 [[.nilsl,.nilsl,q9 0,q9 0]]),(1,.cel 1 [[.d (.sl 1 (h.map (eI .i64)))]]),(2,.cel 1 [[.hs 3 1 0 [a].length]]),(3,.dat 1 ([a].map Kf))],4⟩) J J Tryz.func139 J qh qh J ?_ ?_
 ·refine qc<|Qj (.ref 2 1 0 0) (.cel 1 [[.hs 1 1 0 [a].length]]) J<|qb J<|qp<|Qv J J<|qa<|qf<|qc<|G (.hs 1 1 0 [a].length) J<|G (q7 1) J<|O J<|qa<|qx<|Yg<|qc<|G (qu true) J<|qa<|qf<|Z4 J<|qk<|qf ?_
  obtain ⟨ax,ac,l⟩:=q6 l
  refine Qc (fun m=>m = ax) (fun (m : List Int)=>⟨[(1,.ref 2 1 0 0),(3,.ref 3 1 0 0),(8,.hs 1 1 0 [a].length),(9,q7 1),(10,q7 0)],[(0,.dat 4 [[.nilsl,.nilsl,q9 0,q9 0]]),(1,.dat 1 ([a].map Kf)),(2,.cel 1 [[.hs 1 1 0 [a].length]]),(3,.cel 1 [[.hs 4 1 0 m.length]]),(4,.dat 1 (m.map (eI .i64)))],5⟩) qe ?_ ?_
  ·refine qc ?_
   obtain ⟨ad,am,ac⟩:=q6 ac
   refine qv am J J<|Q4 (.d (.sl 4 (ad.map qw))) am J<|qb J<|qp<|O J<|Qa J<|O J<|qa ?_
   obtain ⟨ay,az,ac⟩:=q6 ac
   refine qx<|Q5 (Zu ad) (fun (w : Int × List Int)=>⟨[(1,.ref 2 1 0 0),(3,.ref 3 1 0 0),(8,.hs 1 1 0 [a].length),(9,q7 1),(10,q7 0),(14,.d (.sl 4 (ad.map qw))),(15,q7 (ad.length : Int)),(16,q7 w.1)],[(0,.dat 4 [[.nilsl,.nilsl,q9 0,q9 0]]),(1,.dat 1 ([a].map Kf)),(2,.cel 1 [[.hs 1 1 0 [a].length]]),(3,.cel 1 [[.hs 4 1 0 w.2.length]]),(4,.dat 1 (w.2.map (eI .i64)))],5⟩) (0,[]) ay az (wkA [(2,2),(3,3)] [] [4]) ?_
   intro w cd p
   unfold Zu at p
   refine qc<|G (.d (.bool (decide (w.1 < (ad.length : Int))))) J<|qa<|qf ?_
   refine qm J p (fun _ p=>?_) (fun _ p=>?_)
   ·refine qk<|qf<|qx<|qc ?_
    obtain ⟨g,ba,p⟩:=q6 p
    refine Q1 (enc:=qw) ba J<|G (.d (.agg [q9 g.X0,q9 g.Y0,q9 g.X1,q9 g.Y1])) J<|Qv J J<|Qd 5 (.dat 4 [[q9 g.X0,q9 g.Y0,q9 g.X1,q9 g.Y1]]) J<|qa<|qt<|G (.hs 4 1 0 w.2.length) J<|G (.ref 5 4 0 0) J<|G (q7 g.X0) J<|G (.ref 5 4 0 2) J<|G (q7 g.X1) J<|Qj (.hs 6 1 0 [g.X0,g.X1].length) (.dat 1 ([g.X0,g.X1].map (eI .i64))) J ?_
    obtain ⟨bb,bc,p⟩:=q6 p
    refine Kn (xs:=w.2) (ys:=[g.X0,g.X1]) (enc:=(eI .i64)) (.hs 6 1 0 [g.X0,g.X1].length) bc J J J J J J J (Km J J) J J J J<|Qd 3 (.cel 1 [[.hs 7 1 0 bb.length]]) J<|qr<|Qg<|qt<|G (.d (q9 (w64 (w.1 + 1)))) J<|O J<|qr ?_
    exact ⟨_,(Option.some.inj p).symm,wkA [(2,2),(3,3),(4,7)] [] []⟩
   refine Q3 ?_
   refine ⟨_,(Option.some.inj p).symm,fun hm=>?_⟩
   subst hm
   obtain rfl:=qd ac
   exact ⟨_,J,wkA [(2,2),(3,3),(4,4)] [] []⟩
  intro m hb
  subst hb
  refine qt<|G (q7 1) J<|O J<|qa<|Yg<|qc<|G (qu false) J<|qa<|qf<|Z2 J<|Q3<|Jk<|qc<|G (.hs 4 1 0 m.length) J ?_
  obtain ⟨ak,bd,l⟩:=q6 l
  obtain ⟨ce,be,l⟩:=q6 l
  have bf:=Kd be
  refine K1 [(0,4)] [(0,1),(1,1),(2,1),(3,1),(4,0)] [.hs 4 1 0 m.length] (.d (.tup [])) 1 [(4,.dat 1 (ak.map (eI .i64))),(0,.dat 4 [[.nilsl,.nilsl,q9 0,q9 0]]),(1,.dat 1 ([a].map Kf)),(2,.cel 1 [[.hs 1 1 0 [a].length]]),(3,.cel 1 [[.hs 4 1 0 m.length]])] 5 (qcw m ak bd)<|qp<|G (.hs 4 1 0 m.length) J ?_
  obtain ⟨z,bg,l⟩:=q6 l
  obtain ⟨cf,bh,l⟩:=q6 l
  have cg:=Kd bh
  obtain ⟨ch,bi,l⟩:=q6 l
  have bj:=qdd bi
  refine Jq [(0,4)] [(0,1),(1,1),(2,1),(3,1),(4,0)] [.hs 4 1 0 m.length] (.hs 4 1 z.1.1 z.1.2) [(4,.dat 1 (z.2.map (eI .i64)))] [(4,.dat 1 (z.2.map (eI .i64))),(0,.dat 4 [[.nilsl,.nilsl,q9 0,q9 0]]),(1,.dat 1 ([a].map Kf)),(2,.cel 1 [[.hs 1 1 0 [a].length]]),(3,.cel 1 [[.hs 4 1 0 m.length]])] 5 (qcn ak z bg) J J J (Y9 [(0,4)] [] [] J ⟨⟨_,J,Qy (by simp [bf]) J qs (ltd J)⟩,trivial⟩ ⟨Qk J J,trivial⟩) (Y9 [(0,1),(1,1),(2,1),(3,1),(4,0)] [] [] J ⟨⟨_,J,.hs J qs (ltd J)⟩,trivial⟩ ⟨Qk J J,trivial⟩) J ⟨.inl J,.inr ⟨J,J⟩,.inr ⟨J,J⟩,.inr ⟨J,J⟩,.inr ⟨J,J⟩,trivial⟩<|Qd 3 (.cel 1 [[.hs 4 1 z.1.1 z.1.2]]) J<|qp<|G (.fn 157 [.ref 3 1 0 0,.ref 2 1 0 0]) J<|qb J<|qo ?_
  refine ⟨.inr J,_,J,?_⟩
  obtain rfl:=qd l
  exact ⟨_,J,wkE [(0,0),(1,3),(2,2),(3,1)] [4] [] J ⟨qn J,qn J,⟨_,J,.ref J qs (ltd J)⟩,⟨_,J,(q1u (.cons (.ref J qs (ltd J)) (.cons (.ref J qs (ltd J)) .nil)))⟩,trivial⟩ ⟨Qk J J,⟨ltd J,.inr ⟨qs,_,J,J9 (.cons (qdf bj J qs) J .nil)⟩⟩,⟨ltd J,.inr ⟨qs,_,J,J9 (.cons (.hs J qs (ltd J)) J .nil)⟩⟩,Qk J J,trivial⟩⟩
 intro h hb
 subst hb
 refine qa<|qx ?_
 obtain ⟨bk,al,u⟩:=q6 u
 refine q69 (fun n=>n = bk) (fun (n : List qj × Int × Int × List qi)=>⟨[(4,.ref 0 4 0 0)],[(0,.cel 4 [[.hs 1 4 0 n.2.2.2.length,.d (.sl 2 (n.1.map Q8)),q7 n.2.1,q7 n.2.2.1]]),(1,.dat 4 (n.2.2.2.map qw))],2⟩) ?_ ?_
 ·refine Y2 (st':=⟨[(2,.d (.nilsl)),(3,q7 0),(4,.ref 0 4 0 0),(10,.fn 157 [.ref 1 1 0 0,.ref 2 1 0 0])],[(0,.dat 4 [[.nilsl,.nilsl,q9 0,q9 0]]),(1,.cel 1 [[.d (.sl 1 (h.map (eI .i64)))]]),(2,.cel 1 [[.hs 3 1 0 [a].length]]),(3,.dat 1 ([a].map Kf))],4⟩) (wkA [(0,0),(1,1),(2,2),(3,3)] [] []) ?_ qe
  refine q6a [.ref 1 1 0 0,.ref 2 1 0 0] (.inl J) Tryz.func157 J qh qh J ?_
  intro A847 B848 hA847 hB848
  refine qc<|qb J<|qa ?_
  obtain ⟨bl,bm,al⟩:=q6 al
  refine qx<|Q5 (q2o h a) (fun (b : Int × List qj × Int × Int × List qi)=>⟨[(0,.yld 4),(1,.ref 1 1 0 0),(2,.ref 2 1 0 0),(4,q7 b.1)],[(0,.cel 4 [[.hs 5 4 0 b.2.2.2.2.length,.d (.sl 2 (b.2.1.map Q8)),q7 b.2.2.1,q7 b.2.2.2.1]]),(1,.cel 1 [[.d (.sl 1 (h.map (eI .i64)))]]),(2,.cel 1 [[.hs 3 1 0 [a].length]]),(3,.dat 1 ([a].map Kf)),(4,.loop [(2,.d (.nilsl)),(3,q7 0),(4,.ref 0 4 0 0),(10,.fn 157 [.ref 1 1 0 0,.ref 2 1 0 0])] [11] A847 B848 .ready none),(5,.dat 4 (b.2.2.2.2.map qw))],6⟩) (1,[],0,0,[]) bl bm (wkA [] [] [5]) ?_
  intro b ci j
  unfold q2o at j
  refine qf<|qc<|O J<|G (.d (.sl 1 (h.map (eI .i64)))) J<|Qa J<|G (.d (.bool (decide (b.1 < (h.length : Int))))) J<|qa ?_
  refine qm J j (fun _ j=>?_) (fun _ j=>?_)
  ·refine qk<|qf<|qx<|qf<|Q9 [Qm 7,(some [],[7]),U,(some [],[6]),U,qq 2,U,U,U,qq 1,U,U,U,U,qq 1] qh<|G (.d (.sl 1 (h.map (eI .i64)))) J<|O J<|G (.d (q9 (w64 (b.1 - 1)))) J ?_
   obtain ⟨f,bn,j⟩:=q6 j
   refine Q1 (enc:=(eI .i64)) bn J<|G (q7 f) J<|G (.d (.sl 1 (h.map (eI .i64)))) J<|O J ?_
   obtain ⟨k,bo,j⟩:=q6 j
   refine Q1 (enc:=(eI .i64)) bo J<|G (q7 k) J<|G (.hs 3 1 0 [a].length) J<|G (q7 1) J<|Qj (.hs 6 1 0 1) (.dat 1 [[.nilsl]]) J<|G (.agg [q7 f,q7 k,.hs 6 1 0 1]) J<|Qv J J<|Qd 7 (.cel 3 [[q7 f,q7 k,.hs 6 1 0 1]]) J<|qa<|qf<|qc<|G (.hs 3 1 0 [a].length) J<|G (q7 1) J<|O J<|qa<|qx<|Yg<|qc<|G (qu true) J<|qa<|qf<|Z4 J<|qk<|qf ?_
   obtain ⟨bp,ae,j⟩:=q6 j
   refine Qc (fun s=>s = bp) (fun (s : List qj)=>⟨[(0,.yld 4),(1,.ref 1 1 0 0),(2,.ref 2 1 0 0),(4,q7 b.1),(5,.ref 5 3 0 0),(29,.hs 3 1 0 [a].length),(30,q7 1),(31,q7 0)],[(0,.cel 4 [[.hs 6 4 0 b.2.2.2.2.length,.d (.sl 2 (b.2.1.map Q8)),q7 b.2.2.1,q7 b.2.2.2.1]]),(1,.cel 1 [[.d (.sl 1 (h.map (eI .i64)))]]),(2,.cel 1 [[.hs 3 1 0 [a].length]]),(3,.dat 1 ([a].map Kf)),(4,.loop [(2,.d (.nilsl)),(3,q7 0),(4,.ref 0 4 0 0),(10,.fn 157 [.ref 1 1 0 0,.ref 2 1 0 0])] [11] A847 B848 .ready none),(5,.cel 3 [[q7 f,q7 k,.hs 7 1 0 1]]),(6,.dat 4 (b.2.2.2.2.map qw)),(7,.cel 1 [[.hs 8 2 0 s.length]]),(8,.dat 2 (s.map Q8))],9⟩) qe ?_ ?_
   ·refine qc<|O J ?_
    obtain ⟨aa,an,ae⟩:=q6 ae
    refine qv an J J<|Q4 (.d (.sl 4 (aa.map qw))) an J<|qb J<|qb J<|qp<|O J<|Qa J<|O J<|qa ?_
    obtain ⟨bq,br,ae⟩:=q6 ae
    refine qx<|Q5 (Ua aa f) (fun (t : Int × List qj)=>⟨[(0,.yld 4),(1,.ref 1 1 0 0),(2,.ref 2 1 0 0),(4,q7 b.1),(5,.ref 5 3 0 0),(6,q7 0),(29,.hs 3 1 0 [a].length),(30,q7 1),(31,q7 0),(36,.d (.sl 4 (aa.map qw))),(37,q7 (aa.length : Int)),(38,q7 t.1)],[(0,.cel 4 [[.hs 6 4 0 b.2.2.2.2.length,.d (.sl 2 (b.2.1.map Q8)),q7 b.2.2.1,q7 b.2.2.2.1]]),(1,.cel 1 [[.d (.sl 1 (h.map (eI .i64)))]]),(2,.cel 1 [[.hs 3 1 0 [a].length]]),(3,.dat 1 ([a].map Kf)),(4,.loop [(2,.d (.nilsl)),(3,q7 0),(4,.ref 0 4 0 0),(10,.fn 157 [.ref 1 1 0 0,.ref 2 1 0 0])] [11] A847 B848 .ready none),(5,.cel 3 [[q7 f,q7 k,.hs 7 1 0 1]]),(6,.dat 4 (b.2.2.2.2.map qw)),(7,.cel 1 [[.hs 8 2 0 t.2.length]]),(8,.dat 2 (t.2.map Q8))],9⟩) (0,[]) bq br (wkA [(5,7),(6,5),(7,6)] [] [8]) ?_
    intro t cj x
    unfold Ua at x
    refine qc<|G (.d (.bool (decide (t.1 < (aa.length : Int))))) J<|qa<|qf ?_
    refine qm J x (fun _ x=>?_) (fun _ x=>?_)
    ·refine qk<|qf ?_
     obtain ⟨bs,o,x⟩:=q6 x
     refine Qc (fun af=>af = bs) (fun (af : List qj)=>⟨[(0,.yld 4),(1,.ref 1 1 0 0),(2,.ref 2 1 0 0),(4,q7 b.1),(5,.ref 5 3 0 0),(6,q7 0),(29,.hs 3 1 0 [a].length),(30,q7 1),(31,q7 0),(36,.d (.sl 4 (aa.map qw))),(37,q7 (aa.length : Int)),(38,q7 t.1)],[(0,.cel 4 [[.hs 6 4 0 b.2.2.2.2.length,.d (.sl 2 (b.2.1.map Q8)),q7 b.2.2.1,q7 b.2.2.2.1]]),(1,.cel 1 [[.d (.sl 1 (h.map (eI .i64)))]]),(2,.cel 1 [[.hs 3 1 0 [a].length]]),(3,.dat 1 ([a].map Kf)),(4,.loop [(2,.d (.nilsl)),(3,q7 0),(4,.ref 0 4 0 0),(10,.fn 157 [.ref 1 1 0 0,.ref 2 1 0 0])] [11] A847 B848 .ready none),(5,.cel 3 [[q7 f,q7 k,.hs 7 1 0 1]]),(6,.dat 4 (b.2.2.2.2.map qw)),(7,.cel 1 [[.hs 8 2 0 af.length]]),(8,.dat 2 (af.map Q8))],9⟩) qe ?_ ?_
     ·refine qc ?_
      obtain ⟨c,bt,o⟩:=q6 o
      refine Q1 (enc:=qw) bt J<|G (.d (.agg [q9 c.X0,q9 c.Y0,q9 c.X1,q9 c.Y1])) J<|Qv J J<|Qd 9 (.dat 4 [[q9 c.X0,q9 c.Y0,q9 c.X1,q9 c.Y1]]) J<|qp<|G (.ref 9 4 0 0) J<|G (q7 c.X0) J<|G (.ref 5 3 0 0) J<|G (q7 f) J<|G (.d (.bool (decide (c.X0≤f)))) J ?_
      obtain ⟨bu,ag,o⟩:=q6 o
      refine Q2 7 (fun A st=>∃ (ao ap aq ar au av : V),st = A [(53,qu bu),(52,av),(51,au),(50,ar),(49,aq),(48,ap),(47,ao)]) ?_ ?_
      ·refine Q0 J J ag (fun ag=>?_) (fun ag=>?_)
       ·refine G (.ref 5 3 0 0) J<|G (q7 f) J<|G (.ref 9 4 0 2) J<|G (q7 c.X1) J<|G (.d (.bool (decide (f < c.X1)))) J<|G (.d (.bool (decide (f < c.X1)))) J<|qa ?_
        obtain rfl:=qd ag
        exact ⟨_,_,_,_,_,_,J⟩
       refine q8 J<|q8 J<|q8 J<|q8 J<|q8 J<|G (qu false) J<|qa ?_
       obtain rfl:=qd ag
       exact ⟨_,_,_,_,_,_,J⟩
      rintro _ ⟨ao,ap,aq,ar,au,av,rfl⟩
      refine qa ?_
      refine qm J o (fun _ o=>?_) (fun _ o=>?_)
      ·refine Q9 [Qm 7,U,(some [8,10],[8,11]),(some [],[10]),U,qq 9,U,qq 9,U,qq 7,U,U,qq 5,U,U,qq 5,U] qh<|G (.ref 5 3 0 2) J<|G (.hs 7 1 0 1) J<|O J<|G (.ref 5 3 0 2) J<|G (.hs 7 1 0 1) J<|O J<|G (.ref 7 1 0 0) J<|G (.hs 8 2 0 t.2.length) J<|G (.ref 9 4 0 1) J<|G (q7 c.Y0) J<|G (.ref 9 4 0 3) J<|G (q7 c.Y1) J<|G (.d (.agg [q9 c.Y0,q9 c.Y1])) J<|Qj (.hs 10 2 0 [({Lo:=c.Y0,Hi:=c.Y1} : qj)].length) (.dat 2 ([({Lo:=c.Y0,Hi:=c.Y1} : qj)].map Q8)) J ?_
       obtain ⟨bv,bw,o⟩:=q6 o
       refine Kn (xs:=t.2) (ys:=[({Lo:=c.Y0,Hi:=c.Y1} : qj)]) (enc:=Q8) (.hs 10 2 0 [({Lo:=c.Y0,Hi:=c.Y1} : qj)].length) bw J J J J J J J (Km J J) J J J J<|G (.ref 7 1 0 0) J<|Qd 7 (.cel 1 [[.hs 11 2 0 bv.length]]) J<|qr ?_
       obtain rfl:=qd o
       exact ⟨_,J,wkA [(5,5),(6,6),(7,7),(8,11)] [] []⟩
      refine qk<|Q7 ?_
      obtain rfl:=qd o
      exact ⟨_,J,wkA [(5,5),(6,6),(7,7),(8,8)] [] []⟩
     intro af hb
     subst hb
     refine qt<|G (.d (q9 (w64 (t.1 + 1)))) J<|O J<|qr ?_
     exact ⟨_,(Option.some.inj x).symm,wkA [(5,5),(6,6),(7,7),(8,8)] [] []⟩
    refine Q3 ?_
    refine ⟨_,(Option.some.inj x).symm,fun hm=>?_⟩
    subst hm
    obtain rfl:=qd ae
    exact ⟨_,J,wkA [(5,5),(6,6),(7,7),(8,8)] [] []⟩
   intro s hb
   subst hb
   refine qt<|G (q7 1) J<|O J<|qa<|Yg<|qc<|G (qu false) J<|qa<|qf<|Z2 J<|Q3<|Jk<|qf ?_
   refine Y2 (st':=⟨[(0,.yld 4),(1,.ref 1 1 0 0),(2,.ref 2 1 0 0),(4,q7 b.1),(5,.ref 5 3 0 0)],[(0,.cel 4 [[.hs 6 4 0 b.2.2.2.2.length,.d (.sl 2 (b.2.1.map Q8)),q7 b.2.2.1,q7 b.2.2.2.1]]),(1,.cel 1 [[.d (.sl 1 (h.map (eI .i64)))]]),(2,.cel 1 [[.hs 3 1 0 [a].length]]),(3,.dat 1 ([a].map Kf)),(4,.loop [(2,.d (.nilsl)),(3,q7 0),(4,.ref 0 4 0 0),(10,.fn 157 [.ref 1 1 0 0,.ref 2 1 0 0])] [11] A847 B848 .ready none),(5,.cel 3 [[q7 f,q7 k,.hs 7 1 0 1]]),(6,.dat 4 (b.2.2.2.2.map qw)),(7,.cel 1 [[.d (.sl 2 (s.map Q8))]])],8⟩) (wkA [(5,5),(6,6),(7,7)] [8] []) ?_ qe
   refine qt<|O J<|G (.agg [q7 f,q7 k,.hs 7 1 0 1]) J ?_
   obtain ⟨bz,ah,j⟩:=q6 j
   refine q5g (fun y=>y = bz) (fun (y : List qj × Int × Int × List qi)=>⟨[(0,.yld 4),(1,.ref 1 1 0 0),(2,.ref 2 1 0 0),(4,q7 b.1),(74,qu true)],[(0,.cel 4 [[.hs 5 4 0 y.2.2.2.length,.d (.sl 2 (y.1.map Q8)),q7 y.2.1,q7 y.2.2.1]]),(1,.cel 1 [[.d (.sl 1 (h.map (eI .i64)))]]),(2,.cel 1 [[.hs 3 1 0 [a].length]]),(3,.dat 1 ([a].map Kf)),(4,.loop [(2,.d (.nilsl)),(3,q7 0),(4,.ref 0 4 0 0),(10,.fn 157 [.ref 1 1 0 0,.ref 2 1 0 0])] [11] A847 B848 .ready none),(5,.dat 4 (y.2.2.2.map qw))],6⟩) hA847 hB848 J J J J J J ?_ ?_
   ·refine qt<|Qv J J<|Qd 8 (.cel 3 [[q7 f,q7 k,.hs 7 1 0 1]]) J<|qr ?_
    refine ⟨J,_,J,?_⟩
    refine qx<|qc<|G (.ref 8 3 0 2) J<|G (.hs 7 1 0 1) J<|G (.ref 7 1 0 0) J<|G (.d (.sl 2 (s.map Q8))) J ?_
    obtain ⟨ai,ca,ah⟩:=q6 ah
    refine qz (q11k s ai ca) J<|O J<|G (.d (.sl 2 (ai.1.map Q8))) J<|G (q7 ai.2) J<|qb J<|qb J<|qa<|qt<|G (.ref 8 3 0 0) J<|G (q7 f) J<|G (.ref 8 3 0 1) J<|G (q7 k) J<|O J ?_
    obtain ⟨ab,cb,ah⟩:=q6 ah
    refine K1 [(0,0),(1,6)] [(0,0),(1,3),(2,3),(3,3),(4,3),(5,3),(6,1),(7,3),(8,3),(9,2)] [.ref 0 4 0 0,q7 f,q7 k,.d (.sl 2 (ai.1.map Q8))] (.d (.tup [])) 2 [(0,.cel 4 [[.hs 9 4 0 ab.2.2.2.length,.d (.sl 2 (ab.1.map Q8)),q7 ab.2.1,q7 ab.2.2.1]]),(9,.dat 4 (ab.2.2.2.map qw)),(1,.cel 1 [[.d (.sl 1 (h.map (eI .i64)))]]),(2,.cel 1 [[.hs 3 1 0 [a].length]]),(3,.dat 1 ([a].map Kf)),(4,.loop [(2,.d (.nilsl)),(3,q7 0),(4,.ref 0 4 0 0),(10,.fn 157 [.ref 1 1 0 0,.ref 2 1 0 0])] [11] A847 B848 .busy none),(5,.cel 3 [[q7 f,q7 k,.hs 7 1 0 1]]),(7,.cel 1 [[.d (.sl 2 (s.map Q8))]]),(8,.cel 3 [[q7 f,q7 k,.hs 7 1 0 1]])] 10 (qlw b.2.2.2.2 b.2.1 b.2.2.1 b.2.2.2.1 f k ai.1 ab cb)<|qr<|Qg<|Q7 ?_
    refine ⟨_,J,?_⟩
    obtain rfl:=qd ah
    exact ⟨_,J,wkA [(5,9)] [] []⟩
   intro y hb
   subst hb
   refine G (qu false) J<|qa<|Z2 J<|qk<|Q7<|Qg<|qt<|O J<|G (.d (q9 (w64 (b.1 + 1)))) J<|qb J<|qr ?_
   exact ⟨_,(Option.some.inj j).symm,wkA [(5,5)] [] []⟩
  refine Q3 ?_
  refine ⟨_,(Option.some.inj j).symm,fun hm=>?_⟩
  subst hm
  refine ⟨.inl J,_,J,_,_,.nor,J,qs,?_⟩
  refine q4p<|Q7 ?_
  obtain rfl:=qd al
  exact ⟨_,J,wkA [(0,0),(1,5)] [] []⟩
 intro n st hb hw
 subst hb
 refine Y2 hw ?_ qe
 refine qc ?_
 obtain ⟨cc,aj,u⟩:=q6 u
 refine q3g [.ref 0 4 0 0] (fun q=>q = cc) (fun (q : Int × List qi)=>⟨[(26,.tup [.hs 0 4 0 q.2.length,q7 q.1])],[(0,.dat 4 (q.2.map qw))],1⟩) J J Tryz.func111 J qh qh J ?_ ?_
 ·refine qc<|qb J<|qb J<|qa<|qf<|qc<|O J<|G (.ref 0 4 0 0) J<|G (.ref 0 4 0 0) J<|G (.hs 1 4 0 n.2.2.2.length) J<|G (q7 (n.2.2.2.length : Int)) J<|G (.d (.bool (decide ((n.2.2.2.length : Int) > 400)))) J<|qa ?_
  refine qm J aj (fun _ aj=>?_) (fun _ aj=>?_)
  ·refine qc<|qb J<|qb J<|qo ?_
   refine ⟨.inr J,_,J,?_⟩
   obtain rfl:=qd aj
   exact ⟨_,J,wkA [] [] [0]⟩
  refine qk<|qc<|O J<|G (.ref 0 4 0 0) J<|G (.ref 0 4 0 0) J<|G (.hs 1 4 0 n.2.2.2.length) J<|qb J<|qb J<|qo ?_
  refine ⟨.inr J,_,J,?_⟩
  obtain rfl:=qd aj
  exact ⟨_,J,wkA [(0,1)] [] []⟩
 intro q hb
 subst hb
 refine G (.hs 0 4 0 q.2.length) J<|G (q7 q.1) J<|qb J<|qb J<|qo ?_
 obtain rfl:=qd u
 exact finD (.inr J) (v:=.tup [.hs 0 4 0 q.2.length,q7 q.1]) J (q4m (Yd (Z6 J J) (Yd J J))) (.refl _)
theorem qg0 (b : List qi) (r : List qi × Int) (a : q1h b = some r) : Pure Tryz.prog tab 99 [.sl 4 (b.map qw)] (.tup [.sl 4 (r.1.map qw),q9 r.2]):=by
 unfold q1h at a
 refine Qf Tryz.func99 J qh qh J<|qc<|qb J<|qb J<|qa<|qf<|qc<|O J<|Qa J<|G _ J<|qa ?_
 refine qm J a (fun _ a=>?_) (fun _ a=>?_)
 ·refine qc<|qb J<|qb J<|qo ?_
  obtain rfl:=qd a
  exact finD (.inr J) J J (Kz (.cons (.nil _) (.cons (.refl _) .nil)))
 refine qk<|qf<|qc<|O J ?_
 obtain ⟨d,f,a⟩:=q6 a
 refine qz (qy0 b (fun c=>q2m c) 124 [] (fun c r hr=>qvw c r hr) d f) J<|qa ?_
 refine qm J a (fun _ a=>?_) (fun _ a=>?_)
 ·refine qc<|qb J<|qb J<|qo ?_
  obtain rfl:=qd a
  exact finD (.inr J) J J (Kz (.cons (.nil _) (.cons (.refl _) .nil)))
 refine qk<|qc<|O J ?_
 obtain ⟨g,h,a⟩:=q6 a
 refine qz (qlz b g h) J<|G _ J<|G _ J<|qb J<|qb J<|qo ?_
 obtain rfl:=qd a
 exact qy _ J
theorem qms (c : List qi) (f : List qi) (r : Bool) (b : q6d c f = some r) : Pure Tryz.prog tab 127 [.sl 4 (c.map qw),.sl 4 (f.map qw)] (.bool r):=by
 unfold q6d at b
 refine Qf Tryz.func127 J qh qh J<|qc<|qb J<|qa<|qf<|qc<|O J<|Qa J<|O J<|Qa J<|G _ J<|qa ?_
 refine qm J b (fun _ b=>?_) (fun _ b=>?_)
 ·refine qc<|qb J<|qo ?_
  obtain rfl:=qd b
  exact qy _ J
 refine qk<|qf<|qc<|O J<|Qa J<|O J<|qa ?_
 obtain ⟨h,k,b⟩:=q6 b
 refine Qc (fun g=>.inl g = h) (fun g=>⟨[],[],0⟩) qe ?_ ?_
 ·refine Q5 (qco c f) (fun j=>⟨[(0,.d (.sl 4 (c.map qw))),(1,.d (.sl 4 (f.map qw))),(12,q7 (c.length : Int)),(13,q7 j)],[],0⟩) 0 h k (wkA [] [] []) ?_
  intro j n a
  unfold qco at a
  refine qc<|G _ J<|qa<|qf ?_
  refine qm J a (fun _ a=>?_) (fun _ a=>?_)
  ·refine qk<|qf<|qx<|qc<|O J<|qb J<|qa<|qf<|Q9 [U,U,U,U,U,U,U,U,U] qh<|O J<|O J ?_
   obtain ⟨o,l,a⟩:=q6 a
   refine Q1 l J<|G _ J<|O J<|O J ?_
   obtain ⟨p,m,a⟩:=q6 a
   refine Q1 m J<|G _ J<|G _ J<|qa ?_
   refine qm J a (fun _ a=>?_) (fun _ a=>?_)
   ·refine qc<|qb J<|qo ?_
    refine ⟨_,(Option.some.inj a).symm,fun hm=>?_⟩
    subst hm
    obtain rfl:=qd b
    exact qy _ J
   refine qk<|Q7<|Qg<|qt<|G _ J<|O J<|qr ?_
   exact ⟨_,(Option.some.inj a).symm,wkA [] [] []⟩
  refine Q3 ?_
  refine ⟨_,(Option.some.inj a).symm,fun hm=>?_⟩
  subst hm
  exact ⟨_,J,wkA [] [] []⟩
 intro g hb
 subst hb
 refine qc<|qb J<|qo ?_
 obtain rfl:=qd b
 exact qy _ J
theorem qn3 (g : List qg) (k : List qi) (l : Int) (o : Int) (p : Int) (b : Int) (h : List qi) (r : List qi × Int × Int × List qg) (a : q7d  g k l o p b h = some r) : K0 Tryz.prog tab 100 [.ref 0 4 0 0,q7 p,q7 b,.d (.sl 4 (h.map qw))] [(0,.cel 4 [[.hs 1 6 0 g.length,.d (.sl 4 (k.map qw)),q7 l,q7 o]]),(1,.dat 6 (g.map Q6))] 2 (.d (.tup [])) [(0,.cel 4 [[.hs 2 6 0 r.2.2.2.length,.d (.sl 4 (r.1.map qw)),q7 r.2.1,q7 r.2.2.1]]),(2,.dat 6 (r.2.2.2.map Q6))] 3:=by
 unfold q7d at a
 refine Kh Tryz.func100 J qh qh J<|qf<|qc<|O J<|Qa J<|G _ J ?_
 obtain ⟨ak,m,a⟩:=q6 a
 refine Q2 8 (fun A st=>∃ u v w x y z aa,st = A [(21,qu ak),(20,aa),(19,z),(18,y),(17,x),(16,w),(15,v),(14,u)]) ?_ ?_
 ·refine Q0 J J m (fun m=>?_) (fun m=>?_)
  ·refine O J<|G _ J<|G _ J<|G _ J<|O J<|G _ J<|G _ J<|qa ?_
   obtain rfl:=qd m
   exact ⟨_,_,_,_,_,_,_,J⟩
  refine q8 J<|q8 J<|q8 J<|q8 J<|q8 J<|q8 J<|G _ J<|qa ?_
  obtain rfl:=qd m
  exact ⟨_,_,_,_,_,_,_,J⟩
 rintro _ ⟨u,v,w,x,y,z,aa,rfl⟩
 obtain ⟨al,j,a⟩:=q6 a
 refine Q2 8 (fun A st=>∃ ab ac ad ae af ag ah,st = A [(29,qu al),(28,ah),(27,ag),(26,af),(25,ae),(24,ad),(23,ac),(22,ab)]) ?_ ?_
 ·refine Q0 J J j (fun j=>?_) (fun j=>?_)
  ·refine O J<|G _ J<|G _ J<|G _ J<|O J ?_
   obtain ⟨am,an,j⟩:=q6 j
   refine qz (qms k h am an) J<|G _ J<|qa ?_
   obtain rfl:=qd j
   exact ⟨_,_,_,_,_,_,_,J⟩
  refine q8 J<|q8 J<|q8 J<|q8 J<|q8 J<|q8 J<|G _ J<|qa ?_
  obtain rfl:=qd j
  exact ⟨_,_,_,_,_,_,_,J⟩
 rintro _ ⟨ab,ac,ad,ae,af,ag,ah,rfl⟩
 refine qa ?_
 refine qm J a (fun _ a=>?_) (fun _ a=>?_)
 ·refine qf<|qc<|O J<|G _ J<|G _ J<|G _ J<|qb J<|qa ?_
  obtain ⟨ai,ao,a⟩:=q6 a
  refine Qc (fun n=>n = ai) (fun n=>⟨[(0,.ref 0 4 0 0),(2,q7 b)],[(0,.cel 4 [[.hs 1 6 0 n.length,.d (.sl 4 (k.map qw)),q7 l,q7 o]]),(1,.dat 6 (n.map Q6))],2⟩) qe ?_ ?_
  ·refine Q5 (q7e b) (fun q=>⟨[(0,.ref 0 4 0 0),(2,q7 b),(8,q7 q.1)],[(0,.cel 4 [[.hs 1 6 0 q.2.length,.d (.sl 4 (k.map qw)),q7 l,q7 o]]),(1,.dat 6 (q.2.map Q6))],2⟩) (l,g) ai ao (wkA [] [] []) ?_
   intro q av f
   unfold q7e at f
   refine qf<|qc<|O J<|O J<|G _ J<|G _ J<|G _ J<|G _ J<|G _ J<|qa ?_
   refine qm J f (fun _ f=>?_) (fun _ f=>?_)
   ·refine qk<|qf<|qx<|qt<|O J<|G _ J<|G _ J<|G _ J<|O J<|O J ?_
    obtain ⟨t,aj,f⟩:=q6 f
    refine qv aj J J<|G _ J<|G _ J<|Qw (ds:=[q9 b]) ({Lo:=t.Lo,Hi:=({X:=t.Hi.X,Y:=t.Hi.Y,Z:=b} : Qb)} : qg) aj J J J J J J J J (leb J) J<|qr<|Qg<|qt<|O J<|G _ J<|qb J<|qr ?_
    exact ⟨_,(Option.some.inj f).symm,wkE [] [] [] J ⟨⟨_,J,.ref J qs (ltd J)⟩,qn J,qn J,trivial⟩ ⟨⟨ltd J,.inr ⟨qs,_,J,J9 (.cons (Qy qe J qs (ltd J)) J (.cons (.d (.refl _)) J (.cons (.d (.refl _)) J (.cons (.d (.refl _)) J .nil))))⟩⟩,Qk J J,trivial⟩⟩
   refine Q3 ?_
   refine ⟨_,(Option.some.inj f).symm,fun hm=>?_⟩
   subst hm
   exact ⟨_,J,wkA [] [] []⟩
  intro n hb
  subst hb
  refine qc<|O J<|O J<|G _ J<|G _ J<|Qd 0 _ J<|qo ?_
  obtain rfl:=qd a
  exact ⟨.inr J,_,J,wkA [(2,1)] [] []⟩
 refine qk<|qc<|O J<|O J<|O J<|O J<|G _ J<|G _ J<|G _ J<|G _ J<|O J<|O J<|G _ J<|G _ J<|Qd 0 _ J<|G _ J<|G _ J<|Qd 0 _ J<|G _ J<|G _ J<|Qd 0 _ J<|qp<|O J<|Qa J<|O J<|qa ?_
 obtain ⟨ap,aq,a⟩:=q6 a
 refine qx<|Q5 (q7f h p b g) (fun s=>⟨[(0,.ref 0 4 0 0),(1,q7 p),(2,q7 b),(72,.d (.sl 4 (h.map qw))),(73,q7 (h.length : Int)),(74,q7 s.1)],[(0,.cel 4 [[.hs 2 6 0 s.2.length,.d (.sl 4 (h.map qw)),q7 (g.length : Int),q7 b]]),(2,.dat 6 (s.2.map Q6))],3⟩) (0,g) ap aq (wkA [(2,1)] [] []) ?_
 intro s aw c
 unfold q7f at c
 refine qc<|G _ J<|qa<|qf ?_
 refine qm J c (fun _ c=>?_) (fun _ c=>?_)
 ·refine qk<|qf<|qx<|qc ?_
  obtain ⟨ax,ar,c⟩:=q6 c
  refine Q1 ar J<|G _ J<|Qv J J<|Qd 3 _ J<|qa<|Q9 [Qm 0,U,U,(some [2,4],[2,5]),(some [],[4]),U,U,U,qq 3,U,qq 3,U,U,U,qq 3,U,qq 3,U,qq 0,U,U,U,U] qh<|O J<|O J<|G _ J<|G _ J<|G _ J<|G _ J<|G _ J<|G _ J<|G _ J<|O J<|G _ J<|G _ J<|G _ J<|G _ J<|G _ J<|O J<|G _ J<|G _ J<|Qj _ _ J ?_
  obtain ⟨ay,au,c⟩:=q6 c
  refine Kn _ au J J J J J J J (Km J J) J J J J<|G _ J<|G _ J<|Qd 0 _ J<|qr<|Qg<|qt<|G _ J<|O J<|qr ?_
  exact ⟨_,(Option.some.inj c).symm,wkA [(2,5)] [] []⟩
 refine Q3 ?_
 refine ⟨_,(Option.some.inj c).symm,fun hm=>?_⟩
 subst hm
 obtain rfl:=qd a
 exact ⟨.inl J,_,J,wkA [(2,2)] [] []⟩
theorem qn8 (b : List qg) (r : List qg × Int) (h : q7j b = some r) : Pure Tryz.prog tab 72 [.agg [.nilf],.sl 1 ([b].map Ql)] (.tup [.sl 6 (r.1.map Q6),q9 r.2]):=by
 unfold q7j at h
 refine Qf Tryz.func72 J qh qh J<|qc<|Qj _ _ J<|Qv J J<|Qv J J<|qp<|Qv J J<|qa<|qf<|qc<|O J ?_
 obtain ⟨ao,f,h⟩:=q6 h
 refine q3g [.d (.sl 1 ([b].map Ql))] (fun g=>g = ao) (fun (g : List Int)=>⟨[(2,.ref 0 1 0 0),(4,.ref 1 1 0 0),(5,.ref 2 1 0 0),(6,.ref 3 4 0 0),(14,.fn 122 [.ref 4 1 0 0,.ref 5 1 0 0])],[(0,.dat 1 [[.nilf]]),(1,.dat 1 [[.nilsl]]),(2,.dat 1 [[q9 0]]),(3,.dat 4 [[.nilsl,.nilsl,q9 0,q9 0]]),(4,.cel 1 [[.d (.sl 1 (g.map (eI .i64)))]]),(5,.dat 1 [[.sl 1 ([b].map Ql)]])],6⟩) J J Tryz.func98 J qh qh J ?_ ?_
 ·refine qc<|Qj _ _ J<|qb J<|qp<|Qv J J<|qa<|qf<|qc<|G _ J<|q5f 1 J J J J J<|O J<|qa<|qx<|Yg<|qc<|G _ J<|qa<|qf<|Z4 J<|qk<|qf ?_
  obtain ⟨ap,v,f⟩:=q6 f
  refine Qc (fun l=>l = ap) (fun l=>⟨[(1,.ref 4 1 0 0),(3,.ref 5 1 0 0),(8,.d (.sl 1 ([b].map Ql))),(9,q7 1),(10,q7 0)],[(0,.dat 1 [[.nilf]]),(1,.dat 1 [[.nilsl]]),(2,.dat 1 [[q9 0]]),(3,.dat 4 [[.nilsl,.nilsl,q9 0,q9 0]]),(4,.dat 1 [[.sl 1 ([b].map Ql)]]),(5,.cel 1 [[.hs 6 1 0 l.length]]),(6,.dat 1 (l.map (eI .i64)))],7⟩) qe ?_ ?_
  ·refine qc ?_
   obtain ⟨ae,aq,v⟩:=q6 v
   refine Q1 aq J<|G _ J<|qb J<|qp<|O J<|Qa J<|O J<|qa ?_
   obtain ⟨ar,au,v⟩:=q6 v
   refine qx<|Q5 (q1o ae) (fun ac=>⟨[(1,.ref 4 1 0 0),(3,.ref 5 1 0 0),(8,.d (.sl 1 ([b].map Ql))),(9,q7 1),(10,q7 0),(14,.d (.sl 6 (ae.map Q6))),(15,q7 (ae.length : Int)),(16,q7 ac.1)],[(0,.dat 1 [[.nilf]]),(1,.dat 1 [[.nilsl]]),(2,.dat 1 [[q9 0]]),(3,.dat 4 [[.nilsl,.nilsl,q9 0,q9 0]]),(4,.dat 1 [[.sl 1 ([b].map Ql)]]),(5,.cel 1 [[.hs 6 1 0 ac.2.length]]),(6,.dat 1 (ac.2.map (eI .i64)))],7⟩) (0,[]) ar au (wkA [(4,4),(5,5)] [] [6]) ?_
   intro ac bu k
   unfold q1o at k
   refine qc<|G _ J<|qa<|qf ?_
   refine qm J k (fun _ k=>?_) (fun _ k=>?_)
   ·refine qk<|qf<|qx<|qc ?_
    obtain ⟨bv,av,k⟩:=q6 k
    refine Q1 av J<|G _ J<|Qv J J<|Qd 7 _ J<|qa<|qt<|G _ J<|G _ J<|G _ J<|G _ J<|G _ J<|G _ J<|G _ J<|Qj _ _ J ?_
    obtain ⟨bw,aw,k⟩:=q6 k
    refine Kn _ aw J J J J J J J (Km J J) J J J J<|Qd 5 _ J<|qr<|Qg<|qt<|G _ J<|O J<|qr ?_
    exact ⟨_,(Option.some.inj k).symm,wkA [(4,4),(5,5),(6,9)] [] []⟩
   refine Q3 ?_
   refine ⟨_,(Option.some.inj k).symm,fun hm=>?_⟩
   subst hm
   obtain rfl:=qd v
   exact ⟨_,J,wkA [(4,4),(5,5),(6,6)] [] []⟩
  intro l hb
  subst hb
  refine qt<|G _ J<|O J<|qa<|Yg<|qc<|G _ J<|qa<|qf<|Z2 J<|Q3<|Jk<|qc<|G _ J ?_
  obtain ⟨af,ax,f⟩:=q6 f
  obtain ⟨bz,ay,f⟩:=q6 f
  have az:=Kd ay
  refine K1 [(0,6)] [(0,1),(1,1),(2,1),(3,1),(4,1),(5,1),(6,0)] _ (.d (.tup [])) 1 [(6,.dat 1 (af.map (eI .i64))),(0,.dat 1 [[.nilf]]),(1,.dat 1 [[.nilsl]]),(2,.dat 1 [[q9 0]]),(3,.dat 4 [[.nilsl,.nilsl,q9 0,q9 0]]),(4,.dat 1 [[.sl 1 ([b].map Ql)]]),(5,.cel 1 [[.hs 6 1 0 l.length]])] 7 (qcw l af ax)<|qp<|G _ J ?_
  obtain ⟨w,ba,f⟩:=q6 f
  obtain ⟨ca,bb,f⟩:=q6 f
  have cb:=Kd bb
  obtain ⟨cc,bc,f⟩:=q6 f
  have bd:=qdd bc
  refine Jq [(0,6)] [(0,1),(1,1),(2,1),(3,1),(4,1),(5,1),(6,0)] [.hs 6 1 0 l.length] (.hs 6 1 w.1.1 w.1.2) [(6,.dat 1 (w.2.map (eI .i64)))] [(6,.dat 1 (w.2.map (eI .i64))),(0,.dat 1 [[.nilf]]),(1,.dat 1 [[.nilsl]]),(2,.dat 1 [[q9 0]]),(3,.dat 4 [[.nilsl,.nilsl,q9 0,q9 0]]),(4,.dat 1 [[.sl 1 ([b].map Ql)]]),(5,.cel 1 [[.hs 6 1 0 l.length]])] 7 (qcn af w ba) J J J (Y9 [(0,6)] [] [] J ⟨⟨_,J,Qy (by simp [az]) J qs (ltd J)⟩,trivial⟩ ⟨Qk J J,trivial⟩) (Y9 [(0,1),(1,1),(2,1),(3,1),(4,1),(5,1),(6,0)] [] [] J ⟨⟨_,J,.hs J qs (ltd J)⟩,trivial⟩ ⟨Qk J J,trivial⟩) J ⟨.inl J,.inr ⟨J,J⟩,.inr ⟨J,J⟩,.inr ⟨J,J⟩,.inr ⟨J,J⟩,.inr ⟨J,J⟩,.inr ⟨J,J⟩,trivial⟩<|Qd 5 _ J<|qp<|G _ J<|qb J<|qo ?_
  refine ⟨.inr J,_,J,?_⟩
  obtain rfl:=qd f
  exact ⟨_,J,wkE [(0,0),(1,1),(2,2),(3,3),(4,5),(5,4)] [6] [] J ⟨⟨_,J,.ref J qs (ltd J)⟩,⟨_,J,.ref J qs (ltd J)⟩,⟨_,J,.ref J qs (ltd J)⟩,⟨_,J,.ref J qs (ltd J)⟩,⟨_,J,(q1u (.cons (.ref J qs (ltd J)) (.cons (.ref J qs (ltd J)) .nil)))⟩,trivial⟩ ⟨Qk J J,Qk J J,Qk J J,Qk J J,⟨ltd J,.inr ⟨qs,_,J,J9 (.cons (qdf bd J qs) J .nil)⟩⟩,Qk J J,trivial⟩⟩
 intro g hb
 subst hb
 refine qa<|qx ?_
 obtain ⟨be,ad,h⟩:=q6 h
 refine q69 (fun n=>.inl n = be) (fun n=>⟨[(4,.ref 0 1 0 0),(5,.ref 1 1 0 0),(6,.ref 2 4 0 0)],[(0,.dat 1 [[.nilsl]]),(1,.dat 1 [[q9 0]]),(2,.cel 4 [[.hs 3 6 0 n.2.2.2.length,.d (.sl 4 (n.1.map qw)),q7 n.2.1,q7 n.2.2.1]]),(3,.dat 6 (n.2.2.2.map Q6))],4⟩) ?_ ?_
 ·refine Y2 (st':=⟨[(2,.ref 0 1 0 0),(4,.ref 1 1 0 0),(5,.ref 2 1 0 0),(6,.ref 3 4 0 0),(14,.fn 122 [.ref 4 1 0 0,.ref 5 1 0 0])],[(0,.dat 1 [[.nilf]]),(1,.dat 1 [[.nilsl]]),(2,.dat 1 [[q9 0]]),(3,.dat 4 [[.nilsl,.nilsl,q9 0,q9 0]]),(4,.cel 1 [[.d (.sl 1 (g.map (eI .i64)))]]),(5,.dat 1 [[.sl 1 ([b].map Ql)]])],6⟩) (wkA [(0,0),(1,1),(2,2),(3,3),(4,4),(5,5)] [] []) ?_ qe
  refine q6a _ (.inl J) Tryz.func122 J qh qh J ?_
  intro A879 B880 hA879 hB880
  refine qc<|qb J<|qa ?_
  obtain ⟨bf,bg,ad⟩:=q6 ad
  refine qx<|Q5 (q4b g b) (fun a=>⟨[(0,.yld 6),(1,.ref 4 1 0 0),(2,.ref 5 1 0 0),(4,q7 a.1)],[(0,.dat 1 [[.nilf]]),(1,.dat 1 [[.nilsl]]),(2,.dat 1 [[q9 0]]),(3,.cel 4 [[.hs 7 6 0 a.2.2.2.2.length,.d (.sl 4 (a.2.1.map qw)),q7 a.2.2.1,q7 a.2.2.2.1]]),(4,.cel 1 [[.d (.sl 1 (g.map (eI .i64)))]]),(5,.dat 1 [[.sl 1 ([b].map Ql)]]),(6,.loop [(2,.ref 0 1 0 0),(4,.ref 1 1 0 0),(5,.ref 2 1 0 0),(6,.ref 3 4 0 0),(14,.fn 122 [.ref 4 1 0 0,.ref 5 1 0 0])] [15] A879 B880 .ready none),(7,.dat 6 (a.2.2.2.2.map Q6))],8⟩) (1,[],0,0,[]) bf bg (wkA [] [] [7]) ?_
  intro a cd c
  unfold q4b at c
  refine qf<|qc<|O J<|G _ J<|Qa J<|G _ J<|qa ?_
  refine qm J c (fun _ c=>?_) (fun _ c=>?_)
  ·refine qk<|qf<|qx<|qf<|Q9 [Qm 9,(some [],[9]),U,(some [],[8]),U,qq 5,U,U,U,qq 4,U,U,U,U,qq 4] qh<|G _ J<|O J<|G _ J ?_
   obtain ⟨o,bh,c⟩:=q6 c
   refine Q1 bh J<|G _ J<|G _ J<|O J ?_
   obtain ⟨t,bi,c⟩:=q6 c
   refine Q1 bi J<|G _ J<|G _ J<|q5f 1 J J J J J<|Qj _ _ J<|G _ J<|Qv J J<|Qd 9 _ J<|qa<|qf<|qc<|G _ J<|q5f 1 J J J J J<|O J<|qa<|qx<|Yg<|qc<|G _ J<|qa<|qf<|Z4 J<|qk<|qf ?_
   obtain ⟨bj,x,c⟩:=q6 c
   refine Qc (fun p=>p = bj) (fun p=>⟨[(0,.yld 6),(1,.ref 4 1 0 0),(2,.ref 5 1 0 0),(4,q7 a.1),(5,.ref 7 3 0 0),(29,.d (.sl 1 ([b].map Ql))),(30,q7 1),(31,q7 0)],[(0,.dat 1 [[.nilf]]),(1,.dat 1 [[.nilsl]]),(2,.dat 1 [[q9 0]]),(3,.cel 4 [[.hs 8 6 0 a.2.2.2.2.length,.d (.sl 4 (a.2.1.map qw)),q7 a.2.2.1,q7 a.2.2.2.1]]),(4,.cel 1 [[.d (.sl 1 (g.map (eI .i64)))]]),(5,.dat 1 [[.sl 1 ([b].map Ql)]]),(6,.loop [(2,.ref 0 1 0 0),(4,.ref 1 1 0 0),(5,.ref 2 1 0 0),(6,.ref 3 4 0 0),(14,.fn 122 [.ref 4 1 0 0,.ref 5 1 0 0])] [15] A879 B880 .ready none),(7,.cel 3 [[q7 o,q7 t,.hs 9 1 0 1]]),(8,.dat 6 (a.2.2.2.2.map Q6)),(9,.cel 1 [[.hs 10 4 0 p.length]]),(10,.dat 4 (p.map qw))],11⟩) qe ?_ ?_
   ·refine qc<|O J ?_
    obtain ⟨y,bk,x⟩:=q6 x
    refine Q1 bk J<|G _ J<|qb J<|qb J<|qp<|O J<|Qa J<|O J<|qa ?_
    obtain ⟨bl,bm,x⟩:=q6 x
    refine qx<|Q5 (q1p y o) (fun z=>⟨[(0,.yld 6),(1,.ref 4 1 0 0),(2,.ref 5 1 0 0),(4,q7 a.1),(5,.ref 7 3 0 0),(6,q7 0),(29,.d (.sl 1 ([b].map Ql))),(30,q7 1),(31,q7 0),(36,.d (.sl 6 (y.map Q6))),(37,q7 (y.length : Int)),(38,q7 z.1)],[(0,.dat 1 [[.nilf]]),(1,.dat 1 [[.nilsl]]),(2,.dat 1 [[q9 0]]),(3,.cel 4 [[.hs 8 6 0 a.2.2.2.2.length,.d (.sl 4 (a.2.1.map qw)),q7 a.2.2.1,q7 a.2.2.2.1]]),(4,.cel 1 [[.d (.sl 1 (g.map (eI .i64)))]]),(5,.dat 1 [[.sl 1 ([b].map Ql)]]),(6,.loop [(2,.ref 0 1 0 0),(4,.ref 1 1 0 0),(5,.ref 2 1 0 0),(6,.ref 3 4 0 0),(14,.fn 122 [.ref 4 1 0 0,.ref 5 1 0 0])] [15] A879 B880 .ready none),(7,.cel 3 [[q7 o,q7 t,.hs 9 1 0 1]]),(8,.dat 6 (a.2.2.2.2.map Q6)),(9,.cel 1 [[.hs 10 4 0 z.2.length]]),(10,.dat 4 (z.2.map qw))],11⟩) (0,[]) bl bm (wkA [(7,9),(8,7),(9,8)] [] [10]) ?_
    intro z ce q
    unfold q1p at q
    refine qc<|G _ J<|qa<|qf ?_
    refine qm J q (fun _ q=>?_) (fun _ q=>?_)
    ·refine qk<|qf ?_
     obtain ⟨bn,j,q⟩:=q6 q
     refine Qc (fun aa=>aa = bn) (fun aa=>⟨[(0,.yld 6),(1,.ref 4 1 0 0),(2,.ref 5 1 0 0),(4,q7 a.1),(5,.ref 7 3 0 0),(6,q7 0),(29,.d (.sl 1 ([b].map Ql))),(30,q7 1),(31,q7 0),(36,.d (.sl 6 (y.map Q6))),(37,q7 (y.length : Int)),(38,q7 z.1)],[(0,.dat 1 [[.nilf]]),(1,.dat 1 [[.nilsl]]),(2,.dat 1 [[q9 0]]),(3,.cel 4 [[.hs 8 6 0 a.2.2.2.2.length,.d (.sl 4 (a.2.1.map qw)),q7 a.2.2.1,q7 a.2.2.2.1]]),(4,.cel 1 [[.d (.sl 1 (g.map (eI .i64)))]]),(5,.dat 1 [[.sl 1 ([b].map Ql)]]),(6,.loop [(2,.ref 0 1 0 0),(4,.ref 1 1 0 0),(5,.ref 2 1 0 0),(6,.ref 3 4 0 0),(14,.fn 122 [.ref 4 1 0 0,.ref 5 1 0 0])] [15] A879 B880 .ready none),(7,.cel 3 [[q7 o,q7 t,.hs 9 1 0 1]]),(8,.dat 6 (a.2.2.2.2.map Q6)),(9,.cel 1 [[.hs 10 4 0 aa.length]]),(10,.dat 4 (aa.map qw))],11⟩) qe ?_ ?_
     ·refine qc ?_
      obtain ⟨cf,bo,j⟩:=q6 j
      refine Q1 bo J<|G _ J<|Qv J J<|Qd 11 _ J<|qp<|G _ J<|G _ J<|G _ J<|G _ J<|G _ J<|G _ J ?_
      obtain ⟨bp,ab,j⟩:=q6 j
      refine Q2 8 (fun A st=>∃ ag ah ai aj ak al am,st = A [(55,qu bp),(54,am),(53,al),(52,ak),(51,aj),(50,ai),(49,ah),(48,ag)]) ?_ ?_
      ·refine Q0 J J ab (fun ab=>?_) (fun ab=>?_)
       ·refine G _ J<|G _ J<|G _ J<|G _ J<|G _ J<|G _ J<|G _ J<|qa ?_
        obtain rfl:=qd ab
        exact ⟨_,_,_,_,_,_,_,J⟩
       refine q8 J<|q8 J<|q8 J<|q8 J<|q8 J<|q8 J<|G _ J<|qa ?_
       obtain rfl:=qd ab
       exact ⟨_,_,_,_,_,_,_,J⟩
      rintro _ ⟨ag,ah,ai,aj,ak,al,am,rfl⟩
      refine qa ?_
      refine qm J j (fun _ j=>?_) (fun _ j=>?_)
      ·refine Q9 [Qm 9,U,(some [10,12],[10,13]),(some [],[12]),U,qq 11,U,U,qq 11,U,U,qq 11,U,U,qq 11,U,U,qq 9,U,U,qq 7,U,U,qq 7,U] qh<|G _ J<|G _ J<|O J<|G _ J<|G _ J<|O J<|G _ J<|G _ J<|G _ J<|G _ J<|G _ J<|G _ J<|G _ J<|G _ J<|G _ J<|G _ J<|G _ J<|G _ J<|G _ J<|G _ J<|G _ J<|Qj _ _ J ?_
       obtain ⟨cg,bq,j⟩:=q6 j
       refine Kn _ bq J J J J J J J (Km J J) J J J J<|G _ J<|Qd 9 _ J<|qr ?_
       obtain rfl:=qd j
       exact ⟨_,J,wkA [(7,7),(8,8),(9,9),(10,13)] [] []⟩
      refine qk<|Q7 ?_
      obtain rfl:=qd j
      exact ⟨_,J,wkA [(7,7),(8,8),(9,9),(10,10)] [] []⟩
     intro aa hb
     subst hb
     refine qt<|G _ J<|O J<|qr ?_
     exact ⟨_,(Option.some.inj q).symm,wkA [(7,7),(8,8),(9,9),(10,10)] [] []⟩
    refine Q3 ?_
    refine ⟨_,(Option.some.inj q).symm,fun hm=>?_⟩
    subst hm
    obtain rfl:=qd x
    exact ⟨_,J,wkA [(7,7),(8,8),(9,9),(10,10)] [] []⟩
   intro p hb
   subst hb
   refine qt<|G _ J<|O J<|qa<|Yg<|qc<|G _ J<|qa<|qf<|Z2 J<|Q3<|Jk<|qf ?_
   refine Y2 (st':=⟨[(0,.yld 6),(1,.ref 4 1 0 0),(2,.ref 5 1 0 0),(4,q7 a.1),(5,.ref 7 3 0 0)],[(0,.dat 1 [[.nilf]]),(1,.dat 1 [[.nilsl]]),(2,.dat 1 [[q9 0]]),(3,.cel 4 [[.hs 8 6 0 a.2.2.2.2.length,.d (.sl 4 (a.2.1.map qw)),q7 a.2.2.1,q7 a.2.2.2.1]]),(4,.cel 1 [[.d (.sl 1 (g.map (eI .i64)))]]),(5,.dat 1 [[.sl 1 ([b].map Ql)]]),(6,.loop [(2,.ref 0 1 0 0),(4,.ref 1 1 0 0),(5,.ref 2 1 0 0),(6,.ref 3 4 0 0),(14,.fn 122 [.ref 4 1 0 0,.ref 5 1 0 0])] [15] A879 B880 .ready none),(7,.cel 3 [[q7 o,q7 t,.hs 9 1 0 1]]),(8,.dat 6 (a.2.2.2.2.map Q6)),(9,.cel 1 [[.d (.sl 4 (p.map qw))]])],10⟩) (wkA [(7,7),(8,8),(9,9)] [10] []) ?_ qe
   refine qt<|O J<|G _ J ?_
   obtain ⟨br,m,c⟩:=q6 c
   refine q5g (fun s=>.inl s = br) (fun (s : List qi × Int × Int × List qg)=>⟨[(0,.yld 6),(1,.ref 4 1 0 0),(2,.ref 5 1 0 0),(4,q7 a.1),(84,qu true)],[(0,.dat 1 [[.nilf]]),(1,.dat 1 [[.nilsl]]),(2,.dat 1 [[q9 0]]),(3,.cel 4 [[.hs 7 6 0 s.2.2.2.length,.d (.sl 4 (s.1.map qw)),q7 s.2.1,q7 s.2.2.1]]),(4,.cel 1 [[.d (.sl 1 (g.map (eI .i64)))]]),(5,.dat 1 [[.sl 1 ([b].map Ql)]]),(6,.loop [(2,.ref 0 1 0 0),(4,.ref 1 1 0 0),(5,.ref 2 1 0 0),(6,.ref 3 4 0 0),(14,.fn 122 [.ref 4 1 0 0,.ref 5 1 0 0])] [15] A879 B880 .ready none),(7,.dat 6 (s.2.2.2.map Q6))],8⟩) hA879 hB880 J J J J J J ?_ ?_
   ·refine qt<|Qv J J<|Qd 10 _ J<|qr ?_
    refine ⟨J,_,J,?_⟩
    refine qx<|qc<|G _ J<|G _ J<|G _ J<|G _ J ?_
    obtain ⟨an,bs,m⟩:=q6 m
    refine qz (qg0 p an bs) J<|O J<|G _ J<|G _ J<|qb J<|qb J<|qa<|qf<|qc<|G _ J<|G _ J<|G _ J<|G _ J<|O J<|qa<|qx<|Yg<|qc<|G _ J<|qa<|qf<|Z2 J<|Q3<|Jk<|qf<|qc<|O J<|G _ J<|qa ?_
    refine qm J m (fun _ m=>?_) (fun _ m=>?_)
    ·refine qc<|O J<|Qd 1 _ J<|Qd 2 _ J<|qo ?_
     obtain rfl:=qd m
     refine ⟨_,J,?_⟩
     refine G _ J<|qa<|Z4 J<|Uq ?_
     refine ⟨_,(Option.some.inj c).symm,fun hm=>?_⟩
     subst hm
     refine ⟨.inr J,_,J,_,_,.ret,J,qs,?_⟩
     refine qb9 ?_
     obtain rfl:=qd ad
     obtain rfl:=qd h
     exact finD (.inr J) J J (Kz (.cons (.nil _) (.cons (.refl _) .nil)))
    refine qk<|qt<|G _ J<|G _ J<|G _ J<|G _ J<|O J ?_
    obtain ⟨u,bt,m⟩:=q6 m
    refine K1 [(0,3),(1,8)] [(0,3),(1,3),(2,3),(3,0),(4,3),(5,3),(6,3),(7,3),(8,1),(9,3),(10,3),(11,2)] _ (.d (.tup [])) 2 [(3,.cel 4 [[.hs 11 6 0 u.2.2.2.length,.d (.sl 4 (u.1.map qw)),q7 u.2.1,q7 u.2.2.1]]),(11,.dat 6 (u.2.2.2.map Q6)),(0,.dat 1 [[.nilf]]),(1,.dat 1 [[.nilsl]]),(2,.dat 1 [[q9 0]]),(4,.cel 1 [[.d (.sl 1 (g.map (eI .i64)))]]),(5,.dat 1 [[.sl 1 ([b].map Ql)]]),(6,.loop [(2,.ref 0 1 0 0),(4,.ref 1 1 0 0),(5,.ref 2 1 0 0),(6,.ref 3 4 0 0),(14,.fn 122 [.ref 4 1 0 0,.ref 5 1 0 0])] [15] A879 B880 .busy none),(7,.cel 3 [[q7 o,q7 t,.hs 9 1 0 1]]),(9,.cel 1 [[.d (.sl 4 (p.map qw))]]),(10,.cel 3 [[q7 o,q7 t,.hs 9 1 0 1]])] 12 (qn3 a.2.2.2.2 a.2.1 a.2.2.1 a.2.2.2.1 o t an.1 u bt)<|qr<|Qg<|Q7 ?_
    refine ⟨_,J,?_⟩
    obtain rfl:=qd m
    exact ⟨_,J,wkA [(7,11)] [] []⟩
   intro s hb
   subst hb
   refine G _ J<|qa<|Z2 J<|qk<|Q7<|Qg<|qt<|O J<|G _ J<|qb J<|qr ?_
   exact ⟨_,(Option.some.inj c).symm,wkA [(7,7)] [] []⟩
  refine Q3 ?_
  refine ⟨_,(Option.some.inj c).symm,fun hm=>?_⟩
  subst hm
  refine ⟨.inl J,_,J,_,_,.nor,J,qs,?_⟩
  refine q4p<|Q7 ?_
  obtain rfl:=qd ad
  exact ⟨_,J,wkA [(0,1),(1,2),(2,3),(3,7)] [] []⟩
 intro n st hb hw
 subst hb
 refine Y2 hw ?_ qe
 refine qf<|qc<|G _ J<|G _ J<|G _ J<|G _ J<|qa ?_
 refine qm J h (fun _ h=>?_) (fun _ h=>?_)
 ·refine qc<|Qd 0 _ J<|Qd 1 _ J<|qo ?_
  obtain rfl:=qd h
  exact finD (.inr J) J J (Kz (.cons (.nil _) (.cons (.refl _) .nil)))
 refine qk<|qc<|G _ J<|G _ J<|Qd 0 _ J<|Qd 1 _ J<|qo ?_
 obtain rfl:=qd h
 exact finD (.inr J) J (q4m (Yd (Z6 J J) (Yd J J))) (.refl _)
theorem qy3 (c : List qg) (f : List qg) (r : Bool) (b : qcp c f = some r) : Pure Tryz.prog tab 73 [.sl 6 (c.map Q6),.sl 6 (f.map Q6)] (.bool r):=by
 unfold qcp at b
 refine Qf Tryz.func73 J qh qh J<|qc<|qb J<|qa<|qf<|qc<|O J<|Qa J<|O J<|Qa J<|G _ J<|qa ?_
 refine qm J b (fun _ b=>?_) (fun _ b=>?_)
 ·refine qc<|qb J<|qo ?_
  obtain rfl:=qd b
  exact qy _ J
 refine qk<|qf<|qc<|O J<|Qa J<|O J<|qa ?_
 obtain ⟨h,k,b⟩:=q6 b
 refine Qc (fun g=>.inl g = h) (fun g=>⟨[],[],0⟩) qe ?_ ?_
 ·refine Q5 (qgd c f) (fun j=>⟨[(0,.d (.sl 6 (c.map Q6))),(1,.d (.sl 6 (f.map Q6))),(12,q7 (c.length : Int)),(13,q7 j)],[],0⟩) 0 h k (wkA [] [] []) ?_
  intro j n a
  unfold qgd at a
  refine qc<|G _ J<|qa<|qf ?_
  refine qm J a (fun _ a=>?_) (fun _ a=>?_)
  ·refine qk<|qf<|qx<|qc<|O J<|qb J<|qa<|qf<|Q9 [U,U,U,U,U,U,U,U,U] qh<|O J<|O J ?_
   obtain ⟨o,l,a⟩:=q6 a
   refine Q1 l J<|G _ J<|O J<|O J ?_
   obtain ⟨p,m,a⟩:=q6 a
   refine Q1 m J<|G _ J<|G _ J<|qa ?_
   refine qm J a (fun _ a=>?_) (fun _ a=>?_)
   ·refine qc<|qb J<|qo ?_
    refine ⟨_,(Option.some.inj a).symm,fun hm=>?_⟩
    subst hm
    obtain rfl:=qd b
    exact qy _ J
   refine qk<|Q7<|Qg<|qt<|G _ J<|O J<|qr ?_
   exact ⟨_,(Option.some.inj a).symm,wkA [] [] []⟩
  refine Q3 ?_
  refine ⟨_,(Option.some.inj a).symm,fun hm=>?_⟩
  subst hm
  exact ⟨_,J,wkA [] [] []⟩
 intro g hb
 subst hb
 refine qc<|qb J<|qo ?_
 obtain rfl:=qd b
 exact qy _ J
theorem qab (c : List qg) (r : Int) (a : q1n c = some r) : Pure Tryz.prog tab 44 [.sl 6 (c.map Q6)] (q9 r):=by
 unfold q1n at a
 refine Qf Tryz.func44 J qh qh J<|qc<|qb J<|qa<|qf<|qc<|O J<|Qa J<|G _ J<|qa ?_
 refine qm J a (fun _ a=>?_) (fun _ a=>?_)
 ·refine qc<|qb J<|qo ?_
  obtain rfl:=qd a
  exact qy _ J
 refine qk<|qf<|qc<|O J ?_
 obtain ⟨m,n,a⟩:=q6 a
 refine qz (qgc c (fun d=>q2v d) 70 [] (fun d r hr=>q10z d r hr) m n) J<|qa ?_
 refine qm J a (fun _ a=>?_) (fun _ a=>?_)
 ·refine qc<|qb J<|qo ?_
  obtain rfl:=qd a
  exact qy _ J
 refine qk<|qf<|qc<|G _ J<|O J<|q3h (es:=1) ([c].map Ql) J J J J J ?_
 obtain ⟨f,o,a⟩:=q6 a
 refine qz (qn8 c f o) J<|O J<|G _ J<|G _ J<|qb J<|qb J<|qp<|O J<|G _ J ?_
 obtain ⟨p,b,a⟩:=q6 a
 refine Q2 6 (fun A st=>∃ g h j k l,st = A [(24,qu p),(23,l),(22,k),(21,j),(20,h),(19,g)]) ?_ ?_
 ·refine Q0 J J b (fun b=>?_) (fun b=>?_)
  ·refine q8 J<|q8 J<|q8 J<|q8 J<|G _ J<|qa ?_
   obtain rfl:=qd b
   exact ⟨_,_,_,_,_,J⟩
  refine O J<|O J ?_
  obtain ⟨q,s,b⟩:=q6 b
  refine qz (qy3 f.1 c q s) J<|G _ J<|G _ J<|qa ?_
  obtain rfl:=qd b
  exact ⟨_,_,_,_,_,J⟩
 rintro _ ⟨g,h,j,k,l,rfl⟩
 refine qa ?_
 refine qm J a (fun _ a=>?_) (fun _ a=>?_)
 ·refine qc<|qb J<|qo ?_
  obtain rfl:=qd a
  exact qy _ J
 refine qk<|qc<|qb J<|qo ?_
 obtain rfl:=qd a
 exact qy _ J
theorem q128 (a : Qx) (r : Bool) (b : qau a = some r) : Pure Tryz.prog tab 66 [.agg [q9 a.From.X,q9 a.From.Y,q9 a.From.Z,q9 a.To.X,q9 a.To.Y,q9 a.To.Z,q9 a.Depth]] (.bool r):=by
 unfold qau at b
 refine Qf Tryz.func66 J qh qh J<|qc<|Qj _ _ J<|qb J<|qp<|G _ J<|G _ J<|G _ J<|qb J<|qo ?_
 obtain rfl:=qd b
 exact qy _ J
theorem q129 (b : Qn) (f : List (List qg)) (r : Int) (a : qat b f = some r) : Pure Tryz.prog tab 39 [.agg [.sl 7 (b.Lines.map Kb),.sl 5 (b.Marks.map Kj),.int .u8 b.End.Frame.Turn,q9 b.End.Frame.At.X,q9 b.End.Frame.At.Y,q9 b.End.Frame.At.Z,q9 b.End.Drawn],.sl 1 (f.map Ql)] (q9 r):=by
 unfold qat at a
 refine Qf Tryz.func39 J qh qh J<|qc<|Qj _ _ J<|qb J<|qa<|qf<|qc<|G _ J ?_
 obtain ⟨q,s,a⟩:=q6 a
 refine qz (qo3 b q s) J<|O J<|G _ J<|G _ J<|qb J<|qb J<|qp<|O J<|G _ J<|qa ?_
 refine qm J a (fun _ a=>?_) (fun _ a=>?_)
 ·refine qc<|O J<|qb J<|qo ?_
  obtain rfl:=qd a
  exact qy _ J
 refine qk<|qf<|qc<|O J<|Qa J<|G _ J<|qa ?_
 refine qm J a (fun _ a=>?_) (fun _ a=>?_)
 ·refine qc<|qb J<|qo ?_
  obtain rfl:=qd a
  exact qy _ J
 refine qk<|qf<|qc<|O J<|Qa J<|O J<|qa ?_
 obtain ⟨k,t,a⟩:=q6 a
 refine Qc (fun h=>.inl h = k) (fun h=>⟨[(1,.d (.sl 1 (f.map Ql))),(2,.ref 0 7 0 0)],[(0,.dat 7 [[.sl 7 (b.Lines.map Kb),.sl 5 (b.Marks.map Kj),.int .u8 b.End.Frame.Turn,q9 b.End.Frame.At.X,q9 b.End.Frame.At.Y,q9 b.End.Frame.At.Z,q9 b.End.Drawn]])],1⟩) qe ?_ ?_
 ·refine Q5 (q7u f) (fun l=>⟨[(1,.d (.sl 1 (f.map Ql))),(2,.ref 0 7 0 0),(21,.d (.sl 1 (f.map Ql))),(22,q7 (f.length : Int)),(23,q7 l)],[(0,.dat 7 [[.sl 7 (b.Lines.map Kb),.sl 5 (b.Marks.map Kj),.int .u8 b.End.Frame.Turn,q9 b.End.Frame.At.X,q9 b.End.Frame.At.Y,q9 b.End.Frame.At.Z,q9 b.End.Drawn]])],1⟩) 0 k t (wkA [(0,0)] [] []) ?_
  intro l ab c
  unfold q7u at c
  refine qc<|G _ J<|qa<|qf ?_
  refine qm J c (fun _ c=>?_) (fun _ c=>?_)
  ·refine qk<|qf<|qx<|qc ?_
   obtain ⟨u,v,c⟩:=q6 c
   refine Q1 v J<|G _ J<|qb J<|qp<|O J ?_
   obtain ⟨w,x,c⟩:=q6 c
   refine qz (qab u w x) J<|qb J<|qp<|O J<|G _ J<|qa ?_
   refine qm J c (fun _ c=>?_) (fun _ c=>?_)
   ·refine qc<|O J<|qb J<|qo ?_
    refine ⟨_,(Option.some.inj c).symm,fun hm=>?_⟩
    subst hm
    obtain rfl:=qd a
    exact qy _ J
   refine qk<|Q7<|Qg<|qt<|G _ J<|O J<|qr ?_
   exact ⟨_,(Option.some.inj c).symm,wkA [(0,0)] [] []⟩
  refine Q3 ?_
  refine ⟨_,(Option.some.inj c).symm,fun hm=>?_⟩
  subst hm
  exact ⟨_,J,wkA [(0,0)] [] []⟩
 intro h hb
 subst hb
 refine qf<|qc<|G _ J<|G _ J<|Qa J<|G _ J ?_
 obtain ⟨y,g,a⟩:=q6 a
 refine Q2 5 (fun A st=>∃ m n o p,st = A [(41,qu y),(40,p),(39,o),(38,n),(37,m)]) ?_ ?_
 ·refine Q0 J J g (fun g=>?_) (fun g=>?_)
  ·refine O J<|Qa J<|G _ J<|G _ J<|qa ?_
   obtain rfl:=qd g
   exact ⟨_,_,_,_,J⟩
  refine q8 J<|q8 J<|q8 J<|G _ J<|qa ?_
  obtain rfl:=qd g
  exact ⟨_,_,_,_,J⟩
 rintro _ ⟨m,n,o,p,rfl⟩
 refine qa ?_
 refine qm J a (fun _ a=>?_) (fun _ a=>?_)
 ·refine qc<|qb J<|qo ?_
  obtain rfl:=qd a
  exact qy _ J
 refine qk<|qf<|qc<|G _ J<|G _ J ?_
 obtain ⟨z,aa,a⟩:=q6 a
 refine qz (qmr b.Lines (fun j=>qau j) 66 [] (fun j r hr=>q128 j r hr) z aa) J<|qa ?_
 refine qm J a (fun _ a=>?_) (fun _ a=>?_)
 ·refine qc<|qb J<|qo ?_
  obtain rfl:=qd a
  exact qy _ J
 refine qk<|qc<|qb J<|qo ?_
 obtain rfl:=qd a
 exact qy _ J
end Go.Proofs.YtbknppciefodiaaGreat
