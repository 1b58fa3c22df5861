/- W_Allb -/
import Derived.Test.YtbknppciefodiaaGreatK15
namespace Go.Proofs.YtbknppciefodiaaGreat
open Go Go.Am Go.Sh
set_option maxHeartbeats 8000000
set_option maxRecDepth 100000
theorem quz (g : List qj) (a : Int) (b : Int) (l : qj→qj→Option Int) (p3F : FuncId) (p3C : List DV) (p3Ok : ∀ (m : qj) (n : qj) (r : Int),l m n = some r→Pure Tryz.prog tab p3F ([.agg [G m.at_,G m.list_,G m.by_],.agg [G n.at_,G n.list_,G n.by_]] ++ p3C) (G r)) (r : Int × Int) (f : q8j g a b l = some r) : Pure Tryz.prog tab 178 [.sl 3 (g.map Q5),G a,G b,.fn p3F p3C] (.tup [G r.1,G r.2]):=by
 unfold q8j at f
 refine Qg Tryz.func178 J qi qi J<|qb<|qa J<|qa J<|qt<|U J<|U J<|O (.d (G (w64 (b - a)))) J<|qa J<|qt<|K2 J J<|qt<|U J<|U J<|O (.d (G (w64 (Int.tdiv (w64 (b - a)) 4)))) J<|O (.d (G (w64 ((w64 (Int.tdiv (w64 (b - a)) 4)) * 1)))) J<|O (.d (G (w64 (a + (w64 ((w64 (Int.tdiv (w64 (b - a)) 4)) * 1)))))) J<|qa J<|qt<|U J<|U J<|O (.d (G (w64 (Int.tdiv (w64 (b - a)) 4)))) J<|O (.d (G (w64 ((w64 (Int.tdiv (w64 (b - a)) 4)) * 2)))) J<|O (.d (G (w64 (a + (w64 ((w64 (Int.tdiv (w64 (b - a)) 4)) * 2)))))) J<|qa J<|qt<|U J<|U J<|O (.d (G (w64 (Int.tdiv (w64 (b - a)) 4)))) J<|O (.d (G (w64 ((w64 (Int.tdiv (w64 (b - a)) 4)) * 3)))) J<|O (.d (G (w64 (a + (w64 ((w64 (Int.tdiv (w64 (b - a)) 4)) * 3)))))) J<|qa J<|q9<|qf<|qb<|U J<|O (.d (.bool (decide ((w64 (b - a)) ≥ 8)))) J<|q9 ?_
 obtain ⟨t,k,f⟩:=q8 f
 refine Yb (fun h=>h = t) (fun (h : Int × Int)=>⟨[(11,.ref 0 1 0 0),(13,q7 h.1)],[(0,.dat 1 [[G h.2]])],1⟩) qd ?_ ?_
 ·refine qo J k (fun _ k=>?_) (fun _ k=>?_)
  ·refine qf<|qb<|U J<|O (.d (.bool (decide ((w64 (b - a)) ≥ 50)))) J<|q9 ?_
   obtain ⟨u,j,k⟩:=q8 k
   refine Yb (fun c=>c = u) (fun (c : Int × Int × Int × Int)=>⟨[(0,.d (.sl 3 (g.map Q5))),(3,.d (.fn p3F p3C)),(11,.ref 0 1 0 0),(12,q7 c.1),(13,q7 c.2.1),(14,q7 c.2.2.1)],[(0,.dat 1 [[G c.2.2.2]])],1⟩) qd ?_ ?_
   ·refine qo J j (fun _ j=>?_) (fun _ j=>?_)
    ·refine qb<|U J<|U J<|U J ?_
     obtain ⟨o,v,j⟩:=q8 j
     refine K6 [(0,0)] [(0,0)] [.d (.sl 3 (g.map Q5)),.d (G (w64 (a + (w64 ((w64 (Int.tdiv (w64 (b - a)) 4)) * 1))))),.ref 0 1 0 0,.d (.fn p3F p3C)] (q7 o.1) 1 [(0,.dat 1 [[G o.2]])] 1 (qer l p3F p3C p3Ok g (w64 (a + (w64 ((w64 (Int.tdiv (w64 (b - a)) 4)) * 1)))) 0 o v)<|qa J<|qt<|U J<|U J<|U J ?_
     obtain ⟨p,w,j⟩:=q8 j
     refine K6 [(0,0)] [(0,0)] [.d (.sl 3 (g.map Q5)),.d (G (w64 (a + (w64 ((w64 (Int.tdiv (w64 (b - a)) 4)) * 2))))),.ref 0 1 0 0,.d (.fn p3F p3C)] (q7 p.1) 1 [(0,.dat 1 [[G p.2]])] 1 (qer l p3F p3C p3Ok g (w64 (a + (w64 ((w64 (Int.tdiv (w64 (b - a)) 4)) * 2)))) o.2 p w)<|qa J<|q9<|qu<|U J<|U J<|U J ?_
     obtain ⟨q,x,j⟩:=q8 j
     refine K6 [(0,0)] [(0,0)] [.d (.sl 3 (g.map Q5)),.d (G (w64 (a + (w64 ((w64 (Int.tdiv (w64 (b - a)) 4)) * 3))))),.ref 0 1 0 0,.d (.fn p3F p3C)] (q7 q.1) 1 [(0,.dat 1 [[G q.2]])] 1 (qer l p3F p3C p3Ok g (w64 (a + (w64 ((w64 (Int.tdiv (w64 (b - a)) 4)) * 3)))) p.2 q x)<|qa J<|qs ?_
     obtain rfl:=qe j
     exact ⟨_,J,wkA [(0,0)] [] []⟩
    refine qn<|Q9 ?_
    obtain rfl:=qe j
    exact ⟨_,J,wkA [(0,0)] [] []⟩
   intro c hb
   subst hb
   refine qu<|U J<|U J<|U J<|U J<|U J ?_
   obtain ⟨s,y,k⟩:=q8 k
   refine K6 [(0,0)] [(0,0)] [.d (.sl 3 (g.map Q5)),q7 c.1,q7 c.2.1,q7 c.2.2.1,.ref 0 1 0 0,.d (.fn p3F p3C)] (q7 s.1) 1 [(0,.dat 1 [[G s.2]])] 1 (qkd l p3F p3C p3Ok g c.1 c.2.1 c.2.2.1 c.2.2.2 s y)<|qa J<|qs ?_
   obtain rfl:=qe k
   exact ⟨_,J,wkA [(0,0)] [] []⟩
  refine qn<|Q9 ?_
  obtain rfl:=qe k
  exact ⟨_,J,wkA [(0,0)] [] []⟩
 intro h hb
 subst hb
 refine qb<|O (q7 h.2) J<|q9<|Q0<|qb<|O (qh (h.2 == 0)) J<|qa J<|q9 ?_
 refine qo J f (fun _ f=>?_) (fun _ f=>?_)
 ·refine qb<|U J<|qa J<|qa J<|qp ?_
  obtain rfl:=qe f
  exact Q1 (.d (.tup [G h.1,G 1])) J
 refine qb<|O (qh (h.2 == 12)) J<|qa J<|q9 ?_
 refine qo J f (fun _ f=>?_) (fun _ f=>?_)
 ·refine qb<|U J<|qa J<|qa J<|qp ?_
  obtain rfl:=qe f
  exact Q1 (.d (.tup [G h.1,G 2])) J
 refine qb<|U J<|qa J<|qa J<|qp ?_
 obtain rfl:=qe f
 exact Q1 (.d (.tup [G h.1,G 0])) J
theorem qvf (n : qj→qj→Option Int) (q1F : FuncId) (q1C : List DV) (_q1Ok : ∀ (g : qj) (h : qj) (r : Int),n g h = some r→Pure Tryz.prog tab q1F ([.agg [G g.at_,G g.list_,G g.by_],.agg [G h.at_,G h.list_,G h.by_]] ++ q1C) (G r)) (j : List qj) (m : Int) (k : Int) (r : List qj) (l : q94 n j m k = some r) : K0 Tryz.prog tab 179 [.hs 0 3 0 j.length,q7 m,q7 k,.d (.fn q1F q1C)] [(0,.dat 3 (j.map Q5))] 1 (.d (.tup [])) [(0,.dat 3 (r.map Q5))] 1:=by
 unfold q94 at l
 refine Kf Tryz.func179 J qi qi J<|qb<|U J<|qa J<|qt<|U J<|O (.d (G (w64 (k - 1)))) J<|qa J<|q9 ?_
 obtain ⟨t,u,l⟩:=q8 l
 refine Q0<|Q8 (q95) (fun (b : Int × Int × List qj)=>⟨[(0,.hs 0 3 0 b.2.2.length),(8,q7 b.1),(9,q7 b.2.1)],[(0,.dat 3 (b.2.2.map Q5))],1⟩) (m,w64 (k - 1),j) t u (wkA [] [] []) ?_
 intro b v a
 unfold q95 at a
 refine qf<|qb<|U J<|U J<|O (.d (.bool (decide (b.1 < b.2.1)))) J<|q9 ?_
 refine qo J a (fun _ a=>?_) (fun _ a=>?_)
 ·refine qn<|Q0<|qf<|Q7 [Qk 0,q0,Qk 0,q0,qq 0,q0,q0,q0,qq 0,q0,q0,q0,q0,q0,q0,q0] qi<|U J<|U J<|U J<|U J<|U J<|U J ?_
  obtain ⟨c,o,a⟩:=q8 a
  refine qr o J J<|Q2 (.d (.agg [G c.at_,G c.list_,G c.by_])) o J<|U J<|U J ?_
  obtain ⟨f,p,a⟩:=q8 a
  refine qr p J J<|Q2 (.d (.agg [G f.at_,G f.list_,G f.by_])) p J ?_
  obtain ⟨w,q,a⟩:=q8 a
  refine qr q J J<|Qt (ds:=[G c.at_,G c.list_,G c.by_]) c q J J J J J J J J (leb J) J ?_
  obtain ⟨x,s,a⟩:=q8 a
  refine qr s qd J<|Qt (ds:=[G f.at_,G f.list_,G f.by_]) f s J J J J J J J J (leb J) J<|qt<|U J<|O (.d (G (w64 (b.1 + 1)))) J<|qa J<|q9<|qu<|U J<|O (.d (G (w64 (b.2.1 - 1)))) J<|qa J<|qs<|Qc<|Q9 ?_
  exact ⟨_,(Option.some.inj a).symm,wkE [] [] [] J ⟨⟨_,J,Qx qd J qy (ltd J)⟩,ql J,ql J,trivial⟩ ⟨Qm J J,trivial⟩⟩
 refine Q3 ?_
 refine ⟨_,(Option.some.inj a).symm,fun hm=>?_⟩
 subst hm
 obtain rfl:=qe l
 exact ⟨.inl J,_,J,wkA [] [] []⟩
theorem qv5 (q1 : qj→qj→Option Int) (q1F : FuncId) (q1C : List DV) (q1Ok : ∀ (x0 : qj) (x1 : qj) (r : Int),q1 x0 x1 = some r→Pure Tryz.prog tab q1F ([.agg [G x0.at_,G x0.list_,G x0.by_],.agg [G x1.at_,G x1.list_,G x1.by_]] ++ q1C) (G r)) (p0 : List qj) (j : Int) (h : Int) (r : Bool × List qj) (h0 : q5r q1 p0 j h = some r) : K0 Tryz.prog tab 180 [.hs 0 3 0 p0.length,q7 j,q7 h,.d (.fn q1F q1C)] [(0,.dat 3 (p0.map Q5))] 1 (qh r.1) [(0,.dat 3 (r.2.map Q5))] 1:=by
 unfold q5r at h0
 refine Kf Tryz.func180 J qi qi J<|qb<|qa J<|qt<|U J<|O (.d (G (w64 (j + 1)))) J<|qa J<|q9<|qf<|qb<|qa J<|q9 ?_
 obtain ⟨ap,ca,h0⟩:=q8 h0
 refine Qe (fun al=>.inl al = ap) (fun (al : List qj)=>⟨[],[(0,.dat 3 (al.map Q5))],1⟩) qd ?_ ?_
 ·refine Q8 (q5s h q1 j) (fun (g : Int × Int × List qj)=>⟨[(0,.hs 0 3 0 g.2.2.length),(1,q7 j),(2,q7 h),(3,.d (.fn q1F q1C)),(9,q7 g.1),(10,q7 g.2.1)],[(0,.dat 3 (g.2.2.map Q5))],1⟩) (w64 (j + 1),0,p0) ap ca (wkA [] [] []) ?_
  intro g cm l
  unfold q5s at l
  refine qf<|qb<|U J<|O (.d (.bool (decide (g.2.1 < 5)))) J<|q9 ?_
  refine qo J l (fun _ l=>?_) (fun _ l=>?_)
  ·refine qn<|qf ?_
   obtain ⟨cb,a,l⟩:=q8 l
   refine Qe (fun af=>.inl af = cb) (fun (af : Int × List qj)=>⟨[(0,.hs 0 3 0 af.2.length),(1,q7 j),(2,q7 h),(3,.d (.fn q1F q1C)),(9,q7 af.1),(10,q7 g.2.1)],[(0,.dat 3 (af.2.map Q5))],1⟩) qd ?_ ?_
   ·refine qf ?_
    obtain ⟨aq,cc,a⟩:=q8 a
    refine Qe (fun f=>f = aq) (fun (f : Int)=>⟨[(0,.hs 0 3 0 g.2.2.length),(1,q7 j),(2,q7 h),(3,.d (.fn q1F q1C)),(9,q7 f),(10,q7 g.2.1)],[(0,.dat 3 (g.2.2.map Q5))],1⟩) qd ?_ ?_
    ·refine Q8 (q8q h g q1) (fun (ah : Int)=>⟨[(0,.hs 0 3 0 g.2.2.length),(1,q7 j),(2,q7 h),(3,.d (.fn q1F q1C)),(9,q7 ah),(10,q7 g.2.1)],[(0,.dat 3 (g.2.2.map Q5))],1⟩) g.1 aq cc (wkA [] [] []) ?_
     intro ah cn o
     unfold q8q at o
     refine qf<|qf<|Q7 [q0,q0,q0,q0,qq 0,q0,q0,q0,q0,qq 0,q0,q0,q0,q0,q0,q0,q0,q0] qi<|U J<|U J<|O (.d (.bool (decide (ah < h)))) J ?_
     obtain ⟨cd,k,o⟩:=q8 o
     refine Qa 15 (fun A st=>∃ (ar au av aw ax ay az ba bb bc bd be bf bg : V),st = A [(36,qh cd),(35,bg),(34,bf),(33,be),(32,bd),(31,bc),(30,bb),(29,ba),(28,az),(27,ay),(26,ax),(25,aw),(24,av),(23,au),(22,ar)]) ?_ ?_
     ·refine Qb J J k (fun k=>?_) (fun k=>?_)
      ·refine U J<|U J<|U J ?_
       obtain ⟨t,bh,k⟩:=q8 k
       refine qr bh J J<|Q2 (.d (.agg [G t.at_,G t.list_,G t.by_])) bh J<|U J<|U J<|O (.d (G (w64 (ah - 1)))) J ?_
       obtain ⟨u,bi,k⟩:=q8 k
       refine qr bi J J<|Q2 (.d (.agg [G u.at_,G u.list_,G u.by_])) bi J ?_
       obtain ⟨am,ce,k⟩:=q8 k
       refine Yd [.d (.agg [G t.at_,G t.list_,G t.by_]),.d (.agg [G u.at_,G u.list_,G u.by_])] (q1Ok t u am ce) J J J (.inl J)<|O (.d (.bool (decide (am < 0)))) J<|O (.d (.bool (!(decide (am < 0))))) J<|O (.d (.bool (!(decide (am < 0))))) J<|q9 ?_
       obtain rfl:=qe k
       exact ⟨_,_,_,_,_,_,_,_,_,_,_,_,_,_,J⟩
      refine qc J<|qc J<|qc J<|qc J<|qc J<|qc J<|qc J<|qc J<|qc J<|qc J<|qc J<|qc J<|qc J<|O (qh false) J<|q9 ?_
      obtain rfl:=qe k
      exact ⟨_,_,_,_,_,_,_,_,_,_,_,_,_,_,J⟩
     rintro _ ⟨ar,au,av,aw,ax,ay,az,ba,bb,bc,bd,be,bf,bg,rfl⟩
     refine q9 ?_
     refine qo J o (fun _ o=>?_) (fun _ o=>?_)
     ·refine qn<|Q0<|qu<|U J<|O (.d (G (w64 (ah + 1)))) J<|qa J<|qs<|Qc<|Q9 ?_
      exact ⟨_,(Option.some.inj o).symm,wkA [] [] []⟩
     refine Q3 ?_
     refine ⟨_,(Option.some.inj o).symm,fun hm=>?_⟩
     subst hm
     exact ⟨_,J,wkA [] [] []⟩
    intro f hb
    subst hb
    refine qf<|qb<|U J<|U J<|O (qh (f == h)) J<|q9 ?_
    refine qo J a (fun _ a=>?_) (fun _ a=>?_)
    ·refine qb<|qa J<|qp ?_
     obtain rfl:=qe a
     refine ⟨_,(Option.some.inj l).symm,fun hm=>?_⟩
     subst hm
     obtain rfl:=qe h0
     exact ⟨.inr J,_,J,wkA [] [] []⟩
    refine qn<|qf<|qb<|U J<|U J<|O (.d (G (w64 (h - j)))) J<|O (.d (.bool (decide ((w64 (h - j)) < 50)))) J<|q9 ?_
    refine qo J a (fun _ a=>?_) (fun _ a=>?_)
    ·refine qb<|qa J<|qp ?_
     obtain rfl:=qe a
     refine ⟨_,(Option.some.inj l).symm,fun hm=>?_⟩
     subst hm
     obtain rfl:=qe h0
     exact ⟨.inr J,_,J,wkA [] [] []⟩
    refine qn<|qf<|Q7 [Qk 0,q0,Qk 0,q0,qq 0,q0,q0,q0,qq 0,q0,q0,q0,q0,q0,q0,q0,q0,q0] qi<|U J<|U J<|U J<|U J<|O (.d (G (w64 (f - 1)))) J<|U J<|U J<|O (.d (G (w64 (f - 1)))) J ?_
    obtain ⟨p,bj,a⟩:=q8 a
    refine qr bj J J<|Q2 (.d (.agg [G p.at_,G p.list_,G p.by_])) bj J<|U J<|U J ?_
    obtain ⟨q,bk,a⟩:=q8 a
    refine qr bk J J<|Q2 (.d (.agg [G q.at_,G q.list_,G q.by_])) bk J ?_
    obtain ⟨co,bl,a⟩:=q8 a
    refine qr bl J J<|Qt (ds:=[G p.at_,G p.list_,G p.by_]) p bl J J J J J J J J (leb J) J ?_
    obtain ⟨cp,bm,a⟩:=q8 a
    refine qr bm qd J<|Qt (ds:=[G q.at_,G q.list_,G q.by_]) q bm J J J J J J J J (leb J) J<|q9<|qf<|qb<|U J<|U J<|O (.d (G (w64 (f - j)))) J<|O (.d (.bool (decide ((w64 (f - j)) ≥ 2)))) J<|q9 ?_
    obtain ⟨cf,s,a⟩:=q8 a
    refine Yb (fun ag=>ag = cf) (fun (ag : List qj)=>⟨[(0,.hs 0 3 0 ag.length),(1,q7 j),(2,q7 h),(3,.d (.fn q1F q1C)),(9,q7 f),(10,q7 g.2.1)],[(0,.dat 3 (ag.map Q5))],1⟩) qd ?_ ?_
    ·refine qo J s (fun _ s=>?_) (fun _ s=>?_)
     ·refine qb<|U J<|O (.d (G (w64 (f - 1)))) J<|qa J<|q9 ?_
      obtain ⟨cg,ch,s⟩:=q8 s
      refine Q0<|Q8 (q8r q1) (fun (m : Int × List qj)=>⟨[(0,.hs 0 3 0 m.2.length),(1,q7 j),(2,q7 h),(3,.d (.fn q1F q1C)),(9,q7 f),(10,q7 g.2.1),(11,q7 m.1)],[(0,.dat 3 (m.2.map Q5))],1⟩) (w64 (f - 1),(g.2.2.set f.toNat p).set (w64 (f - 1)).toNat q) cg ch (wkE [] [] [] J ⟨⟨_,J,Qx qd J qy (ltd J)⟩,ql J,ql J,ql J,ql J,ql J,ql J,trivial⟩ ⟨Qm J J,trivial⟩) ?_
      intro m cq b
      unfold q8r at b
      refine qf<|qb<|U J<|O (.d (.bool (decide (m.1 ≥ 1)))) J<|q9 ?_
      refine qo J b (fun _ b=>?_) (fun _ b=>?_)
      ·refine qn<|qf<|Q0<|qf<|qf<|Q7 [q0,q0,q0,qq 0,q0,q0,q0,q0,qq 0,q0,q0,q0,q0] qi<|U J<|U J<|U J ?_
       obtain ⟨v,bn,b⟩:=q8 b
       refine qr bn J J<|Q2 (.d (.agg [G v.at_,G v.list_,G v.by_])) bn J<|U J<|U J<|O (.d (G (w64 (m.1 - 1)))) J ?_
       obtain ⟨w,bo,b⟩:=q8 b
       refine qr bo J J<|Q2 (.d (.agg [G w.at_,G w.list_,G w.by_])) bo J ?_
       obtain ⟨an,ci,b⟩:=q8 b
       refine Yd [.d (.agg [G v.at_,G v.list_,G v.by_]),.d (.agg [G w.at_,G w.list_,G w.by_])] (q1Ok v w an ci) J J J (.inl J)<|O (.d (.bool (decide (an < 0)))) J<|O (.d (.bool (!(decide (an < 0))))) J<|q9 ?_
       refine qo J b (fun _ b=>?_) (fun _ b=>?_)
       ·refine Q3 ?_
        refine ⟨_,(Option.some.inj b).symm,fun hm=>?_⟩
        subst hm
        obtain rfl:=qe s
        exact ⟨_,J,wkA [] [] []⟩
       refine qn<|Q7 [Qk 0,q0,Qk 0,q0,qq 0,q0,q0,q0,qq 0,q0,q0,q0,q0,q0,q0,q0,q0,q0] qi<|U J<|U J<|U J<|U J<|O (.d (G (w64 (m.1 - 1)))) J<|U J<|U J<|O (.d (G (w64 (m.1 - 1)))) J ?_
       obtain ⟨x,bp,b⟩:=q8 b
       refine qr bp J J<|Q2 (.d (.agg [G x.at_,G x.list_,G x.by_])) bp J<|U J<|U J ?_
       obtain ⟨y,bq,b⟩:=q8 b
       refine qr bq J J<|Q2 (.d (.agg [G y.at_,G y.list_,G y.by_])) bq J ?_
       obtain ⟨cr,br,b⟩:=q8 b
       refine qr br J J<|Qt (ds:=[G x.at_,G x.list_,G x.by_]) x br J J J J J J J J (leb J) J ?_
       obtain ⟨cs,bs,b⟩:=q8 b
       refine qr bs qd J<|Qt (ds:=[G y.at_,G y.list_,G y.by_]) y bs J J J J J J J J (leb J) J<|qs<|Qc<|qu<|U J<|O (.d (G (w64 (m.1 - 1)))) J<|qa J<|qs ?_
       exact ⟨_,(Option.some.inj b).symm,wkE [] [] [] J ⟨⟨_,J,Qx qd J qy (ltd J)⟩,ql J,ql J,ql J,ql J,ql J,ql J,trivial⟩ ⟨Qm J J,trivial⟩⟩
      refine Q3 ?_
      refine ⟨_,(Option.some.inj b).symm,fun hm=>?_⟩
      subst hm
      obtain rfl:=qe s
      exact ⟨_,J,wkA [] [] []⟩
     refine qn<|Q9 ?_
     obtain rfl:=qe s
     exact ⟨_,J,wkE [] [] [] J ⟨⟨_,J,Qx qd J qy (ltd J)⟩,ql J,ql J,ql J,ql J,ql J,trivial⟩ ⟨Qm J J,trivial⟩⟩
    intro ag hb
    subst hb
    refine qb<|U J<|U J<|O (.d (G (w64 (h - f)))) J<|O (.d (.bool (decide ((w64 (h - f)) ≥ 2)))) J<|q9 ?_
    refine qo J a (fun _ a=>?_) (fun _ a=>?_)
    ·refine qb<|U J<|O (.d (G (w64 (f + 1)))) J<|qa J<|q9 ?_
     obtain ⟨cj,ck,a⟩:=q8 a
     refine Q0<|Q8 (q8s h q1 f) (fun (n : Int × List qj)=>⟨[(0,.hs 0 3 0 n.2.length),(1,q7 j),(2,q7 h),(3,.d (.fn q1F q1C)),(9,q7 f),(10,q7 g.2.1),(12,q7 n.1)],[(0,.dat 3 (n.2.map Q5))],1⟩) (w64 (f + 1),ag) cj ck (wkA [] [] []) ?_
     intro n ct c
     unfold q8s at c
     refine qf<|qb<|U J<|U J<|O (.d (.bool (decide (n.1 < h)))) J<|q9 ?_
     refine qo J c (fun _ c=>?_) (fun _ c=>?_)
     ·refine qn<|qf<|Q0<|qf<|qf<|Q7 [q0,q0,q0,qq 0,q0,q0,q0,q0,qq 0,q0,q0,q0,q0] qi<|U J<|U J<|U J ?_
      obtain ⟨z,bt,c⟩:=q8 c
      refine qr bt J J<|Q2 (.d (.agg [G z.at_,G z.list_,G z.by_])) bt J<|U J<|U J<|O (.d (G (w64 (n.1 - 1)))) J ?_
      obtain ⟨aa,bu,c⟩:=q8 c
      refine qr bu J J<|Q2 (.d (.agg [G aa.at_,G aa.list_,G aa.by_])) bu J ?_
      obtain ⟨ao,cl,c⟩:=q8 c
      refine Yd [.d (.agg [G z.at_,G z.list_,G z.by_]),.d (.agg [G aa.at_,G aa.list_,G aa.by_])] (q1Ok z aa ao cl) J J J (.inl J)<|O (.d (.bool (decide (ao < 0)))) J<|O (.d (.bool (!(decide (ao < 0))))) J<|q9 ?_
      refine qo J c (fun _ c=>?_) (fun _ c=>?_)
      ·refine Q3 ?_
       refine ⟨_,(Option.some.inj c).symm,fun hm=>?_⟩
       subst hm
       obtain rfl:=qe a
       exact ⟨_,J,wkA [] [] []⟩
      refine qn<|Q7 [Qk 0,q0,Qk 0,q0,qq 0,q0,q0,q0,qq 0,q0,q0,q0,q0,q0,q0,q0,q0,q0] qi<|U J<|U J<|U J<|U J<|O (.d (G (w64 (n.1 - 1)))) J<|U J<|U J<|O (.d (G (w64 (n.1 - 1)))) J ?_
      obtain ⟨ab,bv,c⟩:=q8 c
      refine qr bv J J<|Q2 (.d (.agg [G ab.at_,G ab.list_,G ab.by_])) bv J<|U J<|U J ?_
      obtain ⟨ac,bw,c⟩:=q8 c
      refine qr bw J J<|Q2 (.d (.agg [G ac.at_,G ac.list_,G ac.by_])) bw J ?_
      obtain ⟨cu,bx,c⟩:=q8 c
      refine qr bx J J<|Qt (ds:=[G ab.at_,G ab.list_,G ab.by_]) ab bx J J J J J J J J (leb J) J ?_
      obtain ⟨cv,bz,c⟩:=q8 c
      refine qr bz qd J<|Qt (ds:=[G ac.at_,G ac.list_,G ac.by_]) ac bz J J J J J J J J (leb J) J<|qs<|Qc<|qu<|U J<|O (.d (G (w64 (n.1 + 1)))) J<|qa J<|qs ?_
      exact ⟨_,(Option.some.inj c).symm,wkE [] [] [] J ⟨⟨_,J,Qx qd J qy (ltd J)⟩,ql J,ql J,ql J,ql J,ql J,ql J,trivial⟩ ⟨Qm J J,trivial⟩⟩
     refine Q3 ?_
     refine ⟨_,(Option.some.inj c).symm,fun hm=>?_⟩
     subst hm
     obtain rfl:=qe a
     exact ⟨_,J,wkA [] [] []⟩
    refine qn<|Q9 ?_
    obtain rfl:=qe a
    exact ⟨_,J,wkA [] [] []⟩
   intro af hb
   subst hb
   refine qu<|U J<|O (.d (G (w64 (g.2.1 + 1)))) J<|qa J<|qs ?_
   exact ⟨_,(Option.some.inj l).symm,wkA [] [] []⟩
  refine Q3 ?_
  refine ⟨_,(Option.some.inj l).symm,fun hm=>?_⟩
  subst hm
  exact ⟨_,J,wkA [] [] []⟩
 intro al hb
 subst hb
 refine qb<|qa J<|qp ?_
 obtain rfl:=qe h0
 exact ⟨.inr J,_,J,wkA [] [] []⟩
theorem qv8 (w : qj→qj→Option Int) (q1F : FuncId) (q1C : List DV) (q1Ok : ∀ (y : qj) (z : qj) (r : Int),w y z = some r→Pure Tryz.prog tab q1F ([.agg [G y.at_,G y.list_,G y.by_],.agg [G z.at_,G z.list_,G z.by_]] ++ q1C) (G r)) (p0 : List qj) (c : Int) (p2 : Int) (p3 : Int) (r : Int × List qj) (f : q90 w p0 c p2 p3 = some r) : K0 Tryz.prog tab 181 [.hs 0 3 0 p0.length,q7 c,q7 p2,q7 p3,.d (.fn q1F q1C)] [(0,.dat 3 (p0.map Q5))] 1 (q7 r.1) [(0,.dat 3 (r.2.map Q5))] 1:=by
 unfold q90 at f
 refine Kf Tryz.func181 J qi qi J<|qb<|qa J<|q9<|qf<|Q7 [Qk 0,q0,Qk 0,q0,qq 0,q0,q0,q0,qq 0,q0,q0,q0,q0,q0,q0,q0] qi<|U J<|U J<|U J<|U J<|U J<|U J ?_
 obtain ⟨k,ah,f⟩:=q8 f
 refine qr ah J J<|Q2 (.d (.agg [G k.at_,G k.list_,G k.by_])) ah J<|U J<|U J ?_
 obtain ⟨l,ai,f⟩:=q8 f
 refine qr ai J J<|Q2 (.d (.agg [G l.at_,G l.list_,G l.by_])) ai J ?_
 obtain ⟨cf,aj,f⟩:=q8 f
 refine qr aj J J<|Qt (ds:=[G k.at_,G k.list_,G k.by_]) k aj J J J J J J J J (leb J) J ?_
 obtain ⟨cg,ak,f⟩:=q8 f
 refine qr ak qd J<|Qt (ds:=[G l.at_,G l.list_,G l.by_]) l ak J J J J J J J J (leb J) J<|qt<|U J<|O (.d (G (w64 (c + 1)))) J<|U J<|O (.d (G (w64 (p2 - 1)))) J<|qa J<|qa J<|q9<|qf ?_
 obtain ⟨al,bx,f⟩:=q8 f
 refine Qe (fun x=>x = al) (fun (x : Int × List qj)=>⟨[(11,q7 x.1)],[(0,.dat 3 (x.2.map Q5))],1⟩) qd ?_ ?_
 ·refine Q8 (q91 c w) (fun (a : Int × Int × List qj)=>⟨[(0,.hs 0 3 0 a.2.2.length),(1,q7 c),(4,.d (.fn q1F q1C)),(11,q7 a.1),(12,q7 a.2.1)],[(0,.dat 3 (a.2.2.map Q5))],1⟩) (w64 (c + 1),w64 (p2 - 1),(p0.set c.toNat k).set p3.toNat l) al bx (wkE [] [] [] J ⟨⟨_,J,Qx qd J qy (ltd J)⟩,ql J,ql J,ql J,ql J,trivial⟩ ⟨Qm J J,trivial⟩) ?_
  intro a ch b
  unfold q91 at b
  refine Q0<|qf ?_
  obtain ⟨am,bz,b⟩:=q8 b
  refine Qe (fun j=>j = am) (fun (j : Int)=>⟨[(0,.hs 0 3 0 a.2.2.length),(1,q7 c),(4,.d (.fn q1F q1C)),(11,q7 j),(12,q7 a.2.1)],[(0,.dat 3 (a.2.2.map Q5))],1⟩) qd ?_ ?_
  ·refine Q8 (q92 a c w) (fun (ac : Int)=>⟨[(0,.hs 0 3 0 a.2.2.length),(1,q7 c),(4,.d (.fn q1F q1C)),(11,q7 ac),(12,q7 a.2.1)],[(0,.dat 3 (a.2.2.map Q5))],1⟩) a.1 am bz (wkA [] [] []) ?_
   intro ac ci m
   unfold q92 at m
   refine qf<|qf<|Q7 [q0,q0,q0,q0,qq 0,q0,q0,q0,qq 0,q0,q0,q0,q0,q0,q0,q0,q0] qi<|U J<|U J<|O (.d (.bool (decide (ac≤a.2.1)))) J ?_
   obtain ⟨ca,g,m⟩:=q8 m
   refine Qa 14 (fun A st=>∃ (an ao ap aq ar au av aw ax ay az ba bb : V),st = A [(47,qh ca),(46,bb),(45,ba),(44,az),(43,ay),(42,ax),(41,aw),(40,av),(39,au),(38,ar),(37,aq),(36,ap),(35,ao),(34,an)]) ?_ ?_
   ·refine Qb J J g (fun g=>?_) (fun g=>?_)
    ·refine U J<|U J<|U J ?_
     obtain ⟨o,bc,g⟩:=q8 g
     refine qr bc J J<|Q2 (.d (.agg [G o.at_,G o.list_,G o.by_])) bc J<|U J<|U J ?_
     obtain ⟨p,bd,g⟩:=q8 g
     refine qr bd J J<|Q2 (.d (.agg [G p.at_,G p.list_,G p.by_])) bd J ?_
     obtain ⟨ad,cb,g⟩:=q8 g
     refine Yd [.d (.agg [G o.at_,G o.list_,G o.by_]),.d (.agg [G p.at_,G p.list_,G p.by_])] (q1Ok o p ad cb) J J J (.inl J)<|O (.d (.bool (decide (ad < 0)))) J<|O (.d (.bool (!(decide (ad < 0))))) J<|O (.d (.bool (!(decide (ad < 0))))) J<|q9 ?_
     obtain rfl:=qe g
     exact ⟨_,_,_,_,_,_,_,_,_,_,_,_,_,J⟩
    refine qc J<|qc J<|qc J<|qc J<|qc J<|qc J<|qc J<|qc J<|qc J<|qc J<|qc J<|qc J<|O (qh false) J<|q9 ?_
    obtain rfl:=qe g
    exact ⟨_,_,_,_,_,_,_,_,_,_,_,_,_,J⟩
   rintro _ ⟨an,ao,ap,aq,ar,au,av,aw,ax,ay,az,ba,bb,rfl⟩
   refine q9 ?_
   refine qo J m (fun _ m=>?_) (fun _ m=>?_)
   ·refine qn<|Q0<|qu<|U J<|O (.d (G (w64 (ac + 1)))) J<|qa J<|qs<|Qc<|Q9 ?_
    exact ⟨_,(Option.some.inj m).symm,wkA [] [] []⟩
   refine Q3 ?_
   refine ⟨_,(Option.some.inj m).symm,fun hm=>?_⟩
   subst hm
   exact ⟨_,J,wkA [] [] []⟩
  intro j hb
  subst hb
  refine qf ?_
  obtain ⟨be,cc,b⟩:=q8 b
  refine Qe (fun v=>v = be) (fun (v : Int)=>⟨[(0,.hs 0 3 0 a.2.2.length),(1,q7 c),(4,.d (.fn q1F q1C)),(11,q7 j),(12,q7 v)],[(0,.dat 3 (a.2.2.map Q5))],1⟩) qd ?_ ?_
  ·refine Q8 (q93 j a c w) (fun (ae : Int)=>⟨[(0,.hs 0 3 0 a.2.2.length),(1,q7 c),(4,.d (.fn q1F q1C)),(11,q7 j),(12,q7 ae)],[(0,.dat 3 (a.2.2.map Q5))],1⟩) a.2.1 be cc (wkA [] [] []) ?_
   intro ae cj n
   unfold q93 at n
   refine qf<|qf<|Q7 [q0,q0,q0,qq 0,q0,q0,q0,qq 0,q0,q0,q0,q0,q0,q0,q0,q0] qi<|U J<|U J<|O (.d (.bool (decide (j≤ae)))) J ?_
   obtain ⟨cd,h,n⟩:=q8 n
   refine Qa 13 (fun A st=>∃ (bf bg bh bi bj bk bl bm bn bo bp bq : V),st = A [(65,qh cd),(64,bq),(63,bp),(62,bo),(61,bn),(60,bm),(59,bl),(58,bk),(57,bj),(56,bi),(55,bh),(54,bg),(53,bf)]) ?_ ?_
   ·refine Qb J J h (fun h=>?_) (fun h=>?_)
    ·refine U J<|U J<|U J ?_
     obtain ⟨q,br,h⟩:=q8 h
     refine qr br J J<|Q2 (.d (.agg [G q.at_,G q.list_,G q.by_])) br J<|U J<|U J ?_
     obtain ⟨s,bs,h⟩:=q8 h
     refine qr bs J J<|Q2 (.d (.agg [G s.at_,G s.list_,G s.by_])) bs J ?_
     obtain ⟨ag,ce,h⟩:=q8 h
     refine Yd [.d (.agg [G q.at_,G q.list_,G q.by_]),.d (.agg [G s.at_,G s.list_,G s.by_])] (q1Ok q s ag ce) J J J (.inl J)<|O (.d (.bool (decide (ag < 0)))) J<|O (.d (.bool (decide (ag < 0)))) J<|q9 ?_
     obtain rfl:=qe h
     exact ⟨_,_,_,_,_,_,_,_,_,_,_,_,J⟩
    refine qc J<|qc J<|qc J<|qc J<|qc J<|qc J<|qc J<|qc J<|qc J<|qc J<|qc J<|O (qh false) J<|q9 ?_
    obtain rfl:=qe h
    exact ⟨_,_,_,_,_,_,_,_,_,_,_,_,J⟩
   rintro _ ⟨bf,bg,bh,bi,bj,bk,bl,bm,bn,bo,bp,bq,rfl⟩
   refine q9 ?_
   refine qo J n (fun _ n=>?_) (fun _ n=>?_)
   ·refine qn<|Q0<|qu<|U J<|O (.d (G (w64 (ae - 1)))) J<|qa J<|qs<|Qc<|Q9 ?_
    exact ⟨_,(Option.some.inj n).symm,wkA [] [] []⟩
   refine Q3 ?_
   refine ⟨_,(Option.some.inj n).symm,fun hm=>?_⟩
   subst hm
   exact ⟨_,J,wkA [] [] []⟩
  intro v hb
  subst hb
  refine qf<|qb<|U J<|U J<|O (.d (.bool (decide (j > v)))) J<|q9 ?_
  refine qo J b (fun _ b=>?_) (fun _ b=>?_)
  ·refine Q3 ?_
   refine ⟨_,(Option.some.inj b).symm,fun hm=>?_⟩
   subst hm
   exact ⟨_,J,wkA [] [] []⟩
  refine qn<|qf<|Q7 [Qk 0,q0,Qk 0,q0,qq 0,q0,q0,q0,qq 0,q0,q0,q0,q0,q0,q0,q0] qi<|U J<|U J<|U J<|U J<|U J<|U J ?_
  obtain ⟨t,bt,b⟩:=q8 b
  refine qr bt J J<|Q2 (.d (.agg [G t.at_,G t.list_,G t.by_])) bt J<|U J<|U J ?_
  obtain ⟨u,bu,b⟩:=q8 b
  refine qr bu J J<|Q2 (.d (.agg [G u.at_,G u.list_,G u.by_])) bu J ?_
  obtain ⟨ck,bv,b⟩:=q8 b
  refine qr bv J J<|Qt (ds:=[G t.at_,G t.list_,G t.by_]) t bv J J J J J J J J (leb J) J ?_
  obtain ⟨cl,bw,b⟩:=q8 b
  refine qr bw qd J<|Qt (ds:=[G u.at_,G u.list_,G u.by_]) u bw J J J J J J J J (leb J) J<|qt<|U J<|O (.d (G (w64 (j + 1)))) J<|qa J<|q9<|qu<|U J<|O (.d (G (w64 (v - 1)))) J<|qa J<|qs<|Qc<|Q9 ?_
  exact ⟨_,(Option.some.inj b).symm,wkE [] [] [] J ⟨⟨_,J,Qx qd J qy (ltd J)⟩,ql J,ql J,ql J,ql J,trivial⟩ ⟨Qm J J,trivial⟩⟩
 intro x hb
 subst hb
 refine qb<|U J<|qa J<|qp ?_
 obtain rfl:=qe f
 exact ⟨.inr J,_,J,wkA [] [] []⟩
theorem qv7 (q1 : qj→qj→Option Int) (q1F : FuncId) (q1C : List DV) (q1Ok : ∀ (x0 : qj) (x1 : qj) (r : Int),q1 x0 x1 = some r→Pure Tryz.prog tab q1F ([.agg [G x0.at_,G x0.list_,G x0.by_],.agg [G x1.at_,G x1.list_,G x1.by_]] ++ q1C) (G r)) (j : List qj) (b : Int) (s : Int) (k : Int) (r : Int × Bool × List qj) (a : q8u q1 j b s k = some r) : K0 Tryz.prog tab 182 [.hs 0 3 0 j.length,q7 b,q7 s,q7 k,.d (.fn q1F q1C)] [(0,.dat 3 (j.map Q5))] 1 (.d (.tup [G r.1,.bool r.2.1])) [(0,.dat 3 (r.2.2.map Q5))] 1:=by
 unfold q8u at a
 refine Kf Tryz.func182 J qi qi J<|qb<|qa J<|qa J<|q9<|qf<|Q7 [Qk 0,q0,Qk 0,q0,qq 0,q0,q0,q0,qq 0,q0,q0,q0,q0,q0,q0,q0] qi<|U J<|U J<|U J<|U J<|U J<|U J ?_
 obtain ⟨f,bd,a⟩:=q8 a
 refine qr bd J J<|Q2 (.d (.agg [G f.at_,G f.list_,G f.by_])) bd J<|U J<|U J ?_
 obtain ⟨g,be,a⟩:=q8 a
 refine qr be J J<|Q2 (.d (.agg [G g.at_,G g.list_,G g.by_])) be J ?_
 obtain ⟨gc,bf,a⟩:=q8 a
 refine qr bf J J<|Qt (ds:=[G f.at_,G f.list_,G f.by_]) f bf J J J J J J J J (leb J) J ?_
 obtain ⟨gd,bg,a⟩:=q8 a
 refine qr bg qd J<|Qt (ds:=[G g.at_,G g.list_,G g.by_]) g bg J J J J J J J J (leb J) J<|qt<|U J<|O (.d (G (w64 (b + 1)))) J<|U J<|O (.d (G (w64 (s - 1)))) J<|qa J<|qa J<|q9<|qf ?_
 obtain ⟨bh,fo,a⟩:=q8 a
 refine Qe (fun l=>l = bh) (fun (l : Int)=>⟨[(0,.hs 0 3 0 ((j.set b.toNat f).set k.toNat g).length),(1,q7 b),(4,.d (.fn q1F q1C)),(12,q7 l),(13,.d (G (w64 (s - 1))))],[(0,.dat 3 (((j.set b.toNat f).set k.toNat g).map Q5))],1⟩) qd ?_ ?_
 ·refine Q8 (q8v s j b f k g q1) (fun (av : Int)=>⟨[(0,.hs 0 3 0 ((j.set b.toNat f).set k.toNat g).length),(1,q7 b),(4,.d (.fn q1F q1C)),(12,q7 av),(13,.d (G (w64 (s - 1))))],[(0,.dat 3 (((j.set b.toNat f).set k.toNat g).map Q5))],1⟩) (w64 (b + 1)) bh fo (wkE [] [] [] J ⟨⟨_,J,Qx qd J qy (ltd J)⟩,ql J,ql J,ql J,ql J,trivial⟩ ⟨Qm J J,trivial⟩) ?_
  intro av ge t
  unfold q8v at t
  refine qf<|qf<|Q7 [q0,q0,q0,qq 0,q0,q0,q0,qq 0,q0,q0,q0,q0,q0,q0,q0,q0] qi<|U J<|U J<|O (.d (.bool (decide (av≤(w64 (s - 1)))))) J ?_
  obtain ⟨fq,m,t⟩:=q8 t
  refine Qa 13 (fun A st=>∃ (bi bj bk bl bm bn bo bp bq br bs bt : V),st = A [(47,qh fq),(46,bt),(45,bs),(44,br),(43,bq),(42,bp),(41,bo),(40,bn),(39,bm),(38,bl),(37,bk),(36,bj),(35,bi)]) ?_ ?_
  ·refine Qb J J m (fun m=>?_) (fun m=>?_)
   ·refine U J<|U J<|U J ?_
    obtain ⟨ab,bu,m⟩:=q8 m
    refine qr bu J J<|Q2 (.d (.agg [G ab.at_,G ab.list_,G ab.by_])) bu J<|U J<|U J ?_
    obtain ⟨ac,bv,m⟩:=q8 m
    refine qr bv J J<|Q2 (.d (.agg [G ac.at_,G ac.list_,G ac.by_])) bv J ?_
    obtain ⟨bb,fr,m⟩:=q8 m
    refine Yd [.d (.agg [G ab.at_,G ab.list_,G ab.by_]),.d (.agg [G ac.at_,G ac.list_,G ac.by_])] (q1Ok ab ac bb fr) J J J (.inl J)<|O (.d (.bool (decide (bb < 0)))) J<|O (.d (.bool (decide (bb < 0)))) J<|q9 ?_
    obtain rfl:=qe m
    exact ⟨_,_,_,_,_,_,_,_,_,_,_,_,J⟩
   refine qc J<|qc J<|qc J<|qc J<|qc J<|qc J<|qc J<|qc J<|qc J<|qc J<|qc J<|O (qh false) J<|q9 ?_
   obtain rfl:=qe m
   exact ⟨_,_,_,_,_,_,_,_,_,_,_,_,J⟩
  rintro _ ⟨bi,bj,bk,bl,bm,bn,bo,bp,bq,br,bs,bt,rfl⟩
  refine q9 ?_
  refine qo J t (fun _ t=>?_) (fun _ t=>?_)
  ·refine qn<|Q0<|qu<|U J<|O (.d (G (w64 (av + 1)))) J<|qa J<|qs<|Qc<|Q9 ?_
   exact ⟨_,(Option.some.inj t).symm,wkA [] [] []⟩
  refine Q3 ?_
  refine ⟨_,(Option.some.inj t).symm,fun hm=>?_⟩
  subst hm
  exact ⟨_,J,wkA [] [] []⟩
 intro l hb
 subst hb
 refine qf ?_
 obtain ⟨bw,fs,a⟩:=q8 a
 refine Qe (fun u=>u = bw) (fun (u : Int)=>⟨[(0,.hs 0 3 0 ((j.set b.toNat f).set k.toNat g).length),(1,q7 b),(4,.d (.fn q1F q1C)),(12,q7 l),(13,q7 u)],[(0,.dat 3 (((j.set b.toNat f).set k.toNat g).map Q5))],1⟩) qd ?_ ?_
 ·refine Q8 (q8w l j b f k g q1) (fun (aw : Int)=>⟨[(0,.hs 0 3 0 ((j.set b.toNat f).set k.toNat g).length),(1,q7 b),(4,.d (.fn q1F q1C)),(12,q7 l),(13,q7 aw)],[(0,.dat 3 (((j.set b.toNat f).set k.toNat g).map Q5))],1⟩) (w64 (s - 1)) bw fs (wkA [] [] []) ?_
  intro aw gf v
  unfold q8w at v
  refine qf<|qf<|Q7 [q0,q0,q0,q0,qq 0,q0,q0,q0,qq 0,q0,q0,q0,q0,q0,q0,q0,q0] qi<|U J<|U J<|O (.d (.bool (decide (l≤aw)))) J ?_
  obtain ⟨ft,n,v⟩:=q8 v
  refine Qa 14 (fun A st=>∃ (bx bz ca cb cc cd ce cf cg ch ci cj ck : V),st = A [(66,qh ft),(65,ck),(64,cj),(63,ci),(62,ch),(61,cg),(60,cf),(59,ce),(58,cd),(57,cc),(56,cb),(55,ca),(54,bz),(53,bx)]) ?_ ?_
  ·refine Qb J J n (fun n=>?_) (fun n=>?_)
   ·refine U J<|U J<|U J ?_
    obtain ⟨ad,cl,n⟩:=q8 n
    refine qr cl J J<|Q2 (.d (.agg [G ad.at_,G ad.list_,G ad.by_])) cl J<|U J<|U J ?_
    obtain ⟨ae,cm,n⟩:=q8 n
    refine qr cm J J<|Q2 (.d (.agg [G ae.at_,G ae.list_,G ae.by_])) cm J ?_
    obtain ⟨ax,fu,n⟩:=q8 n
    refine Yd [.d (.agg [G ad.at_,G ad.list_,G ad.by_]),.d (.agg [G ae.at_,G ae.list_,G ae.by_])] (q1Ok ad ae ax fu) J J J (.inl J)<|O (.d (.bool (decide (ax < 0)))) J<|O (.d (.bool (!(decide (ax < 0))))) J<|O (.d (.bool (!(decide (ax < 0))))) J<|q9 ?_
    obtain rfl:=qe n
    exact ⟨_,_,_,_,_,_,_,_,_,_,_,_,_,J⟩
   refine qc J<|qc J<|qc J<|qc J<|qc J<|qc J<|qc J<|qc J<|qc J<|qc J<|qc J<|qc J<|O (qh false) J<|q9 ?_
   obtain rfl:=qe n
   exact ⟨_,_,_,_,_,_,_,_,_,_,_,_,_,J⟩
  rintro _ ⟨bx,bz,ca,cb,cc,cd,ce,cf,cg,ch,ci,cj,ck,rfl⟩
  refine q9 ?_
  refine qo J v (fun _ v=>?_) (fun _ v=>?_)
  ·refine qn<|Q0<|qu<|U J<|O (.d (G (w64 (aw - 1)))) J<|qa J<|qs<|Qc<|Q9 ?_
   exact ⟨_,(Option.some.inj v).symm,wkA [] [] []⟩
  refine Q3 ?_
  refine ⟨_,(Option.some.inj v).symm,fun hm=>?_⟩
  subst hm
  exact ⟨_,J,wkA [] [] []⟩
 intro u hb
 subst hb
 refine qf<|qb<|U J<|U J<|O (.d (.bool (decide (l > u)))) J<|q9 ?_
 refine qo J a (fun _ a=>?_) (fun _ a=>?_)
 ·refine qf<|Q7 [Qk 0,q0,Qk 0,q0,qq 0,q0,q0,q0,qq 0,q0,q0,q0,q0,q0,q0,q0] qi<|U J<|U J<|U J<|U J<|U J<|U J ?_
  obtain ⟨af,cn,a⟩:=q8 a
  refine qr cn J J<|Q2 (.d (.agg [G af.at_,G af.list_,G af.by_])) cn J<|U J<|U J ?_
  obtain ⟨ag,co,a⟩:=q8 a
  refine qr co J J<|Q2 (.d (.agg [G ag.at_,G ag.list_,G ag.by_])) co J ?_
  obtain ⟨gg,cp,a⟩:=q8 a
  refine qr cp J J<|Qt (ds:=[G af.at_,G af.list_,G af.by_]) af cp J J J J J J J J (leb J) J ?_
  obtain ⟨gh,cq,a⟩:=q8 a
  refine qr cq qd J<|Qt (ds:=[G ag.at_,G ag.list_,G ag.by_]) ag cq J J J J J J J J (leb J) J<|qt<|U J<|qa J<|qa J<|qp ?_
  obtain rfl:=qe a
  exact ⟨.inr J,_,J,wkA [] [] []⟩
 refine qn<|qf<|Q7 [Qk 0,q0,Qk 0,q0,qq 0,q0,q0,q0,qq 0,q0,q0,q0,q0,q0,q0,q0] qi<|U J<|U J<|U J<|U J<|U J<|U J ?_
 obtain ⟨w,cr,a⟩:=q8 a
 refine qr cr J J<|Q2 (.d (.agg [G w.at_,G w.list_,G w.by_])) cr J<|U J<|U J ?_
 obtain ⟨x,cs,a⟩:=q8 a
 refine qr cs J J<|Q2 (.d (.agg [G x.at_,G x.list_,G x.by_])) cs J ?_
 obtain ⟨gi,ct,a⟩:=q8 a
 refine qr ct J J<|Qt (ds:=[G w.at_,G w.list_,G w.by_]) w ct J J J J J J J J (leb J) J ?_
 obtain ⟨gj,cu,a⟩:=q8 a
 refine qr cu qd J<|Qt (ds:=[G x.at_,G x.list_,G x.by_]) x cu J J J J J J J J (leb J) J<|qt<|U J<|O (.d (G (w64 (l + 1)))) J<|qa J<|qt<|U J<|O (.d (G (w64 (u - 1)))) J<|qa J<|q9<|qf ?_
 obtain ⟨cv,fv,a⟩:=q8 a
 refine Qe (fun ap=>ap = cv) (fun (ap : Int × List qj)=>⟨[(0,.hs 0 3 0 ap.2.length),(1,q7 b),(13,q7 ap.1)],[(0,.dat 3 (ap.2.map Q5))],1⟩) qd ?_ ?_
 ·refine Q8 (q8x b q1) (fun (c : Int × Int × List qj)=>⟨[(0,.hs 0 3 0 c.2.2.length),(1,q7 b),(4,.d (.fn q1F q1C)),(12,q7 c.1),(13,q7 c.2.1)],[(0,.dat 3 (c.2.2.map Q5))],1⟩) (w64 (l + 1),w64 (u - 1),(((j.set b.toNat f).set k.toNat g).set l.toNat w).set u.toNat x) cv fv (wkE [] [] [] J ⟨⟨_,J,Qx qd J qy (ltd J)⟩,ql J,ql J,ql J,ql J,trivial⟩ ⟨Qm J J,trivial⟩) ?_
  intro c gk h
  unfold q8x at h
  refine Q0<|qf ?_
  obtain ⟨cw,fw,h⟩:=q8 h
  refine Qe (fun q=>q = cw) (fun (q : Int)=>⟨[(0,.hs 0 3 0 c.2.2.length),(1,q7 b),(4,.d (.fn q1F q1C)),(12,q7 q),(13,q7 c.2.1)],[(0,.dat 3 (c.2.2.map Q5))],1⟩) qd ?_ ?_
  ·refine Q8 (q8y c b q1) (fun (ay : Int)=>⟨[(0,.hs 0 3 0 c.2.2.length),(1,q7 b),(4,.d (.fn q1F q1C)),(12,q7 ay),(13,q7 c.2.1)],[(0,.dat 3 (c.2.2.map Q5))],1⟩) c.1 cw fw (wkA [] [] []) ?_
   intro ay gl y
   unfold q8y at y
   refine qf<|qf<|Q7 [q0,q0,q0,qq 0,q0,q0,q0,qq 0,q0,q0,q0,q0,q0,q0,q0,q0] qi<|U J<|U J<|O (.d (.bool (decide (ay≤c.2.1)))) J ?_
   obtain ⟨fx,o,y⟩:=q8 y
   refine Qa 13 (fun A st=>∃ (cx cy cz da dc dd de df dg dh dj dk : V),st = A [(120,qh fx),(119,dk),(118,dj),(117,dh),(116,dg),(115,df),(114,de),(113,dd),(112,dc),(111,da),(110,cz),(109,cy),(108,cx)]) ?_ ?_
   ·refine Qb J J o (fun o=>?_) (fun o=>?_)
    ·refine U J<|U J<|U J ?_
     obtain ⟨ah,dl,o⟩:=q8 o
     refine qr dl J J<|Q2 (.d (.agg [G ah.at_,G ah.list_,G ah.by_])) dl J<|U J<|U J ?_
     obtain ⟨ai,dm,o⟩:=q8 o
     refine qr dm J J<|Q2 (.d (.agg [G ai.at_,G ai.list_,G ai.by_])) dm J ?_
     obtain ⟨bc,fy,o⟩:=q8 o
     refine Yd [.d (.agg [G ah.at_,G ah.list_,G ah.by_]),.d (.agg [G ai.at_,G ai.list_,G ai.by_])] (q1Ok ah ai bc fy) J J J (.inl J)<|O (.d (.bool (decide (bc < 0)))) J<|O (.d (.bool (decide (bc < 0)))) J<|q9 ?_
     obtain rfl:=qe o
     exact ⟨_,_,_,_,_,_,_,_,_,_,_,_,J⟩
    refine qc J<|qc J<|qc J<|qc J<|qc J<|qc J<|qc J<|qc J<|qc J<|qc J<|qc J<|O (qh false) J<|q9 ?_
    obtain rfl:=qe o
    exact ⟨_,_,_,_,_,_,_,_,_,_,_,_,J⟩
   rintro _ ⟨cx,cy,cz,da,dc,dd,de,df,dg,dh,dj,dk,rfl⟩
   refine q9 ?_
   refine qo J y (fun _ y=>?_) (fun _ y=>?_)
   ·refine qn<|Q0<|qu<|U J<|O (.d (G (w64 (ay + 1)))) J<|qa J<|qs<|Qc<|Q9 ?_
    exact ⟨_,(Option.some.inj y).symm,wkA [] [] []⟩
   refine Q3 ?_
   refine ⟨_,(Option.some.inj y).symm,fun hm=>?_⟩
   subst hm
   exact ⟨_,J,wkA [] [] []⟩
  intro q hb
  subst hb
  refine qf ?_
  obtain ⟨dn,fz,h⟩:=q8 h
  refine Qe (fun aq=>aq = dn) (fun (aq : Int)=>⟨[(0,.hs 0 3 0 c.2.2.length),(1,q7 b),(4,.d (.fn q1F q1C)),(12,q7 q),(13,q7 aq)],[(0,.dat 3 (c.2.2.map Q5))],1⟩) qd ?_ ?_
  ·refine Q8 (q8z q c b q1) (fun (az : Int)=>⟨[(0,.hs 0 3 0 c.2.2.length),(1,q7 b),(4,.d (.fn q1F q1C)),(12,q7 q),(13,q7 az)],[(0,.dat 3 (c.2.2.map Q5))],1⟩) c.2.1 dn fz (wkA [] [] []) ?_
   intro az gm z
   unfold q8z at z
   refine qf<|qf<|Q7 [q0,q0,q0,q0,qq 0,q0,q0,q0,qq 0,q0,q0,q0,q0,q0,q0,q0,q0] qi<|U J<|U J<|O (.d (.bool (decide (q≤az)))) J ?_
   obtain ⟨ga,p,z⟩:=q8 z
   refine Qa 14 (fun A st=>∃ (dp dq dr dt du dv dw dx dy dz fa fb fc : V),st = A [(139,qh ga),(138,fc),(137,fb),(136,fa),(135,dz),(134,dy),(133,dx),(132,dw),(131,dv),(130,du),(129,dt),(128,dr),(127,dq),(126,dp)]) ?_ ?_
   ·refine Qb J J p (fun p=>?_) (fun p=>?_)
    ·refine U J<|U J<|U J ?_
     obtain ⟨aj,fd,p⟩:=q8 p
     refine qr fd J J<|Q2 (.d (.agg [G aj.at_,G aj.list_,G aj.by_])) fd J<|U J<|U J ?_
     obtain ⟨ak,fe,p⟩:=q8 p
     refine qr fe J J<|Q2 (.d (.agg [G ak.at_,G ak.list_,G ak.by_])) fe J ?_
     obtain ⟨ba,gb,p⟩:=q8 p
     refine Yd [.d (.agg [G aj.at_,G aj.list_,G aj.by_]),.d (.agg [G ak.at_,G ak.list_,G ak.by_])] (q1Ok aj ak ba gb) J J J (.inl J)<|O (.d (.bool (decide (ba < 0)))) J<|O (.d (.bool (!(decide (ba < 0))))) J<|O (.d (.bool (!(decide (ba < 0))))) J<|q9 ?_
     obtain rfl:=qe p
     exact ⟨_,_,_,_,_,_,_,_,_,_,_,_,_,J⟩
    refine qc J<|qc J<|qc J<|qc J<|qc J<|qc J<|qc J<|qc J<|qc J<|qc J<|qc J<|qc J<|O (qh false) J<|q9 ?_
    obtain rfl:=qe p
    exact ⟨_,_,_,_,_,_,_,_,_,_,_,_,_,J⟩
   rintro _ ⟨dp,dq,dr,dt,du,dv,dw,dx,dy,dz,fa,fb,fc,rfl⟩
   refine q9 ?_
   refine qo J z (fun _ z=>?_) (fun _ z=>?_)
   ·refine qn<|Q0<|qu<|U J<|O (.d (G (w64 (az - 1)))) J<|qa J<|qs<|Qc<|Q9 ?_
    exact ⟨_,(Option.some.inj z).symm,wkA [] [] []⟩
   refine Q3 ?_
   refine ⟨_,(Option.some.inj z).symm,fun hm=>?_⟩
   subst hm
   exact ⟨_,J,wkA [] [] []⟩
  intro aq hb
  subst hb
  refine qf<|qb<|U J<|U J<|O (.d (.bool (decide (q > aq)))) J<|q9 ?_
  refine qo J h (fun _ h=>?_) (fun _ h=>?_)
  ·refine Q3 ?_
   refine ⟨_,(Option.some.inj h).symm,fun hm=>?_⟩
   subst hm
   exact ⟨_,J,wkA [] [] []⟩
  refine qn<|qf<|Q7 [Qk 0,q0,Qk 0,q0,qq 0,q0,q0,q0,qq 0,q0,q0,q0,q0,q0,q0,q0] qi<|U J<|U J<|U J<|U J<|U J<|U J ?_
  obtain ⟨al,ff,h⟩:=q8 h
  refine qr ff J J<|Q2 (.d (.agg [G al.at_,G al.list_,G al.by_])) ff J<|U J<|U J ?_
  obtain ⟨am,fg,h⟩:=q8 h
  refine qr fg J J<|Q2 (.d (.agg [G am.at_,G am.list_,G am.by_])) fg J ?_
  obtain ⟨gn,fh,h⟩:=q8 h
  refine qr fh J J<|Qt (ds:=[G al.at_,G al.list_,G al.by_]) al fh J J J J J J J J (leb J) J ?_
  obtain ⟨go,fi,h⟩:=q8 h
  refine qr fi qd J<|Qt (ds:=[G am.at_,G am.list_,G am.by_]) am fi J J J J J J J J (leb J) J<|qt<|U J<|O (.d (G (w64 (q + 1)))) J<|qa J<|q9<|qu<|U J<|O (.d (G (w64 (aq - 1)))) J<|qa J<|qs<|Qc<|Q9 ?_
  exact ⟨_,(Option.some.inj h).symm,wkE [] [] [] J ⟨⟨_,J,Qx qd J qy (ltd J)⟩,ql J,ql J,ql J,ql J,trivial⟩ ⟨Qm J J,trivial⟩⟩
 intro ap hb
 subst hb
 refine qf<|Q7 [Qk 0,q0,Qk 0,q0,qq 0,q0,q0,q0,qq 0,q0,q0,q0,q0,q0,q0,q0] qi<|U J<|U J<|U J<|U J<|U J<|U J ?_
 obtain ⟨an,fj,a⟩:=q8 a
 refine qr fj J J<|Q2 (.d (.agg [G an.at_,G an.list_,G an.by_])) fj J<|U J<|U J ?_
 obtain ⟨ao,fk,a⟩:=q8 a
 refine qr fk J J<|Q2 (.d (.agg [G ao.at_,G ao.list_,G ao.by_])) fk J ?_
 obtain ⟨gp,fl,a⟩:=q8 a
 refine qr fl J J<|Qt (ds:=[G an.at_,G an.list_,G an.by_]) an fl J J J J J J J J (leb J) J ?_
 obtain ⟨gq,fm,a⟩:=q8 a
 refine qr fm qd J<|Qt (ds:=[G ao.at_,G ao.list_,G ao.by_]) ao fm J J J J J J J J (leb J) J<|qt<|U J<|qa J<|qa J<|qp ?_
 obtain rfl:=qe a
 exact ⟨.inr J,_,J,wkA [] [] []⟩
theorem qux (s : qj→qj→Option Int) (q1F : FuncId) (q1C : List DV) (_q1Ok : ∀ (o : qj) (p : qj) (r : Int),s o p = some r→Pure Tryz.prog tab q1F ([.agg [G o.at_,G o.list_,G o.by_],.agg [G p.at_,G p.list_,G p.by_]] ++ q1C) (G r)) (q : List qj) (a : Int) (b : Int) (r : List qj) (g : q8h s q a b = some r) : K0 Tryz.prog tab 177 [.hs 0 3 0 q.length,q7 a,q7 b,.d (.fn q1F q1C)] [(0,.dat 3 (q.map Q5))] 1 (.d (.tup [])) [(0,.dat 3 (r.map Q5))] 1:=by
 unfold q8h at g
 refine Kf Tryz.func177 J qi qi J<|qb<|U J<|U J<|O (.d (G (w64 (b - a)))) J<|qa J<|qt<|U J<|O (.d (.bool (decide ((w64 (b - a)) ≥ 8)))) J<|q9 ?_
 refine qo J g (fun _ g=>?_) (fun _ g=>?_)
 ·refine qb<|U J<|O (.d (.int .u64 (IntKind.wrap .u64 (w64 (b - a))))) J<|K2 J J<|Qp 1 (.dat 1 [[.int .u64 (IntKind.wrap .u64 (w64 (b - a)))]]) J<|qt<|U J ?_
  obtain ⟨h,x,g⟩:=q8 g
  refine qz (qkf (w64 (b - a)) h x) J<|qa J<|qt<|U J<|U J<|O (.d (G (w64 (Int.tdiv (w64 (b - a)) 4)))) J<|O (.d (G (w64 ((w64 (Int.tdiv (w64 (b - a)) 4)) * 2)))) J<|O (.d (G (w64 (a + (w64 ((w64 (Int.tdiv (w64 (b - a)) 4)) * 2)))))) J<|O (.d (G (w64 ((w64 (a + (w64 ((w64 (Int.tdiv (w64 (b - a)) 4)) * 2)))) - 1)))) J<|qa J<|q9 ?_
  obtain ⟨y,z,g⟩:=q8 g
  refine Q0<|Q8 (q8i a b h) (fun (f : Int × List qj × Int)=>⟨[(0,.hs 0 3 0 f.2.1.length),(1,q7 a),(8,.d (G (w64 (b - a)))),(9,.ref 1 1 0 0),(10,.d (.int .u64 h)),(11,q7 f.1)],[(0,.dat 3 (f.2.1.map Q5)),(1,.dat 1 [[.int .u64 f.2.2]])],2⟩) (w64 ((w64 (a + (w64 ((w64 (Int.tdiv (w64 (b - a)) 4)) * 2)))) - 1),q,IntKind.wrap .u64 (w64 (b - a))) y z (wkA [(1,1)] [] []) ?_
  intro f ac c
  unfold q8i at c
  refine qf<|qb<|U J<|U J<|U J<|O (.d (G (w64 (Int.tdiv (w64 (b - a)) 4)))) J<|O (.d (G (w64 ((w64 (Int.tdiv (w64 (b - a)) 4)) * 2)))) J<|O (.d (G (w64 (a + (w64 ((w64 (Int.tdiv (w64 (b - a)) 4)) * 2)))))) J<|O (.d (G (w64 ((w64 (a + (w64 ((w64 (Int.tdiv (w64 (b - a)) 4)) * 2)))) + 1)))) J<|O (.d (.bool (decide (f.1≤(w64 ((w64 (a + (w64 ((w64 (Int.tdiv (w64 (b - a)) 4)) * 2)))) + 1)))))) J<|q9 ?_
  refine qo J c (fun _ c=>?_) (fun _ c=>?_)
  ·refine qn<|qf<|Q0<|qb ?_
   obtain ⟨j,aa,c⟩:=q8 c
   refine K6 [(0,1)] [(0,1),(1,0)] [.ref 1 1 0 0] (.d (.int .u64 j)) 1 [(1,.dat 1 [[.int .u64 j]]),(0,.dat 3 (f.2.1.map Q5))] 2 (qki f.2.2 j aa)<|U J<|O (.d (.int .u64 (IntKind.wrap .u64 (h - 1)))) J<|O (.d (.int .u64 (andI .u64 j (IntKind.wrap .u64 (h - 1))))) J<|O (.d (G (w64 (andI .u64 j (IntKind.wrap .u64 (h - 1)))))) J<|qa J<|q9<|qf<|qb<|U J<|U J<|O (.d (.bool (decide ((w64 (andI .u64 j (IntKind.wrap .u64 (h - 1)))) ≥ (w64 (b - a)))))) J<|q9 ?_
   obtain ⟨ab,n,c⟩:=q8 c
   refine Yb (fun m=>m = ab) (fun (m : Int)=>⟨[(0,.hs 0 3 0 f.2.1.length),(1,q7 a),(8,.d (G (w64 (b - a)))),(9,.ref 1 1 0 0),(10,.d (.int .u64 h)),(11,q7 f.1),(12,q7 m)],[(0,.dat 3 (f.2.1.map Q5)),(1,.dat 1 [[.int .u64 j]])],2⟩) qd ?_ ?_
   ·refine qo J n (fun _ n=>?_) (fun _ n=>?_)
    ·refine qu<|U J<|U J<|O (.d (G (w64 ((w64 (andI .u64 j (IntKind.wrap .u64 (h - 1)))) - (w64 (b - a)))))) J<|qa J<|qs ?_
     obtain rfl:=qe n
     exact ⟨_,J,wkA [(1,1)] [] []⟩
    refine qn<|Q9 ?_
    obtain rfl:=qe n
    exact ⟨_,J,wkA [(1,1)] [] []⟩
   intro m hb
   subst hb
   refine Q7 [Qk 0,q0,Qk 0,q0,qq 0,q0,q0,q0,qq 0,q0,q0,q0,q0,q0,q0,q0,q0,q0,q0,q0] qi<|U J<|U J<|U J<|U J<|U J<|O (.d (G (w64 (a + m)))) J<|U J<|U J<|U J<|O (.d (G (w64 (a + m)))) J ?_
   obtain ⟨k,t,c⟩:=q8 c
   refine qr t J J<|Q2 (.d (.agg [G k.at_,G k.list_,G k.by_])) t J<|U J<|U J ?_
   obtain ⟨l,u,c⟩:=q8 c
   refine qr u J J<|Q2 (.d (.agg [G l.at_,G l.list_,G l.by_])) u J ?_
   obtain ⟨ad,v,c⟩:=q8 c
   refine qr v J J<|Qt (ds:=[G k.at_,G k.list_,G k.by_]) k v J J J J J J J J (leb J) J ?_
   obtain ⟨ae,w,c⟩:=q8 c
   refine qr w qd J<|Qt (ds:=[G l.at_,G l.list_,G l.by_]) l w J J J J J J J J (leb J) J<|qs<|Qc<|qu<|U J<|O (.d (G (w64 (f.1 + 1)))) J<|qa J<|qs ?_
   exact ⟨_,(Option.some.inj c).symm,wkE [(1,1)] [] [] J ⟨⟨_,J,Qx qd J qy (ltd J)⟩,ql J,ql J,⟨_,J,.ref J qy (ltd J)⟩,ql J,ql J,trivial⟩ ⟨Qm J J,Qm J J,trivial⟩⟩
  refine Q3 ?_
  refine ⟨_,(Option.some.inj c).symm,fun hm=>?_⟩
  subst hm
  obtain rfl:=qe g
  exact ⟨.inl J,_,J,wkA [] [] []⟩
 refine qn<|Q9 ?_
 obtain rfl:=qe g
 exact ⟨.inl J,_,J,wkA [] [] []⟩
theorem qvb (rec : List qj→Int→Int→Int→Option (List qj)) (j : qj→qj→Option Int) (q1F : FuncId) (q1C : List DV) (q1Ok : ∀ (z : qj) (x1 : qj) (r : Int),j z x1 = some r→Pure Tryz.prog tab q1F ([.agg [G z.at_,G z.list_,G z.by_],.agg [G x1.at_,G x1.list_,G x1.by_]] ++ q1C) (G r)) (hrec : ∀ (o : List qj) (s : Int) (t : Int) (u : Int) (r : List qj),rec o s t u = some r→K0 Tryz.prog tab 172 [.hs 0 3 0 o.length,q7 s,q7 t,q7 u,.d (.fn q1F q1C)] [(0,.dat 3 (o.map Q5))] 1 (.d (.tup [])) [(0,.dat 3 (r.map Q5))] 1) (o : List qj) (s : Int) (t : Int) (u : Int) (r : List qj) (v : q67 rec j o s t u = some r) : K0 Tryz.prog tab 172 [.hs 0 3 0 o.length,q7 s,q7 t,q7 u,.d (.fn q1F q1C)] [(0,.dat 3 (o.map Q5))] 1 (.d (.tup [])) [(0,.dat 3 (r.map Q5))] 1:=by
 unfold q67 at v
 refine Kf Tryz.func172 J qi qi J<|qb<|qa J<|qt<|qa J<|q9 ?_
 obtain ⟨bi,bj,v⟩:=q8 v
 refine Q0<|Q8 (q66 j rec) (fun (a : Int × Int × Int × Bool × Bool × List qj)=>⟨[(0,.hs 0 3 0 a.2.2.2.2.2.length),(1,q7 a.1),(2,q7 a.2.1),(3,q7 a.2.2.1),(4,.d (.fn q1F q1C)),(10,qh a.2.2.2.1),(11,qh a.2.2.2.2.1)],[(0,.dat 3 (a.2.2.2.2.2.map Q5))],1⟩) (s,t,u,true,true,o) bi bj (wkA [] [] []) ?_
 intro a cr b
 unfold q66 at b
 refine Q0<|qb<|U J<|U J<|O (.d (G (w64 (a.2.1 - a.1)))) J<|qa J<|q9<|qf<|qb<|U J<|O (.d (.bool (decide ((w64 (a.2.1 - a.1))≤12)))) J<|q9 ?_
 refine qo J b (fun _ b=>?_) (fun _ b=>?_)
 ·refine qb<|U J<|U J<|U J<|U J ?_
  obtain ⟨ah,bk,b⟩:=q8 b
  obtain ⟨cs,bl,b⟩:=q8 b
  have ct:=Kj bl
  refine K6 [(0,0)] [(0,0)] [.hs 0 3 0 a.2.2.2.2.2.length,q7 a.1,q7 a.2.1,.d (.fn q1F q1C)] (.d (.tup [])) 1 [(0,.dat 3 (ah.map Q5))] 1 (qv3 j q1F q1C q1Ok a.2.2.2.2.2 a.1 a.2.1 ah bk)<|qp ?_
  refine ⟨_,(Option.some.inj b).symm,fun hm=>?_⟩
  subst hm
  obtain rfl:=qe v
  exact ⟨.inr J,_,J,wkA [] [] []⟩
 refine qn<|qf<|qb<|U J<|O (qh (a.2.2.1 == 0)) J<|q9 ?_
 refine qo J b (fun _ b=>?_) (fun _ b=>?_)
 ·refine qb<|U J<|U J<|U J<|U J ?_
  obtain ⟨ai,bm,b⟩:=q8 b
  obtain ⟨cu,bn,b⟩:=q8 b
  have cv:=Kj bn
  refine K6 [(0,0)] [(0,0)] [.hs 0 3 0 a.2.2.2.2.2.length,q7 a.1,q7 a.2.1,.d (.fn q1F q1C)] (.d (.tup [])) 1 [(0,.dat 3 (ai.map Q5))] 1 (qv1 j q1F q1C q1Ok a.2.2.2.2.2 a.1 a.2.1 ai bm)<|qp ?_
  refine ⟨_,(Option.some.inj b).symm,fun hm=>?_⟩
  subst hm
  obtain rfl:=qe v
  exact ⟨.inr J,_,J,wkA [] [] []⟩
 refine qn<|qf<|qb<|U J<|O (qh (!a.2.2.2.1)) J<|q9 ?_
 obtain ⟨bo,m,b⟩:=q8 b
 refine Yb (fun f=>f = bo) (fun (f : Int × List qj)=>⟨[(0,.hs 0 3 0 f.2.length),(1,q7 a.1),(2,q7 a.2.1),(3,q7 f.1),(4,.d (.fn q1F q1C)),(10,qh a.2.2.2.1),(11,qh a.2.2.2.2.1),(12,.d (G (w64 (a.2.1 - a.1))))],[(0,.dat 3 (f.2.map Q5))],1⟩) qd ?_ ?_
 ·refine qo J m (fun _ m=>?_) (fun _ m=>?_)
  ·refine qb<|U J<|U J<|U J<|U J ?_
   obtain ⟨aj,bp,m⟩:=q8 m
   obtain ⟨cw,bq,m⟩:=q8 m
   have br:=Kj bq
   refine K6 [(0,0)] [(0,0)] [.hs 0 3 0 a.2.2.2.2.2.length,q7 a.1,q7 a.2.1,.d (.fn q1F q1C)] (.d (.tup [])) 1 [(0,.dat 3 (aj.map Q5))] 1 (qux j q1F q1C q1Ok a.2.2.2.2.2 a.1 a.2.1 aj bp)<|q9<|qu<|U J<|O (.d (G (w64 (a.2.2.1 - 1)))) J<|qa J<|qs ?_
   obtain rfl:=qe m
   exact ⟨_,J,wkE [] [] [] J ⟨⟨_,J,Qx (by simp [br]) J qy (ltd J)⟩,ql J,ql J,ql J,ql J,ql J,ql J,ql J,trivial⟩ ⟨Qm J J,trivial⟩⟩
  refine qn<|Q9 ?_
  obtain rfl:=qe m
  exact ⟨_,J,wkA [] [] []⟩
 intro f hb
 subst hb
 refine qb<|U J<|U J<|U J<|U J ?_
 obtain ⟨w,bs,b⟩:=q8 b
 refine qar [.hs 0 3 0 f.2.length,q7 a.1,q7 a.2.1,.d (.fn q1F q1C)] (quz f.2 a.1 a.2.1 j q1F q1C q1Ok w bs) J J (q1a (Za J J) (q1a J (q1a J (q1a J J)))) (.inr J)<|U J<|O (q7 w.1) J<|O (q7 w.2) J<|qa J<|qa J<|q9<|qf<|qb<|U J<|O (qh (w.2 == 2)) J<|q9 ?_
 obtain ⟨bt,n,b⟩:=q8 b
 refine Yb (fun g=>g = bt) (fun (g : Int × Int × List qj)=>⟨[(0,.hs 0 3 0 g.2.2.length),(1,q7 a.1),(2,q7 a.2.1),(3,q7 f.1),(4,.d (.fn q1F q1C)),(10,qh a.2.2.2.1),(11,qh a.2.2.2.2.1),(12,.d (G (w64 (a.2.1 - a.1)))),(13,q7 g.1),(14,q7 g.2.1)],[(0,.dat 3 (g.2.2.map Q5))],1⟩) qd ?_ ?_
 ·refine qo J n (fun _ n=>?_) (fun _ n=>?_)
  ·refine qb<|U J<|U J<|U J<|U J ?_
   obtain ⟨ak,bu,n⟩:=q8 n
   obtain ⟨cx,bv,n⟩:=q8 n
   have bw:=Kj bv
   refine K6 [(0,0)] [(0,0)] [.hs 0 3 0 f.2.length,q7 a.1,q7 a.2.1,.d (.fn q1F q1C)] (.d (.tup [])) 1 [(0,.dat 3 (ak.map Q5))] 1 (qvf j q1F q1C q1Ok f.2 a.1 a.2.1 ak bu)<|qt<|U J<|O (.d (G (w64 (a.2.1 - 1)))) J<|U J<|U J<|O (.d (G (w64 (w.1 - a.1)))) J<|O (.d (G (w64 ((w64 (a.2.1 - 1)) - (w64 (w.1 - a.1)))))) J<|qa J<|q9<|qu<|qa J<|qs ?_
   obtain rfl:=qe n
   exact ⟨_,J,wkE [] [] [] J ⟨⟨_,J,Qx (by simp [bw]) J qy (ltd J)⟩,ql J,ql J,ql J,ql J,ql J,ql J,ql J,ql J,ql J,trivial⟩ ⟨Qm J J,trivial⟩⟩
  refine qn<|Q9 ?_
  obtain rfl:=qe n
  exact ⟨_,J,wkA [] [] []⟩
 intro g hb
 subst hb
 refine qf<|qb<|U J ?_
 obtain ⟨bx,x,b⟩:=q8 b
 refine Qa 3 (fun A st=>∃ (al am : V),st = A [(71,qh bx),(70,am),(69,al)]) ?_ ?_
 ·refine Qb J J x (fun x=>?_) (fun x=>?_)
  ·refine U J<|O (qh a.2.2.2.2.1) J<|q9 ?_
   obtain rfl:=qe x
   exact ⟨_,_,J⟩
  refine qc J<|O (qh false) J<|q9 ?_
  obtain rfl:=qe x
  exact ⟨_,_,J⟩
 rintro _ ⟨al,am,rfl⟩
 obtain ⟨bz,y,b⟩:=q8 b
 refine Qa 4 (fun A st=>∃ (an ao ap : V),st = A [(75,qh bz),(74,ap),(73,ao),(72,an)]) ?_ ?_
 ·refine Qb J J y (fun y=>?_) (fun y=>?_)
  ·refine U J<|O (qh (g.2.1 == 1)) J<|O (qh (g.2.1 == 1)) J<|q9 ?_
   obtain rfl:=qe y
   exact ⟨_,_,_,J⟩
  refine qc J<|qc J<|O (qh false) J<|q9 ?_
  obtain rfl:=qe y
  exact ⟨_,_,_,J⟩
 rintro _ ⟨an,ao,ap,rfl⟩
 refine q9 ?_
 obtain ⟨ca,h,b⟩:=q8 b
 refine Yb (fun k=>.inl k = ca) (fun (k : List qj)=>⟨[(0,.hs 0 3 0 k.length),(1,q7 a.1),(2,q7 a.2.1),(3,q7 f.1),(4,.d (.fn q1F q1C)),(10,qh a.2.2.2.1),(11,qh a.2.2.2.2.1),(12,.d (G (w64 (a.2.1 - a.1)))),(13,q7 g.1)],[(0,.dat 3 (k.map Q5))],1⟩) qd ?_ ?_
 ·refine qo J h (fun _ h=>?_) (fun _ h=>?_)
  ·refine qb<|U J<|U J<|U J<|U J ?_
   obtain ⟨ad,cb,h⟩:=q8 h
   obtain ⟨cy,cc,h⟩:=q8 h
   have cd:=Kj cc
   refine K6 [(0,0)] [(0,0)] [.hs 0 3 0 g.2.2.length,q7 a.1,q7 a.2.1,.d (.fn q1F q1C)] (qh ad.1) 1 [(0,.dat 3 (ad.2.map Q5))] 1 (qv5 j q1F q1C q1Ok g.2.2 a.1 a.2.1 ad cb)<|q9 ?_
   refine qo J h (fun _ h=>?_) (fun _ h=>?_)
   ·refine q20 ?_
    obtain rfl:=qe h
    refine ⟨_,(Option.some.inj b).symm,fun hm=>?_⟩
    subst hm
    obtain rfl:=qe v
    exact ⟨.inr J,_,J,wkA [] [] []⟩
   refine qn<|Q9 ?_
   obtain rfl:=qe h
   exact ⟨_,J,wkE [] [] [] J ⟨⟨_,J,Qx (by simp [cd]) J qy (ltd J)⟩,ql J,ql J,ql J,ql J,ql J,ql J,ql J,ql J,trivial⟩ ⟨Qm J J,trivial⟩⟩
  refine qn<|Q9 ?_
  obtain rfl:=qe h
  exact ⟨_,J,wkA [] [] []⟩
 intro k hb
 subst hb
 refine qf<|qf<|Q7 [q0,q0,q0,q0,qq 0,q0,q0,q0,qq 0,q0,q0,q0,q0,q0,q0,q0,q0] qi<|U J<|O (.d (.bool (decide (a.1 > 0)))) J ?_
 obtain ⟨ce,l,b⟩:=q8 b
 refine Qa 15 (fun A st=>∃ (aq ar au av aw ax ay az ba bb bc bd be bf : V),st = A [(97,qh ce),(96,bf),(95,be),(94,bd),(93,bc),(92,bb),(91,ba),(90,az),(89,ay),(88,ax),(87,aw),(86,av),(85,au),(84,ar),(83,aq)]) ?_ ?_
 ·refine Qb J J l (fun l=>?_) (fun l=>?_)
  ·refine U J<|U J<|U J<|O (.d (G (w64 (a.1 - 1)))) J ?_
   obtain ⟨p,bg,l⟩:=q8 l
   refine qr bg J J<|Q2 (.d (.agg [G p.at_,G p.list_,G p.by_])) bg J<|U J<|U J ?_
   obtain ⟨q,bh,l⟩:=q8 l
   refine qr bh J J<|Q2 (.d (.agg [G q.at_,G q.list_,G q.by_])) bh J ?_
   obtain ⟨ab,cf,l⟩:=q8 l
   refine Yd [.d (.agg [G p.at_,G p.list_,G p.by_]),.d (.agg [G q.at_,G q.list_,G q.by_])] (q1Ok p q ab cf) J J J (.inl J)<|O (.d (.bool (decide (ab < 0)))) J<|O (.d (.bool (!(decide (ab < 0))))) J<|O (.d (.bool (!(decide (ab < 0))))) J<|q9 ?_
   obtain rfl:=qe l
   exact ⟨_,_,_,_,_,_,_,_,_,_,_,_,_,_,J⟩
  refine qc J<|qc J<|qc J<|qc J<|qc J<|qc J<|qc J<|qc J<|qc J<|qc J<|qc J<|qc J<|qc J<|O (qh false) J<|q9 ?_
  obtain rfl:=qe l
  exact ⟨_,_,_,_,_,_,_,_,_,_,_,_,_,_,J⟩
 rintro _ ⟨aq,ar,au,av,aw,ax,ay,az,ba,bb,bc,bd,be,bf,rfl⟩
 refine q9 ?_
 refine qo J b (fun _ b=>?_) (fun _ b=>?_)
 ·refine qb<|U J<|U J<|U J<|U J<|U J ?_
  obtain ⟨ae,cg,b⟩:=q8 b
  obtain ⟨cz,ch,b⟩:=q8 b
  have ci:=Kj ch
  refine K6 [(0,0)] [(0,0)] [.hs 0 3 0 k.length,q7 a.1,q7 a.2.1,q7 g.1,.d (.fn q1F q1C)] (q7 ae.1) 1 [(0,.dat 3 (ae.2.map Q5))] 1 (qv8 j q1F q1C q1Ok k a.1 a.2.1 g.1 ae cg)<|qa J<|qt<|U J<|qa J<|q9<|Q3<|q2f<|Q9 ?_
  exact ⟨_,(Option.some.inj b).symm,wkE [] [] [] J ⟨⟨_,J,Qx (by simp [ci]) J qy (ltd J)⟩,ql J,ql J,ql J,ql J,ql J,ql J,trivial⟩ ⟨Qm J J,trivial⟩⟩
 refine qn<|qb<|U J<|U J<|U J<|U J<|U J ?_
 obtain ⟨c,cj,b⟩:=q8 b
 obtain ⟨da,ck,b⟩:=q8 b
 have ac:=Kj ck
 refine K6 [(0,0)] [(0,0)] [.hs 0 3 0 k.length,q7 a.1,q7 a.2.1,q7 g.1,.d (.fn q1F q1C)] (.d (.tup [G c.1,.bool c.2.1])) 1 [(0,.dat 3 (c.2.2.map Q5))] 1 (qv7 j q1F q1C q1Ok k a.1 a.2.1 g.1 c cj)<|U J<|O (q7 c.1) J<|O (qh c.2.1) J<|qa J<|qa J<|qt<|U J<|qa J<|qt<|U J<|U J<|O (.d (G (w64 (c.1 - a.1)))) J<|U J<|U J<|O (.d (G (w64 (a.2.1 - c.1)))) J<|qa J<|qa J<|qt<|U J<|O (.d (G (w64 (Int.tdiv (w64 (a.2.1 - a.1)) 8)))) J<|qa J<|qt<|U J<|U J<|O (.d (.bool (decide ((w64 (c.1 - a.1)) < (w64 (a.2.1 - c.1)))))) J<|q9 ?_
 refine qo J b (fun _ b=>?_) (fun _ b=>?_)
 ·refine qb<|U J<|U J<|O (.d (.bool (decide ((w64 (c.1 - a.1)) ≥ (w64 (Int.tdiv (w64 (a.2.1 - a.1)) 8)))))) J<|qa J<|qt<|U J<|U J<|U J<|U J<|U J ?_
  obtain ⟨af,cl,b⟩:=q8 b
  obtain ⟨dc,cm,b⟩:=q8 b
  have cn:=Kj cm
  refine U7 [(0,0)] [(0,0)] [.hs 0 3 0 k.length,q7 a.1,q7 c.1,q7 f.1,.d (.fn q1F q1C)] (.d (.tup [])) [(0,.dat 3 (af.map Q5))] [(0,.dat 3 (af.map Q5))] 1 (hrec c.2.2 a.1 c.1 f.1 af cl) J J J (Yh [(0,0)] [] [] J ⟨⟨_,J,Qx (by simp [ac]) J qy (ltd J)⟩,ql J,ql J,ql J,ql J,trivial⟩ ⟨Qm J J,trivial⟩) (Yh [(0,0)] [] [] J ⟨ql J,trivial⟩ ⟨Qm J J,trivial⟩) J ⟨.inl J,trivial⟩<|q9<|qu<|U J<|O (.d (G (w64 (c.1 + 1)))) J<|qa J<|qs<|Qc<|Q9 ?_
  exact ⟨_,(Option.some.inj b).symm,wkE [] [] [] J ⟨⟨_,J,Qx (by simp [ac,cn]) J qy (ltd J)⟩,ql J,ql J,ql J,ql J,ql J,ql J,trivial⟩ ⟨Qm J J,trivial⟩⟩
 refine qb<|U J<|U J<|O (.d (.bool (decide ((w64 (a.2.1 - c.1)) ≥ (w64 (Int.tdiv (w64 (a.2.1 - a.1)) 8)))))) J<|qa J<|qt<|U J<|U J<|O (.d (G (w64 (c.1 + 1)))) J<|U J<|U J<|U J ?_
 obtain ⟨ag,co,b⟩:=q8 b
 obtain ⟨dd,cp,b⟩:=q8 b
 have cq:=Kj cp
 refine U7 [(0,0)] [(0,0)] [.hs 0 3 0 k.length,.d (G (w64 (c.1 + 1))),q7 a.2.1,q7 f.1,.d (.fn q1F q1C)] (.d (.tup [])) [(0,.dat 3 (ag.map Q5))] [(0,.dat 3 (ag.map Q5))] 1 (hrec c.2.2 (w64 (c.1 + 1)) a.2.1 f.1 ag co) J J J (Yh [(0,0)] [] [] J ⟨⟨_,J,Qx (by simp [ac]) J qy (ltd J)⟩,ql J,ql J,ql J,ql J,trivial⟩ ⟨Qm J J,trivial⟩) (Yh [(0,0)] [] [] J ⟨ql J,trivial⟩ ⟨Qm J J,trivial⟩) J ⟨.inl J,trivial⟩<|q9<|qu<|U J<|qa J<|qs<|Qc<|Q9 ?_
 exact ⟨_,(Option.some.inj b).symm,wkE [] [] [] J ⟨⟨_,J,Qx (by simp [ac,cq]) J qy (ltd J)⟩,ql J,ql J,ql J,ql J,ql J,ql J,trivial⟩ ⟨Qm J J,trivial⟩⟩
theorem qvc (n : Nat) (g : qj→qj→Option Int) (q1F : FuncId) (q1C : List DV) (q1Ok : ∀ (h : qj) (j : qj) (r : Int),g h j = some r→Pure Tryz.prog tab q1F ([.agg [G h.at_,G h.list_,G h.by_],.agg [G j.at_,G j.list_,G j.by_]] ++ q1C) (G r)) : ∀ (a : List qj) (b : Int) (c : Int) (f : Int) (r : List qj),q65 n g a b c f = some r→K0 Tryz.prog tab 172 [.hs 0 3 0 a.length,q7 b,q7 c,q7 f,.d (.fn q1F q1C)] [(0,.dat 3 (a.map Q5))] 1 (.d (.tup [])) [(0,.dat 3 (r.map Q5))] 1:=by
 induction n with
 | zero=>intro a b c f r k;cases k
 | succ n ih=>intro a b c f r k;exact qvb (q65 n g) g q1F q1C q1Ok ih a b c f r k
theorem quv (g : qj→qj→Option Int) (q1F : FuncId) (q1C : List DV) (q1Ok : ∀ (c : qj) (f : qj) (r : Int),g c f = some r→Pure Tryz.prog tab q1F ([.agg [G c.at_,G c.list_,G c.by_],.agg [G f.at_,G f.list_,G f.by_]] ++ q1C) (G r)) (a : List qj) (r : List qj) (b : q5g g a = some r) : K0 Tryz.prog tab 162 [.hs 0 3 0 a.length,.d (.fn q1F q1C)] [(0,.dat 3 (a.map Q5))] 1 (.d (.tup [])) [(0,.dat 3 (r.map Q5))] 1:=by
 unfold q5g at b
 refine Kf Tryz.func162 J qi qi J<|qb<|U J<|O (q7 (a.length : Int)) J<|qa J<|q9<|qu<|U J<|U J<|U J<|O (.d (.int .u64 (IntKind.wrap .u64 (a.length : Int)))) J ?_
 obtain ⟨h,l,b⟩:=q8 b
 refine qz (qdo (IntKind.wrap .u64 (a.length : Int)) h l) J<|U J ?_
 obtain ⟨k,j,b⟩:=q8 b
 obtain ⟨o,m,b⟩:=q8 b
 have p:=Kj m
 obtain ⟨n,j⟩:=qdj j
 refine K6 [(0,0)] [(0,0)] [.hs 0 3 0 a.length,q7 0,q7 (a.length : Int),q7 h,.d (.fn q1F q1C)] (.d (.tup [])) 1 [(0,.dat 3 (k.map Q5))] 1 (qvc n g q1F q1C q1Ok a 0 (a.length : Int) h k j)<|qs ?_
 obtain rfl:=qe b
 exact ⟨.inl J,_,J,wkA [] [] []⟩
theorem quw (a : List qj) (r : List qj) (b : qbn  a = some r) : K0 Tryz.prog tab 164 [.hs 0 3 0 a.length] [(0,.dat 3 (a.map Q5))] 1 (.fn 173 [.ref 1 1 0 0]) [(0,.dat 3 (r.map Q5)),(1,.cel 1 [[.hs 0 3 0 r.length]])] 2:=by
 unfold qbn at b
 refine Kf Tryz.func164 J qi qi J<|qb<|Qn (.ref 1 1 0 0) (.cel 1 [[.hs 0 3 0 a.length]]) J<|qa J<|qt<|O (.fn 173 [.ref 1 1 0 0]) J<|qa J<|qp ?_
 obtain rfl:=qe b
 exact ⟨.inr J,_,J,wkA [(1,1)] [] []⟩
theorem qy0 (b : List (List qm)) (r : List (List qm) × List qj) (f : q9d  b = some r) : K0 Tryz.prog tab 145 [.hs 0 1 0 b.length] [(0,.dat 1 (b.map Js))] 1 (.fn 173 [.ref 1 1 0 0]) [(0,.dat 1 (r.1.map Js)),(1,.cel 1 [[.hs 2 3 0 r.2.length]]),(2,.dat 3 (r.2.map Q5))] 3:=by
 unfold q9d at f
 refine Kf Tryz.func145 J qi qi J<|qb<|qa J<|qt<|qa J<|q9<|qf<|qb<|U J<|O (q7 (b.length : Int)) J<|U J<|q9 ?_
 obtain ⟨t,v,f⟩:=q8 f
 refine Qe (fun h=>h = t) (fun (h : List qj)=>⟨[(3,.hs 1 3 0 h.length)],[(0,.dat 1 (b.map Js)),(1,.dat 3 (h.map Q5))],2⟩) qd ?_ ?_
 ·refine Q8 (Ua b) (fun (a : Int × List qj)=>⟨[(3,.hs 1 3 0 a.2.length),(8,.hs 0 1 0 b.length),(9,q7 (b.length : Int)),(10,q7 a.1)],[(0,.dat 1 (b.map Js)),(1,.dat 3 (a.2.map Q5))],2⟩) (0,[]) t v (wkA [] [] [1]) ?_
  intro a ag j
  unfold Ua at j
  refine qb<|O (.d (.bool (decide (a.1 < (b.length : Int))))) J<|q9<|qf ?_
  refine qo J j (fun _ j=>?_) (fun _ j=>?_)
  ·refine qn<|qf ?_
   obtain ⟨w,l,j⟩:=q8 j
   refine Qe (fun m=>m = w) (fun (m : List qj)=>⟨[(3,.hs 1 3 0 m.length),(8,.hs 0 1 0 b.length),(9,q7 (b.length : Int)),(10,q7 a.1)],[(0,.dat 1 (b.map Js)),(1,.dat 3 (m.map Q5))],2⟩) qd ?_ ?_
   ·refine qb<|U J ?_
    obtain ⟨n,u,l⟩:=q8 l
    refine qr u J J<|Q2 (.d (.sl 2 (n.map Qh))) u J<|qa J<|qa J<|qt<|U J<|Qd J<|U J<|q9 ?_
    obtain ⟨x,y,l⟩:=q8 l
    refine Q0<|Q8 (q3t n a) (fun (k : Int × List qj)=>⟨[(3,.hs 1 3 0 k.2.length),(4,q7 a.1),(8,.hs 0 1 0 b.length),(9,q7 (b.length : Int)),(10,q7 a.1),(15,.d (.sl 2 (n.map Qh))),(16,q7 (n.length : Int)),(17,q7 k.1)],[(0,.dat 1 (b.map Js)),(1,.dat 3 (k.2.map Q5))],2⟩) (0,a.2) x y (wkA [(1,1)] [] []) ?_
    intro k ah g
    unfold q3t at g
    refine qb<|O (.d (.bool (decide (k.1 < (n.length : Int))))) J<|q9<|qf ?_
    refine qo J g (fun _ g=>?_) (fun _ g=>?_)
    ·refine qn<|qf<|Q0<|qb ?_
     obtain ⟨c,z,g⟩:=q8 g
     refine Q4 (enc:=Qh) z J<|O (.d (.agg [G c.Lo,G c.Hi])) J<|K2 J J<|Qp 2 (.dat 2 [[G c.Lo,G c.Hi]]) J<|q9<|qu<|U J<|O (.ref 2 2 0 0) J<|O (q7 c.Lo) J<|U J<|O (.d (.agg [G c.Lo,G a.1,G 1])) J<|O (.ref 2 2 0 1) J<|O (q7 c.Hi) J<|U J<|O (.d (.agg [G c.Hi,G a.1,G (-1)])) J<|Qn (.hs 3 3 0 [({at_:=c.Lo,list_:=a.1,by_:=1} : qj),({at_:=c.Hi,list_:=a.1,by_:=(-1)} : qj)].length) (.dat 3 ([({at_:=c.Lo,list_:=a.1,by_:=1} : qj),({at_:=c.Hi,list_:=a.1,by_:=(-1)} : qj)].map Q5)) J ?_
     obtain ⟨ai,aa,g⟩:=q8 g
     refine Kw (xs:=k.2) (ys:=[({at_:=c.Lo,list_:=a.1,by_:=1} : qj),({at_:=c.Hi,list_:=a.1,by_:=(-1)} : qj)]) (enc:=Q5) (.hs 3 3 0 [({at_:=c.Lo,list_:=a.1,by_:=1} : qj),({at_:=c.Hi,list_:=a.1,by_:=(-1)} : qj)].length) aa J J J J J J J (Ku J J) J J J J<|qa J<|qs<|Qc<|qu<|O (.d (G (w64 (k.1 + 1)))) J<|U J<|qs ?_
     exact ⟨_,(Option.some.inj g).symm,wkA [(1,4)] [] []⟩
    refine Q3 ?_
    refine ⟨_,(Option.some.inj g).symm,fun hm=>?_⟩
    subst hm
    obtain rfl:=qe l
    exact ⟨_,J,wkA [(1,1)] [] []⟩
   intro m hb
   subst hb
   refine qu<|O (.d (G (w64 (a.1 + 1)))) J<|U J<|qs ?_
   exact ⟨_,(Option.some.inj j).symm,wkA [(1,1)] [] []⟩
  refine Q3 ?_
  refine ⟨_,(Option.some.inj j).symm,fun hm=>?_⟩
  subst hm
  exact ⟨_,J,wkA [(1,1)] [] []⟩
 intro h hb
 subst hb
 refine qb<|U J ?_
 obtain ⟨p,ab,f⟩:=q8 f
 obtain ⟨aj,ac,f⟩:=q8 f
 have ad:=Kj ac
 refine K6 [(0,1)] [(0,1),(1,0)] [.hs 1 3 0 h.length,.d (.fn 163 [])] (.d (.tup [])) 1 [(1,.dat 3 (p.map Q5)),(0,.dat 1 (b.map Js))] 2 (quv (fun q s=>q9c q s) 163 [] (fun q s r hr=>qxz q s r hr) h p ab)<|qt<|U J ?_
 obtain ⟨o,ae,f⟩:=q8 f
 obtain ⟨ak,af,f⟩:=q8 f
 have al:=Kj af
 refine U7 [(0,1)] [(0,2),(1,0),(2,1)] [.hs 1 3 0 h.length] (.fn 173 [.ref 2 1 0 0]) [(1,.dat 3 (o.map Q5)),(2,.cel 1 [[.hs 1 3 0 o.length]])] [(1,.dat 3 (o.map Q5)),(2,.cel 1 [[.hs 1 3 0 o.length]]),(0,.dat 1 (b.map Js))] 3 (quw p o ae) J J J (Yh [(0,1)] [] [] J ⟨⟨_,J,Qx (by simp [ad]) J qy (ltd J)⟩,trivial⟩ ⟨Qm J J,trivial⟩) (Yh [(0,2),(1,0),(2,1)] [] [] J ⟨⟨_,J,(q3z (.cons (.ref J qy (ltd J)) .nil))⟩,trivial⟩ ⟨Qm J J,⟨ltd J,.inr ⟨qy,_,J,Uc (.cons (.hs J qy (ltd J)) J .nil)⟩⟩,trivial⟩) J ⟨.inl J,.inl J,.inr ⟨J,J⟩,trivial⟩<|qa J<|qp ?_
 obtain rfl:=qe f
 exact ⟨.inr J,_,J,wkA [(1,2),(2,1)] [] []⟩
theorem qy1 (f : Int) (j : Bool) (b : Int) (c : List qm) (r : Bool × Int × List qm) (a : q9e  f j b c = some r) : K0 Tryz.prog tab 144 [q7 f,.ref 0 1 0 0,.ref 1 1 0 0,.ref 2 1 0 0] [(0,.dat 1 [[.bool j]]),(1,.dat 1 [[G b]]),(2,.cel 1 [[.hs 3 2 0 c.length]]),(3,.dat 2 (c.map Qh))] 4 (.d (.tup [])) [(0,.dat 1 [[.bool r.1]]),(1,.dat 1 [[G r.2.1]]),(2,.cel 1 [[.hs 4 2 0 r.2.2.length]]),(4,.dat 2 (r.2.2.map Qh))] 5:=by
 unfold q9e at a
 refine Kf Tryz.func144 J qi qi J<|qf<|qb<|O (qh j) J<|O (qh (!j)) J ?_
 obtain ⟨ab,h,a⟩:=q8 a
 refine Qa 5 (fun A st=>∃ (l m n o : V),st = A [(12,qh ab),(11,o),(10,n),(9,m),(8,l)]) ?_ ?_
 ·refine Qb J J h (fun h=>?_) (fun h=>?_)
  ·refine qc J<|qc J<|qc J<|O (qh true) J<|q9 ?_
   obtain rfl:=qe h
   exact ⟨_,_,_,_,J⟩
  refine O (q7 b) J<|U J<|O (qh (b == f)) J<|O (qh (b == f)) J<|q9 ?_
  obtain rfl:=qe h
  exact ⟨_,_,_,_,J⟩
 rintro _ ⟨l,m,n,o,rfl⟩
 refine q9 ?_
 refine qo J a (fun _ a=>?_) (fun _ a=>?_)
 ·refine q20 ?_
  obtain rfl:=qe a
  exact ⟨.inr J,_,J,wkA [(4,3)] [] []⟩
 refine qn<|qb<|O (.hs 3 2 0 c.length) J<|O (q7 (c.length : Int)) J<|qa J<|q9<|qf<|Q7 [q0,q0,qq 1,qq 3,q0,q0,q0,q0,qq 2,q0,q0,q0] qi<|U J<|O (.d (.bool (decide ((c.length : Int) > 0)))) J ?_
 obtain ⟨ac,g,a⟩:=q8 a
 refine Qa 10 (fun A st=>∃ (p q s t u v w x y : V),st = A [(26,qh ac),(25,y),(24,x),(23,w),(22,v),(21,u),(20,t),(19,s),(18,q),(17,p)]) ?_ ?_
 ·refine Qb J J g (fun g=>?_) (fun g=>?_)
  ·refine O (.hs 3 2 0 c.length) J<|U J<|O (.d (G (w64 ((c.length : Int) - 1)))) J ?_
   obtain ⟨k,z,g⟩:=q8 g
   refine qr z J J<|O (.ref 3 2 (w64 ((c.length : Int) - 1)).toNat 1) J<|Q2 (q7 k.Hi) z J<|O (q7 b) J<|O (qh (k.Hi == b)) J<|O (qh (k.Hi == b)) J<|q9 ?_
   obtain rfl:=qe g
   exact ⟨_,_,_,_,_,_,_,_,_,J⟩
  refine qc J<|qc J<|qc J<|qc J<|qc J<|qc J<|qc J<|qc J<|O (qh false) J<|q9 ?_
  obtain rfl:=qe g
  exact ⟨_,_,_,_,_,_,_,_,_,J⟩
 rintro _ ⟨p,q,s,t,u,v,w,x,y,rfl⟩
 refine q9 ?_
 refine qo J a (fun _ a=>?_) (fun _ a=>?_)
 ·refine qu<|O (.hs 3 2 0 c.length) J<|U J<|O (.d (G (w64 ((c.length : Int) - 1)))) J<|U J ?_
  obtain ⟨ad,aa,a⟩:=q8 a
  refine qr aa J J<|O (.ref 3 2 (w64 ((c.length : Int) - 1)).toNat 1) J<|Qt (ds:=[G f]) ({Lo:=ad.Lo,Hi:=f} : qm) aa J J J J J J J J (leb J) J<|qs ?_
  obtain rfl:=qe a
  exact ⟨.inl J,_,J,wkE [(4,3)] [] [] J ⟨ql J,trivial⟩ ⟨Qm J J,Qm J J,⟨ltd J,.inr ⟨qy,_,J,Uc (.cons (Qx qd J qy (ltd J)) J .nil)⟩⟩,Qm J J,trivial⟩⟩
 refine qu<|O (.hs 3 2 0 c.length) J<|O (q7 b) J<|U J<|O (.d (.agg [G b,G f])) J<|Qn (.hs 4 2 0 [({Lo:=b,Hi:=f} : qm)].length) (.dat 2 ([({Lo:=b,Hi:=f} : qm)].map Qh)) J ?_
 obtain ⟨ae,af,a⟩:=q8 a
 refine Kw (xs:=c) (ys:=[({Lo:=b,Hi:=f} : qm)]) (enc:=Qh) (.hs 4 2 0 [({Lo:=b,Hi:=f} : qm)].length) af J J J J J J J (Ku J J) J J J J<|Qp 2 (.cel 1 [[.hs 5 2 0 ae.length]]) J<|qs ?_
 obtain rfl:=qe a
 exact ⟨.inl J,_,J,wkA [(4,5)] [] []⟩
theorem qy2 (l : List qm) (m : List qm) (q : Bool→Bool→Option Bool) (p2F : FuncId) (p2C : List DV) (p2Ok : ∀ (u : Bool) (w : Bool) (r : Bool),q u w = some r→Pure Tryz.prog tab p2F ([.bool u,.bool w] ++ p2C) (.bool r)) (r : List qm) (h : q6j l m q = some r) : Pure Tryz.prog tab 132 [.sl 2 (l.map Qh),.sl 2 (m.map Qh),.fn p2F p2C] (.sl 2 (r.map Qh)):=by
 unfold q6j at h
 refine Qg Tryz.func132 J qi qi J<|qb<|Qn (.ref 0 1 0 0) (.dat 1 [[.fn p2F p2C]]) J<|qa J<|qt<|K2 J J<|qt<|K2 J J<|qt<|K2 J J<|K2 J J<|Qp 3 (.dat 1 [[G 0]]) J<|Qp 4 (.dat 1 [[.bool false]]) J<|qt<|O (.fn 144 [.ref 4 1 0 0,.ref 3 1 0 0,.ref 2 1 0 0]) J<|K2 J J<|Qp 5 (.cel 1 [[.fn 144 [.ref 4 1 0 0,.ref 3 1 0 0,.ref 2 1 0 0]]]) J<|q9<|qf<|qb<|U J<|U J<|Qn (.hs 6 1 0 [l,m].length) (.dat 1 ([l,m].map Js)) J ?_
 obtain ⟨b,h2,h⟩:=q8 h
 obtain ⟨u3,h4,h⟩:=q8 h
 have h5:=Kj h4
 refine K6 [(0,6)] [(0,3),(1,3),(2,3),(3,3),(4,3),(5,3),(6,0),(7,1),(8,2)] [.hs 6 1 0 [l,m].length] (.fn 173 [.ref 7 1 0 0]) 3 [(6,.dat 1 (b.1.map Js)),(7,.cel 1 [[.hs 8 3 0 b.2.length]]),(8,.dat 3 (b.2.map Q5)),(0,.dat 1 [[.fn p2F p2C]]),(1,.dat 2 [[0,0].flatMap (eI .i64)]),(2,.dat 1 [[.nilsl]]),(3,.dat 1 [[G 0]]),(4,.dat 1 [[.bool false]]),(5,.cel 1 [[.fn 144 [.ref 4 1 0 0,.ref 3 1 0 0,.ref 2 1 0 0]]])] 9 (qy0 [l,m] b h2)<|q9<|Q0 ?_
 obtain ⟨af,s,h⟩:=q8 h
 refine qb7 (fun j=>j = af) (fun (j : List qm)=>⟨[(8,.ref 0 1 0 0)],[(0,.cel 1 [[.hs 1 2 0 j.length]]),(1,.dat 2 (j.map Qh))],2⟩) ?_ ?_
 ·refine Yn (st':=⟨[(5,.ref 0 1 0 0),(6,.d (.nilsl)),(7,.ref 1 2 0 0),(8,.ref 2 1 0 0),(9,.ref 3 1 0 0),(10,.ref 4 1 0 0),(11,.ref 5 1 0 0),(17,.fn 173 [.ref 6 1 0 0])],[(0,.dat 1 [[.fn p2F p2C]]),(1,.dat 2 [[0,0].flatMap (eI .i64)]),(2,.dat 1 [[.nilsl]]),(3,.dat 1 [[G 0]]),(4,.dat 1 [[.bool false]]),(5,.cel 1 [[.fn 144 [.ref 4 1 0 0,.ref 3 1 0 0,.ref 2 1 0 0]]]),(6,.cel 1 [[.hs 7 3 0 b.2.length]]),(7,.dat 3 (b.2.map Q5))],8⟩) (wkA [(0,0),(1,1),(2,2),(3,3),(4,4),(5,5),(6,7),(7,8)] [] []) ?_ qd
  refine qb8 [.ref 6 1 0 0] (.inl J) Tryz.func173 J qi qi J ?_
  intro A154 B155 hA154 hB155
  refine qb<|O (.hs 7 3 0 b.2.length) J<|O (q7 (b.2.length : Int)) J<|U J<|q9 ?_
  obtain ⟨ag,ah,s⟩:=q8 s
  refine Q0<|Q8 (q3u b q) (fun (c : Int × List Int × Int × Bool × List qm)=>⟨[(0,.yld 8),(5,.hs 7 3 0 b.2.length),(6,q7 (b.2.length : Int)),(7,q7 c.1)],[(0,.dat 1 [[.fn p2F p2C]]),(1,.dat 2 [c.2.1.flatMap (eI .i64)]),(2,.cel 1 [[.hs 9 2 0 c.2.2.2.2.length]]),(3,.dat 1 [[G c.2.2.1]]),(4,.dat 1 [[.bool c.2.2.2.1]]),(5,.cel 1 [[.fn 144 [.ref 4 1 0 0,.ref 3 1 0 0,.ref 2 1 0 0]]]),(6,.cel 1 [[.hs 7 3 0 b.2.length]]),(7,.dat 3 (b.2.map Q5)),(8,.loop [(5,.ref 0 1 0 0),(6,.d (.nilsl)),(7,.ref 1 2 0 0),(8,.ref 2 1 0 0),(9,.ref 3 1 0 0),(10,.ref 4 1 0 0),(11,.ref 5 1 0 0),(17,.fn 173 [.ref 6 1 0 0])] [18] A154 B155 .ready none),(9,.dat 2 (c.2.2.2.2.map Qh))],10⟩) (0,[0,0],0,false,[]) ag ah (wkA [] [] [9]) ?_
  intro c an g
  unfold q3u at g
  refine qb<|O (.d (.bool (decide (c.1 < (b.2.length : Int))))) J<|q9<|qf ?_
  refine qo J g (fun _ g=>?_) (fun _ g=>?_)
  ·refine qn<|qf<|Q0<|qb ?_
   obtain ⟨a,x,g⟩:=q8 g
   refine qr x J J<|Q2 (.d (.agg [G a.at_,G a.list_,G a.by_])) x J<|K2 J J<|Qp 10 (.dat 3 [[G a.at_,G a.list_,G a.by_]]) J<|qt<|U J<|O (.d (.agg [G a.at_,G a.list_,G a.by_])) J ?_
   obtain ⟨ai,f,g⟩:=q8 g
   refine qas (fun k=>k = ai) (fun (k : List Int × Bool × List qm)=>⟨[(0,.yld 8),(5,.hs 7 3 0 b.2.length),(6,q7 (b.2.length : Int)),(7,q7 c.1),(13,qh true)],[(0,.dat 1 [[.fn p2F p2C]]),(1,.dat 2 [k.1.flatMap (eI .i64)]),(2,.cel 1 [[.hs 9 2 0 k.2.2.length]]),(3,.dat 1 [[G a.at_]]),(4,.dat 1 [[.bool k.2.1]]),(5,.cel 1 [[.fn 144 [.ref 4 1 0 0,.ref 3 1 0 0,.ref 2 1 0 0]]]),(6,.cel 1 [[.hs 7 3 0 b.2.length]]),(7,.dat 3 (b.2.map Q5)),(8,.loop [(5,.ref 0 1 0 0),(6,.d (.nilsl)),(7,.ref 1 2 0 0),(8,.ref 2 1 0 0),(9,.ref 3 1 0 0),(10,.ref 4 1 0 0),(11,.ref 5 1 0 0),(17,.fn 173 [.ref 6 1 0 0])] [18] A154 B155 .ready none),(9,.dat 2 (k.2.2.map Qh))],10⟩) hA154 hB155 J J J J J J ?_ ?_
   ·refine qu<|K2 J J<|Qp 11 (.dat 3 [[G a.at_,G a.list_,G a.by_]]) J<|qs ?_
    refine ⟨J,_,J,?_⟩
    refine Q0<|qb<|O (.fn 144 [.ref 4 1 0 0,.ref 3 1 0 0,.ref 2 1 0 0]) J<|O (.ref 11 3 0 0) J<|O (q7 a.at_) J ?_
    obtain ⟨n,aj,f⟩:=q8 f
    refine K6 [(0,4),(1,3),(2,2),(3,9)] [(0,5),(1,5),(2,2),(3,1),(4,0),(5,5),(6,5),(7,5),(8,5),(9,3),(10,5),(11,5),(12,4)] [q7 a.at_,.ref 4 1 0 0,.ref 3 1 0 0,.ref 2 1 0 0] (.d (.tup [])) 4 [(2,.cel 1 [[.hs 12 2 0 n.2.2.length]]),(3,.dat 1 [[G n.2.1]]),(4,.dat 1 [[.bool n.1]]),(12,.dat 2 (n.2.2.map Qh)),(0,.dat 1 [[.fn p2F p2C]]),(1,.dat 2 [c.2.1.flatMap (eI .i64)]),(5,.cel 1 [[.fn 144 [.ref 4 1 0 0,.ref 3 1 0 0,.ref 2 1 0 0]]]),(6,.cel 1 [[.hs 7 3 0 b.2.length]]),(7,.dat 3 (b.2.map Q5)),(8,.loop [(5,.ref 0 1 0 0),(6,.d (.nilsl)),(7,.ref 1 2 0 0),(8,.ref 2 1 0 0),(9,.ref 3 1 0 0),(10,.ref 4 1 0 0),(11,.ref 5 1 0 0),(17,.fn 173 [.ref 6 1 0 0])] [18] A154 B155 .busy none),(10,.dat 3 [[G a.at_,G a.list_,G a.by_]]),(11,.dat 3 [[G a.at_,G a.list_,G a.by_]])] 13 (qy1 a.at_ c.2.2.2.1 c.2.2.1 c.2.2.2.2 n aj)<|q9<|qf<|Q7 [Qk 1,q0,q0,qq 11,q0,qq 1,q0,qq 11,q0] qi<|O (.ref 11 3 0 1) J<|O (q7 a.list_) J ?_
    obtain ⟨t,y,f⟩:=q8 f
    refine qaq y J J J J J<|qe1 (enc:=(eI .i64)) (q7 t) y (fun _=>rfl) J J J J J J<|O (.ref 11 3 0 2) J<|O (q7 a.by_) J<|O (.d (G (w64 (t + a.by_)))) J ?_
    obtain ⟨ao,z,f⟩:=q8 f
    refine qaq z J J J J J<|qqe (enc:=(eI .i64)) (w64 (t + a.by_)) z (fun _=>rfl) J J J J J J J J<|q9<|Q7 [Qk 4,Qk 3,q0,q0,qq 1,q0,q0,qq 1,q0,qq 0,qq 11,q0] qi<|O (.ref 11 3 0 0) J<|O (q7 a.at_) J<|O (.d (.fn p2F p2C)) J ?_
    obtain ⟨o,aa,f⟩:=q8 f
    refine qaq aa J J J J J<|qe1 (enc:=(eI .i64)) (q7 o) aa (fun _=>rfl) J J J J J J<|O (.d (.bool (decide (o > 0)))) J ?_
    obtain ⟨p,ab,f⟩:=q8 f
    refine qaq ab J J J J J<|qe1 (enc:=(eI .i64)) (q7 p) ab (fun _=>rfl) J J J J J J<|O (.d (.bool (decide (p > 0)))) J ?_
    obtain ⟨ac,ak,f⟩:=q8 f
    refine Yd [.d (.bool (decide (o > 0))),.d (.bool (decide (p > 0)))] (p2Ok (decide (o > 0)) (decide (p > 0)) ac ak) J J J (.inl J)<|Qp 3 (.dat 1 [[G a.at_]]) J<|Qp 4 (.dat 1 [[.bool ac]]) J<|qs<|Qc<|Q9 ?_
    refine ⟨_,J,?_⟩
    obtain rfl:=qe f
    exact ⟨_,J,wkA [(9,12)] [] []⟩
   intro k hb
   subst hb
   refine O (qh false) J<|q9<|Jo J<|qn<|Q9<|Qc<|qu<|O (.d (G (w64 (c.1 + 1)))) J<|U J<|qs ?_
   exact ⟨_,(Option.some.inj g).symm,wkA [(9,9)] [] []⟩
  refine Q3 ?_
  refine ⟨_,(Option.some.inj g).symm,fun hm=>?_⟩
  subst hm
  refine ⟨.inl J,_,J,_,_,.nor,J,qy,?_⟩
  refine qa0<|Q9 ?_
  obtain rfl:=qe s
  exact ⟨_,J,wkA [(0,2),(1,9)] [] []⟩
 intro j st hb hw
 subst hb
 refine Yn hw ?_ qd
 refine qb<|O (.hs 1 2 0 j.length) J<|qa J<|qp ?_
 obtain rfl:=qe h
 exact finD (.inr J) (v:=.hs 1 2 0 j.length) J (Za J J) (.refl _)
theorem qxx (a : Bool) (b : Bool) (r : Bool) (c : q9b a b = some r) : Pure Tryz.prog tab 160 [.bool a,.bool b] (.bool r):=by
 unfold q9b at c
 refine Qg Tryz.func160 J qi qi J<|qb<|qa J<|qt<|U J<|qa J<|qp ?_
 obtain rfl:=qe c
 exact Q1 (qh a) J
theorem qxy (c : List qm) (r : List qm × Int) (a : q6i c = some r) : Pure Tryz.prog tab 140 [.sl 2 (c.map Qh)] (.tup [.sl 2 (r.1.map Qh),G r.2]):=by
 unfold q6i at a
 refine Qg Tryz.func140 J qi qi J<|qb<|qa J<|qa J<|q9<|qf<|qb<|U J<|Qd J<|O (.d (.bool (decide ((c.length : Int) > 400)))) J<|q9 ?_
 refine qo J a (fun _ a=>?_) (fun _ a=>?_)
 ·refine qb<|qa J<|qa J<|qp ?_
  obtain rfl:=qe a
  exact finD (.inr J) (v:=.d (.tup [.nilsl,G 4])) J J (Kz (.cons (.nil _) (.cons (.refl _) .nil)))
 refine qn<|qf<|qb<|U J ?_
 obtain ⟨h,j,a⟩:=q8 a
 refine qz (quk c (fun b=>qbq b) 159 [] (fun b r hr=>qxw b r hr) h j) J<|q9 ?_
 refine qo J a (fun _ a=>?_) (fun _ a=>?_)
 ·refine qb<|qa J<|qa J<|qp ?_
  obtain rfl:=qe a
  exact finD (.inr J) (v:=.d (.tup [.nilsl,G 8])) J J (Kz (.cons (.nil _) (.cons (.refl _) .nil)))
 refine qn<|qb<|U J ?_
 obtain ⟨g,k,a⟩:=q8 a
 refine qz (q7q (.cons (.refl _) (.cons (.nil _) (.cons (.refl _) .nil))) (qy2 c [] (fun b f=>q9b b f) 160 [] (fun b f r hr=>qxx b f r hr) g k)) J<|qa J<|qa J<|qp ?_
 obtain rfl:=qe a
 exact Q1 (.d (.tup [.sl 2 (g.map Qh),G 0])) J
theorem qun (c : List qm) (f : List qm) (r : Bool) (b : q8f c f = some r) : Pure Tryz.prog tab 130 [.sl 2 (c.map Qh),.sl 2 (f.map Qh)] (.bool r):=by
 unfold q8f at b
 refine Qg Tryz.func130 J qi qi J<|qb<|qa J<|q9<|qf<|qb<|U J<|Qd J<|U J<|Qd J<|O (.d (.bool ((c.length : Int) != (f.length : Int)))) J<|q9 ?_
 refine qo J b (fun _ b=>?_) (fun _ b=>?_)
 ·refine qb<|qa J<|qp ?_
  obtain rfl:=qe b
  exact Q1 (qh false) J
 refine qn<|qf<|qb<|U J<|Qd J<|U J<|q9 ?_
 obtain ⟨l,m,b⟩:=q8 b
 refine Qe (fun k=>.inl k = l) (fun (k : Unit)=>⟨[],[],0⟩) qd ?_ ?_
 ·refine Q8 (qbh c f) (fun (g : Int)=>⟨[(0,.d (.sl 2 (c.map Qh))),(1,.d (.sl 2 (f.map Qh))),(12,q7 (c.length : Int)),(13,q7 g)],[],0⟩) 0 l m (wkA [] [] []) ?_
  intro g p a
  unfold qbh at a
  refine qb<|O (.d (.bool (decide (g < (c.length : Int))))) J<|q9<|qf ?_
  refine qo J a (fun _ a=>?_) (fun _ a=>?_)
  ·refine qn<|qf<|Q0<|qb<|U J<|qa J<|q9<|qf<|Q7 [q0,q0,q0,q0,q0,q0,q0,q0,q0] qi<|U J<|U J ?_
   obtain ⟨h,n,a⟩:=q8 a
   refine Q4 (enc:=Qh) n J<|O (.d (.agg [G h.Lo,G h.Hi])) J<|U J<|U J ?_
   obtain ⟨j,o,a⟩:=q8 a
   refine Q4 (enc:=Qh) o J<|O (.d (.agg [G j.Lo,G j.Hi])) J<|O (.d (.bool (!((h.Lo == j.Lo) && ((h.Hi == j.Hi) && true))))) J<|q9 ?_
   refine qo J a (fun _ a=>?_) (fun _ a=>?_)
   ·refine qb<|qa J<|qp ?_
    refine ⟨_,(Option.some.inj a).symm,fun hm=>?_⟩
    subst hm
    obtain rfl:=qe b
    exact Q1 (qh false) J
   refine qn<|Q9<|Qc<|qu<|O (.d (G (w64 (g + 1)))) J<|U J<|qs ?_
   exact ⟨_,(Option.some.inj a).symm,wkA [] [] []⟩
  refine Q3 ?_
  refine ⟨_,(Option.some.inj a).symm,fun hm=>?_⟩
  subst hm
  exact ⟨_,J,wkA [] [] []⟩
 intro k hb
 subst hb
 refine qb<|qa J<|qp ?_
 obtain rfl:=qe b
 exact Q1 (qh true) J
theorem qsi (b : List qk) (m : List qm) (p : Int) (l : Int) (h : Int) (a : Int) (g : List qm) (r : List qm × Int × Int × List qk) (f : q83  b m p l h a g = some r) : K0 Tryz.prog tab 110 [.ref 0 4 0 0,q7 h,q7 a,.d (.sl 2 (g.map Qh))] [(0,.cel 4 [[.hs 1 4 0 b.length,.d (.sl 2 (m.map Qh)),q7 p,q7 l]]),(1,.dat 4 (b.map qx))] 2 (.d (.tup [])) [(0,.cel 4 [[.hs 2 4 0 r.2.2.2.length,.d (.sl 2 (r.1.map Qh)),q7 r.2.1,q7 r.2.2.1]]),(2,.dat 4 (r.2.2.2.map qx))] 3:=by
 unfold q83 at f
 refine Kf Tryz.func110 J qi qi J<|qf<|qb<|U J<|Qd J<|O (.d (.bool (decide ((g.length : Int) > 0)))) J ?_
 obtain ⟨am,t,f⟩:=q8 f
 refine Qa 8 (fun A st=>∃ (v w x y z aa ab : V),st = A [(21,qh am),(20,ab),(19,aa),(18,z),(17,y),(16,x),(15,w),(14,v)]) ?_ ?_
 ·refine Qb J J t (fun t=>?_) (fun t=>?_)
  ·refine U J<|O (.ref 0 4 0 0) J<|O (.ref 0 4 0 3) J<|O (q7 l) J<|U J<|O (qh (l == h)) J<|O (qh (l == h)) J<|q9 ?_
   obtain rfl:=qe t
   exact ⟨_,_,_,_,_,_,_,J⟩
  refine qc J<|qc J<|qc J<|qc J<|qc J<|qc J<|O (qh false) J<|q9 ?_
  obtain rfl:=qe t
  exact ⟨_,_,_,_,_,_,_,J⟩
 rintro _ ⟨v,w,x,y,z,aa,ab,rfl⟩
 obtain ⟨an,q,f⟩:=q8 f
 refine Qa 8 (fun A st=>∃ (ac ad ae af ag ah ai : V),st = A [(29,qh an),(28,ai),(27,ah),(26,ag),(25,af),(24,ae),(23,ad),(22,ac)]) ?_ ?_
 ·refine Qb J J q (fun q=>?_) (fun q=>?_)
  ·refine U J<|O (.ref 0 4 0 0) J<|O (.ref 0 4 0 1) J<|O (.d (.sl 2 (m.map Qh))) J<|U J ?_
   obtain ⟨aj,ao,q⟩:=q8 q
   refine qz (qun m g aj ao) J<|O (qh aj) J<|q9 ?_
   obtain rfl:=qe q
   exact ⟨_,_,_,_,_,_,_,J⟩
  refine qc J<|qc J<|qc J<|qc J<|qc J<|qc J<|O (qh false) J<|q9 ?_
  obtain rfl:=qe q
  exact ⟨_,_,_,_,_,_,_,J⟩
 rintro _ ⟨ac,ad,ae,af,ag,ah,ai,rfl⟩
 refine q9 ?_
 refine qo J f (fun _ f=>?_) (fun _ f=>?_)
 ·refine qf<|qb<|U J<|O (.ref 0 4 0 0) J<|O (.ref 0 4 0 2) J<|O (q7 p) J<|qa J<|q9 ?_
  obtain ⟨ak,ap,f⟩:=q8 f
  refine Qe (fun s=>s = ak) (fun (s : List qk)=>⟨[(0,.ref 0 4 0 0),(2,q7 a)],[(0,.cel 4 [[.hs 1 4 0 s.length,.d (.sl 2 (m.map Qh)),q7 p,q7 l]]),(1,.dat 4 (s.map qx))],2⟩) qd ?_ ?_
  ·refine Q8 (q58 a) (fun (j : Int × List qk)=>⟨[(0,.ref 0 4 0 0),(2,q7 a),(8,q7 j.1)],[(0,.cel 4 [[.hs 1 4 0 j.2.length,.d (.sl 2 (m.map Qh)),q7 p,q7 l]]),(1,.dat 4 (j.2.map qx))],2⟩) (p,b) ak ap (wkA [] [] []) ?_
   intro j ax n
   unfold q58 at n
   refine qf<|qb<|U J<|U J<|O (.ref 0 4 0 0) J<|O (.ref 0 4 0 0) J<|O (.hs 1 4 0 j.2.length) J<|O (q7 (j.2.length : Int)) J<|O (.d (.bool (decide (j.1 < (j.2.length : Int))))) J<|q9 ?_
   refine qo J n (fun _ n=>?_) (fun _ n=>?_)
   ·refine qn<|qf<|Q0<|qu<|U J<|O (.ref 0 4 0 0) J<|O (.ref 0 4 0 0) J<|O (.hs 1 4 0 j.2.length) J<|U J<|U J ?_
    obtain ⟨u,al,n⟩:=q8 n
    refine qr al J J<|O (.ref 1 4 j.1.toNat 2) J<|Qt (ds:=[G a]) ({X0:=u.X0,Y0:=u.Y0,X1:=a,Y1:=u.Y1} : qk) al J J J J J J J J (leb J) J<|qs<|Qc<|qu<|U J<|O (.d (G (w64 (j.1 + 1)))) J<|qa J<|qs ?_
    exact ⟨_,(Option.some.inj n).symm,wkE [] [] [] J ⟨⟨_,J,.ref J qy (ltd J)⟩,ql J,ql J,trivial⟩ ⟨⟨ltd J,.inr ⟨qy,_,J,Uc (.cons (Qx qd J qy (ltd J)) J (.cons (.d (.refl _)) J (.cons (.d (.refl _)) J (.cons (.d (.refl _)) J .nil))))⟩⟩,Qm J J,trivial⟩⟩
   refine Q3 ?_
   refine ⟨_,(Option.some.inj n).symm,fun hm=>?_⟩
   subst hm
   exact ⟨_,J,wkA [] [] []⟩
  intro s hb
  subst hb
  refine qb<|U J<|U J<|O (.ref 0 4 0 0) J<|O (.ref 0 4 0 3) J<|Qp 0 (.cel 4 [[.hs 1 4 0 s.length,.d (.sl 2 (m.map Qh)),q7 p,q7 a]]) J<|qp ?_
  obtain rfl:=qe f
  exact ⟨.inr J,_,J,wkA [(2,1)] [] []⟩
 refine qn<|qb<|U J<|U J<|U J<|U J<|O (.ref 0 4 0 0) J<|O (.ref 0 4 0 0) J<|O (.hs 1 4 0 b.length) J<|O (q7 (b.length : Int)) J<|U J<|U J<|O (.ref 0 4 0 0) J<|O (.ref 0 4 0 2) J<|Qp 0 (.cel 4 [[.hs 1 4 0 b.length,.d (.sl 2 (m.map Qh)),q7 (b.length : Int),q7 l]]) J<|O (.ref 0 4 0 0) J<|O (.ref 0 4 0 1) J<|Qp 0 (.cel 4 [[.hs 1 4 0 b.length,.d (.sl 2 (g.map Qh)),q7 (b.length : Int),q7 l]]) J<|O (.ref 0 4 0 0) J<|O (.ref 0 4 0 3) J<|Qp 0 (.cel 4 [[.hs 1 4 0 b.length,.d (.sl 2 (g.map Qh)),q7 (b.length : Int),q7 a]]) J<|qt<|U J<|Qd J<|U J<|q9 ?_
 obtain ⟨aq,ar,f⟩:=q8 f
 refine Q0<|Q8 (q59 g h a b) (fun (o : Int × List qk)=>⟨[(0,.ref 0 4 0 0),(1,q7 h),(2,q7 a),(71,.d (.sl 2 (g.map Qh))),(72,q7 (g.length : Int)),(73,q7 o.1)],[(0,.cel 4 [[.hs 2 4 0 o.2.length,.d (.sl 2 (g.map Qh)),q7 (b.length : Int),q7 a]]),(2,.dat 4 (o.2.map qx))],3⟩) (0,b) aq ar (wkA [(2,1)] [] []) ?_
 intro o ay k
 unfold q59 at k
 refine qb<|O (.d (.bool (decide (o.1 < (g.length : Int))))) J<|q9<|qf ?_
 refine qo J k (fun _ k=>?_) (fun _ k=>?_)
 ·refine qn<|qf<|Q0<|qb ?_
  obtain ⟨c,au,k⟩:=q8 k
  refine Q4 (enc:=Qh) au J<|O (.d (.agg [G c.Lo,G c.Hi])) J<|K2 J J<|Qp 3 (.dat 2 [[G c.Lo,G c.Hi]]) J<|q9<|Q7 [Qk 0,q0,q0,(some [2,4],[2,5]),(some [],[4]),q0,qq 3,q0,q0,qq 3,q0,q0,qq 0,q0,q0,q0,q0] qi<|U J<|U J<|O (.ref 0 4 0 0) J<|O (.ref 0 4 0 0) J<|O (.hs 2 4 0 o.2.length) J<|U J<|O (.ref 3 2 0 0) J<|O (q7 c.Lo) J<|U J<|O (.ref 3 2 0 1) J<|O (q7 c.Hi) J<|O (.d (.agg [G h,G c.Lo,G a,G c.Hi])) J<|Qn (.hs 4 4 0 [({X0:=h,Y0:=c.Lo,X1:=a,Y1:=c.Hi} : qk)].length) (.dat 4 ([({X0:=h,Y0:=c.Lo,X1:=a,Y1:=c.Hi} : qk)].map qx)) J ?_
  obtain ⟨av,aw,k⟩:=q8 k
  refine Kw (xs:=o.2) (ys:=[({X0:=h,Y0:=c.Lo,X1:=a,Y1:=c.Hi} : qk)]) (enc:=qx) (.hs 4 4 0 [({X0:=h,Y0:=c.Lo,X1:=a,Y1:=c.Hi} : qk)].length) aw J J J J J J J (Ku J J) J J J J<|O (.ref 0 4 0 0) J<|O (.ref 0 4 0 0) J<|Qp 0 (.cel 4 [[.hs 5 4 0 av.length,.d (.sl 2 (g.map Qh)),q7 (b.length : Int),q7 a]]) J<|qs<|Qc<|qu<|O (.d (G (w64 (o.1 + 1)))) J<|U J<|qs ?_
  exact ⟨_,(Option.some.inj k).symm,wkA [(2,5)] [] []⟩
 refine Q3 ?_
 refine ⟨_,(Option.some.inj k).symm,fun hm=>?_⟩
 subst hm
 obtain rfl:=qe f
 exact ⟨.inl J,_,J,wkA [(2,2)] [] []⟩
theorem qsl (a : List qk) (r : List qk × Int) (u : q84 a = some r) : Pure Tryz.prog tab 126 [.sl 4 (a.map qx)] (.tup [.sl 4 (r.1.map qx),G r.2]):=by
 unfold q84 at u
 refine Qg Tryz.func126 J qi qi J<|qb<|qa J<|qa J<|qt<|K2 J J<|q9<|qf<|qb<|U J<|Qn (.hs 1 1 0 [a].length) (.dat 1 ([a].map Zf)) J ?_
 obtain ⟨aw,l,u⟩:=q8 u
 refine qap [.hs 1 1 0 [a].length] (fun h=>h = aw) (fun (h : List Int)=>⟨[(2,.d (.nilsl)),(3,q7 0),(4,.ref 0 4 0 0),(10,.fn 157 [.ref 1 1 0 0,.ref 2 1 0 0])],[(0,.dat 4 [[.nilsl,.nilsl,G 0,G 0]]),(1,.cel 1 [[.d (.sl 1 (h.map (eI .i64)))]]),(2,.cel 1 [[.hs 3 1 0 [a].length]]),(3,.dat 1 ([a].map Zf))],4⟩) J J Tryz.func139 J qi qi J ?_ ?_
 ·refine qb<|Qn (.ref 2 1 0 0) (.cel 1 [[.hs 1 1 0 [a].length]]) J<|qa J<|qt<|K2 J J<|q9<|qf<|qb<|O (.hs 1 1 0 [a].length) J<|O (q7 1) J<|U J<|q9<|Q0<|q10<|qb<|O (qh true) J<|q9<|qf<|q3d J<|qn<|qf ?_
  obtain ⟨ax,ac,l⟩:=q8 l
  refine Qe (fun m=>m = ax) (fun (m : List Int)=>⟨[(1,.ref 2 1 0 0),(3,.ref 3 1 0 0),(8,.hs 1 1 0 [a].length),(9,q7 1),(10,q7 0)],[(0,.dat 4 [[.nilsl,.nilsl,G 0,G 0]]),(1,.dat 1 ([a].map Zf)),(2,.cel 1 [[.hs 1 1 0 [a].length]]),(3,.cel 1 [[.hs 4 1 0 m.length]]),(4,.dat 1 (m.map (eI .i64)))],5⟩) qd ?_ ?_
  ·refine qb ?_
   obtain ⟨ad,am,ac⟩:=q8 ac
   refine qr am J J<|Q2 (.d (.sl 4 (ad.map qx))) am J<|qa J<|qt<|U J<|Qd J<|U J<|q9 ?_
   obtain ⟨ay,az,ac⟩:=q8 ac
   refine Q0<|Q8 (q1y ad) (fun (w : Int × List Int)=>⟨[(1,.ref 2 1 0 0),(3,.ref 3 1 0 0),(8,.hs 1 1 0 [a].length),(9,q7 1),(10,q7 0),(14,.d (.sl 4 (ad.map qx))),(15,q7 (ad.length : Int)),(16,q7 w.1)],[(0,.dat 4 [[.nilsl,.nilsl,G 0,G 0]]),(1,.dat 1 ([a].map Zf)),(2,.cel 1 [[.hs 1 1 0 [a].length]]),(3,.cel 1 [[.hs 4 1 0 w.2.length]]),(4,.dat 1 (w.2.map (eI .i64)))],5⟩) (0,[]) ay az (wkA [(2,2),(3,3)] [] [4]) ?_
   intro w cc p
   unfold q1y at p
   refine qb<|O (.d (.bool (decide (w.1 < (ad.length : Int))))) J<|q9<|qf ?_
   refine qo J p (fun _ p=>?_) (fun _ p=>?_)
   ·refine qn<|qf<|Q0<|qb ?_
    obtain ⟨g,ba,p⟩:=q8 p
    refine Q4 (enc:=qx) ba J<|O (.d (.agg [G g.X0,G g.Y0,G g.X1,G g.Y1])) J<|K2 J J<|Qp 5 (.dat 4 [[G g.X0,G g.Y0,G g.X1,G g.Y1]]) J<|q9<|qu<|O (.hs 4 1 0 w.2.length) J<|O (.ref 5 4 0 0) J<|O (q7 g.X0) J<|O (.ref 5 4 0 2) J<|O (q7 g.X1) J<|Qn (.hs 6 1 0 [g.X0,g.X1].length) (.dat 1 ([g.X0,g.X1].map (eI .i64))) J ?_
    obtain ⟨bb,bc,p⟩:=q8 p
    refine Kw (xs:=w.2) (ys:=[g.X0,g.X1]) (enc:=(eI .i64)) (.hs 6 1 0 [g.X0,g.X1].length) bc J J J J J J J (Ku J J) J J J J<|Qp 3 (.cel 1 [[.hs 7 1 0 bb.length]]) J<|qs<|Qc<|qu<|O (.d (G (w64 (w.1 + 1)))) J<|U J<|qs ?_
    exact ⟨_,(Option.some.inj p).symm,wkA [(2,2),(3,3),(4,7)] [] []⟩
   refine Q3 ?_
   refine ⟨_,(Option.some.inj p).symm,fun hm=>?_⟩
   subst hm
   obtain rfl:=qe ac
   exact ⟨_,J,wkA [(2,2),(3,3),(4,4)] [] []⟩
  intro m hb
  subst hb
  refine qu<|O (q7 1) J<|U J<|q9<|q10<|qb<|O (qh false) J<|q9<|qf<|Jo J<|Q3<|q2f<|qb<|O (.hs 4 1 0 m.length) J ?_
  obtain ⟨ak,bd,l⟩:=q8 l
  obtain ⟨cd,be,l⟩:=q8 l
  have bf:=Kj be
  refine K6 [(0,4)] [(0,1),(1,1),(2,1),(3,1),(4,0)] [.hs 4 1 0 m.length] (.d (.tup [])) 1 [(4,.dat 1 (ak.map (eI .i64))),(0,.dat 4 [[.nilsl,.nilsl,G 0,G 0]]),(1,.dat 1 ([a].map Zf)),(2,.cel 1 [[.hs 1 1 0 [a].length]]),(3,.cel 1 [[.hs 4 1 0 m.length]])] 5 (qkc m ak bd)<|qt<|O (.hs 4 1 0 m.length) J ?_
  obtain ⟨z,bg,l⟩:=q8 l
  obtain ⟨ce,bh,l⟩:=q8 l
  have cf:=Kj bh
  obtain ⟨cg,bi,l⟩:=q8 l
  have bj:=qlg bi
  refine U7 [(0,4)] [(0,1),(1,1),(2,1),(3,1),(4,0)] [.hs 4 1 0 m.length] (.hs 4 1 z.1.1 z.1.2) [(4,.dat 1 (z.2.map (eI .i64)))] [(4,.dat 1 (z.2.map (eI .i64))),(0,.dat 4 [[.nilsl,.nilsl,G 0,G 0]]),(1,.dat 1 ([a].map Zf)),(2,.cel 1 [[.hs 1 1 0 [a].length]]),(3,.cel 1 [[.hs 4 1 0 m.length]])] 5 (qka ak z bg) J J J (Yh [(0,4)] [] [] J ⟨⟨_,J,Qx (by simp [bf]) J qy (ltd J)⟩,trivial⟩ ⟨Qm J J,trivial⟩) (Yh [(0,1),(1,1),(2,1),(3,1),(4,0)] [] [] J ⟨⟨_,J,.hs J qy (ltd J)⟩,trivial⟩ ⟨Qm J J,trivial⟩) J ⟨.inl J,.inr ⟨J,J⟩,.inr ⟨J,J⟩,.inr ⟨J,J⟩,.inr ⟨J,J⟩,trivial⟩<|Qp 3 (.cel 1 [[.hs 4 1 z.1.1 z.1.2]]) J<|qt<|O (.fn 157 [.ref 3 1 0 0,.ref 2 1 0 0]) J<|qa J<|qp ?_
  refine ⟨.inr J,_,J,?_⟩
  obtain rfl:=qe l
  exact ⟨_,J,wkE [(0,0),(1,3),(2,2),(3,1)] [4] [] J ⟨ql J,ql J,⟨_,J,.ref J qy (ltd J)⟩,⟨_,J,(q3z (.cons (.ref J qy (ltd J)) (.cons (.ref J qy (ltd J)) .nil)))⟩,trivial⟩ ⟨Qm J J,⟨ltd J,.inr ⟨qy,_,J,Uc (.cons (qlk bj J qy) J .nil)⟩⟩,⟨ltd J,.inr ⟨qy,_,J,Uc (.cons (.hs J qy (ltd J)) J .nil)⟩⟩,Qm J J,trivial⟩⟩
 intro h hb
 subst hb
 refine q9<|Q0 ?_
 obtain ⟨bk,al,u⟩:=q8 u
 refine qb7 (fun n=>n = bk) (fun (n : List qm × Int × Int × List qk)=>⟨[(4,.ref 0 4 0 0)],[(0,.cel 4 [[.hs 1 4 0 n.2.2.2.length,.d (.sl 2 (n.1.map Qh)),q7 n.2.1,q7 n.2.2.1]]),(1,.dat 4 (n.2.2.2.map qx))],2⟩) ?_ ?_
 ·refine Yn (st':=⟨[(2,.d (.nilsl)),(3,q7 0),(4,.ref 0 4 0 0),(10,.fn 157 [.ref 1 1 0 0,.ref 2 1 0 0])],[(0,.dat 4 [[.nilsl,.nilsl,G 0,G 0]]),(1,.cel 1 [[.d (.sl 1 (h.map (eI .i64)))]]),(2,.cel 1 [[.hs 3 1 0 [a].length]]),(3,.dat 1 ([a].map Zf))],4⟩) (wkA [(0,0),(1,1),(2,2),(3,3)] [] []) ?_ qd
  refine qb8 [.ref 1 1 0 0,.ref 2 1 0 0] (.inl J) Tryz.func157 J qi qi J ?_
  intro A847 B848 hA847 hB848
  refine qb<|qa J<|q9 ?_
  obtain ⟨bl,bm,al⟩:=q8 al
  refine Q0<|Q8 (q1z h a) (fun (b : Int × List qm × Int × Int × List qk)=>⟨[(0,.yld 4),(1,.ref 1 1 0 0),(2,.ref 2 1 0 0),(4,q7 b.1)],[(0,.cel 4 [[.hs 5 4 0 b.2.2.2.2.length,.d (.sl 2 (b.2.1.map Qh)),q7 b.2.2.1,q7 b.2.2.2.1]]),(1,.cel 1 [[.d (.sl 1 (h.map (eI .i64)))]]),(2,.cel 1 [[.hs 3 1 0 [a].length]]),(3,.dat 1 ([a].map Zf)),(4,.loop [(2,.d (.nilsl)),(3,q7 0),(4,.ref 0 4 0 0),(10,.fn 157 [.ref 1 1 0 0,.ref 2 1 0 0])] [11] A847 B848 .ready none),(5,.dat 4 (b.2.2.2.2.map qx))],6⟩) (1,[],0,0,[]) bl bm (wkA [] [] [5]) ?_
  intro b ch j
  unfold q1z at j
  refine qf<|qb<|U J<|O (.d (.sl 1 (h.map (eI .i64)))) J<|Qd J<|O (.d (.bool (decide (b.1 < (h.length : Int))))) J<|q9 ?_
  refine qo J j (fun _ j=>?_) (fun _ j=>?_)
  ·refine qn<|qf<|Q0<|qf<|Q7 [Qk 7,(some [],[7]),q0,(some [],[6]),q0,qq 2,q0,q0,q0,qq 1,q0,q0,q0,q0,qq 1] qi<|O (.d (.sl 1 (h.map (eI .i64)))) J<|U J<|O (.d (G (w64 (b.1 - 1)))) J ?_
   obtain ⟨f,bn,j⟩:=q8 j
   refine Q4 (enc:=(eI .i64)) bn J<|O (q7 f) J<|O (.d (.sl 1 (h.map (eI .i64)))) J<|U J ?_
   obtain ⟨k,bo,j⟩:=q8 j
   refine Q4 (enc:=(eI .i64)) bo J<|O (q7 k) J<|O (.hs 3 1 0 [a].length) J<|O (q7 1) J<|Qn (.hs 6 1 0 1) (.dat 1 [[.nilsl]]) J<|O (.agg [q7 f,q7 k,.hs 6 1 0 1]) J<|K2 J J<|Qp 7 (.cel 3 [[q7 f,q7 k,.hs 6 1 0 1]]) J<|q9<|qf<|qb<|O (.hs 3 1 0 [a].length) J<|O (q7 1) J<|U J<|q9<|Q0<|q10<|qb<|O (qh true) J<|q9<|qf<|q3d J<|qn<|qf ?_
   obtain ⟨bp,ae,j⟩:=q8 j
   refine Qe (fun s=>s = bp) (fun (s : List qm)=>⟨[(0,.yld 4),(1,.ref 1 1 0 0),(2,.ref 2 1 0 0),(4,q7 b.1),(5,.ref 5 3 0 0),(29,.hs 3 1 0 [a].length),(30,q7 1),(31,q7 0)],[(0,.cel 4 [[.hs 6 4 0 b.2.2.2.2.length,.d (.sl 2 (b.2.1.map Qh)),q7 b.2.2.1,q7 b.2.2.2.1]]),(1,.cel 1 [[.d (.sl 1 (h.map (eI .i64)))]]),(2,.cel 1 [[.hs 3 1 0 [a].length]]),(3,.dat 1 ([a].map Zf)),(4,.loop [(2,.d (.nilsl)),(3,q7 0),(4,.ref 0 4 0 0),(10,.fn 157 [.ref 1 1 0 0,.ref 2 1 0 0])] [11] A847 B848 .ready none),(5,.cel 3 [[q7 f,q7 k,.hs 7 1 0 1]]),(6,.dat 4 (b.2.2.2.2.map qx)),(7,.cel 1 [[.hs 8 2 0 s.length]]),(8,.dat 2 (s.map Qh))],9⟩) qd ?_ ?_
   ·refine qb<|U J ?_
    obtain ⟨aa,an,ae⟩:=q8 ae
    refine qr an J J<|Q2 (.d (.sl 4 (aa.map qx))) an J<|qa J<|qa J<|qt<|U J<|Qd J<|U J<|q9 ?_
    obtain ⟨bq,br,ae⟩:=q8 ae
    refine Q0<|Q8 (q3c aa f) (fun (t : Int × List qm)=>⟨[(0,.yld 4),(1,.ref 1 1 0 0),(2,.ref 2 1 0 0),(4,q7 b.1),(5,.ref 5 3 0 0),(6,q7 0),(29,.hs 3 1 0 [a].length),(30,q7 1),(31,q7 0),(36,.d (.sl 4 (aa.map qx))),(37,q7 (aa.length : Int)),(38,q7 t.1)],[(0,.cel 4 [[.hs 6 4 0 b.2.2.2.2.length,.d (.sl 2 (b.2.1.map Qh)),q7 b.2.2.1,q7 b.2.2.2.1]]),(1,.cel 1 [[.d (.sl 1 (h.map (eI .i64)))]]),(2,.cel 1 [[.hs 3 1 0 [a].length]]),(3,.dat 1 ([a].map Zf)),(4,.loop [(2,.d (.nilsl)),(3,q7 0),(4,.ref 0 4 0 0),(10,.fn 157 [.ref 1 1 0 0,.ref 2 1 0 0])] [11] A847 B848 .ready none),(5,.cel 3 [[q7 f,q7 k,.hs 7 1 0 1]]),(6,.dat 4 (b.2.2.2.2.map qx)),(7,.cel 1 [[.hs 8 2 0 t.2.length]]),(8,.dat 2 (t.2.map Qh))],9⟩) (0,[]) bq br (wkA [(5,7),(6,5),(7,6)] [] [8]) ?_
    intro t ci x
    unfold q3c at x
    refine qb<|O (.d (.bool (decide (t.1 < (aa.length : Int))))) J<|q9<|qf ?_
    refine qo J x (fun _ x=>?_) (fun _ x=>?_)
    ·refine qn<|qf ?_
     obtain ⟨bs,o,x⟩:=q8 x
     refine Qe (fun af=>af = bs) (fun (af : List qm)=>⟨[(0,.yld 4),(1,.ref 1 1 0 0),(2,.ref 2 1 0 0),(4,q7 b.1),(5,.ref 5 3 0 0),(6,q7 0),(29,.hs 3 1 0 [a].length),(30,q7 1),(31,q7 0),(36,.d (.sl 4 (aa.map qx))),(37,q7 (aa.length : Int)),(38,q7 t.1)],[(0,.cel 4 [[.hs 6 4 0 b.2.2.2.2.length,.d (.sl 2 (b.2.1.map Qh)),q7 b.2.2.1,q7 b.2.2.2.1]]),(1,.cel 1 [[.d (.sl 1 (h.map (eI .i64)))]]),(2,.cel 1 [[.hs 3 1 0 [a].length]]),(3,.dat 1 ([a].map Zf)),(4,.loop [(2,.d (.nilsl)),(3,q7 0),(4,.ref 0 4 0 0),(10,.fn 157 [.ref 1 1 0 0,.ref 2 1 0 0])] [11] A847 B848 .ready none),(5,.cel 3 [[q7 f,q7 k,.hs 7 1 0 1]]),(6,.dat 4 (b.2.2.2.2.map qx)),(7,.cel 1 [[.hs 8 2 0 af.length]]),(8,.dat 2 (af.map Qh))],9⟩) qd ?_ ?_
     ·refine qb ?_
      obtain ⟨c,bt,o⟩:=q8 o
      refine Q4 (enc:=qx) bt J<|O (.d (.agg [G c.X0,G c.Y0,G c.X1,G c.Y1])) J<|K2 J J<|Qp 9 (.dat 4 [[G c.X0,G c.Y0,G c.X1,G c.Y1]]) J<|qt<|O (.ref 9 4 0 0) J<|O (q7 c.X0) J<|O (.ref 5 3 0 0) J<|O (q7 f) J<|O (.d (.bool (decide (c.X0≤f)))) J ?_
      obtain ⟨bu,ag,o⟩:=q8 o
      refine Qa 7 (fun A st=>∃ (ao ap aq ar au av : V),st = A [(53,qh bu),(52,av),(51,au),(50,ar),(49,aq),(48,ap),(47,ao)]) ?_ ?_
      ·refine Qb J J ag (fun ag=>?_) (fun ag=>?_)
       ·refine O (.ref 5 3 0 0) J<|O (q7 f) J<|O (.ref 9 4 0 2) J<|O (q7 c.X1) J<|O (.d (.bool (decide (f < c.X1)))) J<|O (.d (.bool (decide (f < c.X1)))) J<|q9 ?_
        obtain rfl:=qe ag
        exact ⟨_,_,_,_,_,_,J⟩
       refine qc J<|qc J<|qc J<|qc J<|qc J<|O (qh false) J<|q9 ?_
       obtain rfl:=qe ag
       exact ⟨_,_,_,_,_,_,J⟩
      rintro _ ⟨ao,ap,aq,ar,au,av,rfl⟩
      refine q9 ?_
      refine qo J o (fun _ o=>?_) (fun _ o=>?_)
      ·refine Q7 [Qk 7,q0,(some [8,10],[8,11]),(some [],[10]),q0,qq 9,q0,qq 9,q0,qq 7,q0,q0,qq 5,q0,q0,qq 5,q0] qi<|O (.ref 5 3 0 2) J<|O (.hs 7 1 0 1) J<|U J<|O (.ref 5 3 0 2) J<|O (.hs 7 1 0 1) J<|U J<|O (.ref 7 1 0 0) J<|O (.hs 8 2 0 t.2.length) J<|O (.ref 9 4 0 1) J<|O (q7 c.Y0) J<|O (.ref 9 4 0 3) J<|O (q7 c.Y1) J<|O (.d (.agg [G c.Y0,G c.Y1])) J<|Qn (.hs 10 2 0 [({Lo:=c.Y0,Hi:=c.Y1} : qm)].length) (.dat 2 ([({Lo:=c.Y0,Hi:=c.Y1} : qm)].map Qh)) J ?_
       obtain ⟨bv,bw,o⟩:=q8 o
       refine Kw (xs:=t.2) (ys:=[({Lo:=c.Y0,Hi:=c.Y1} : qm)]) (enc:=Qh) (.hs 10 2 0 [({Lo:=c.Y0,Hi:=c.Y1} : qm)].length) bw J J J J J J J (Ku J J) J J J J<|O (.ref 7 1 0 0) J<|Qp 7 (.cel 1 [[.hs 11 2 0 bv.length]]) J<|qs ?_
       obtain rfl:=qe o
       exact ⟨_,J,wkA [(5,5),(6,6),(7,7),(8,11)] [] []⟩
      refine qn<|Q9 ?_
      obtain rfl:=qe o
      exact ⟨_,J,wkA [(5,5),(6,6),(7,7),(8,8)] [] []⟩
     intro af hb
     subst hb
     refine qu<|O (.d (G (w64 (t.1 + 1)))) J<|U J<|qs ?_
     exact ⟨_,(Option.some.inj x).symm,wkA [(5,5),(6,6),(7,7),(8,8)] [] []⟩
    refine Q3 ?_
    refine ⟨_,(Option.some.inj x).symm,fun hm=>?_⟩
    subst hm
    obtain rfl:=qe ae
    exact ⟨_,J,wkA [(5,5),(6,6),(7,7),(8,8)] [] []⟩
   intro s hb
   subst hb
   refine qu<|O (q7 1) J<|U J<|q9<|q10<|qb<|O (qh false) J<|q9<|qf<|Jo J<|Q3<|q2f<|qf ?_
   refine Yn (st':=⟨[(0,.yld 4),(1,.ref 1 1 0 0),(2,.ref 2 1 0 0),(4,q7 b.1),(5,.ref 5 3 0 0)],[(0,.cel 4 [[.hs 6 4 0 b.2.2.2.2.length,.d (.sl 2 (b.2.1.map Qh)),q7 b.2.2.1,q7 b.2.2.2.1]]),(1,.cel 1 [[.d (.sl 1 (h.map (eI .i64)))]]),(2,.cel 1 [[.hs 3 1 0 [a].length]]),(3,.dat 1 ([a].map Zf)),(4,.loop [(2,.d (.nilsl)),(3,q7 0),(4,.ref 0 4 0 0),(10,.fn 157 [.ref 1 1 0 0,.ref 2 1 0 0])] [11] A847 B848 .ready none),(5,.cel 3 [[q7 f,q7 k,.hs 7 1 0 1]]),(6,.dat 4 (b.2.2.2.2.map qx)),(7,.cel 1 [[.d (.sl 2 (s.map Qh))]])],8⟩) (wkA [(5,5),(6,6),(7,7)] [8] []) ?_ qd
   refine qu<|U J<|O (.agg [q7 f,q7 k,.hs 7 1 0 1]) J ?_
   obtain ⟨bx,ah,j⟩:=q8 j
   refine qas (fun y=>y = bx) (fun (y : List qm × Int × Int × List qk)=>⟨[(0,.yld 4),(1,.ref 1 1 0 0),(2,.ref 2 1 0 0),(4,q7 b.1),(74,qh true)],[(0,.cel 4 [[.hs 5 4 0 y.2.2.2.length,.d (.sl 2 (y.1.map Qh)),q7 y.2.1,q7 y.2.2.1]]),(1,.cel 1 [[.d (.sl 1 (h.map (eI .i64)))]]),(2,.cel 1 [[.hs 3 1 0 [a].length]]),(3,.dat 1 ([a].map Zf)),(4,.loop [(2,.d (.nilsl)),(3,q7 0),(4,.ref 0 4 0 0),(10,.fn 157 [.ref 1 1 0 0,.ref 2 1 0 0])] [11] A847 B848 .ready none),(5,.dat 4 (y.2.2.2.map qx))],6⟩) hA847 hB848 J J J J J J ?_ ?_
   ·refine qu<|K2 J J<|Qp 8 (.cel 3 [[q7 f,q7 k,.hs 7 1 0 1]]) J<|qs ?_
    refine ⟨J,_,J,?_⟩
    refine Q0<|qb<|O (.ref 8 3 0 2) J<|O (.hs 7 1 0 1) J<|O (.ref 7 1 0 0) J<|O (.d (.sl 2 (s.map Qh))) J ?_
    obtain ⟨ai,bz,ah⟩:=q8 ah
    refine qz (qxy s ai bz) J<|U J<|O (.d (.sl 2 (ai.1.map Qh))) J<|O (q7 ai.2) J<|qa J<|qa J<|q9<|qu<|O (.ref 8 3 0 0) J<|O (q7 f) J<|O (.ref 8 3 0 1) J<|O (q7 k) J<|U J ?_
    obtain ⟨ab,ca,ah⟩:=q8 ah
    refine K6 [(0,0),(1,6)] [(0,0),(1,3),(2,3),(3,3),(4,3),(5,3),(6,1),(7,3),(8,3),(9,2)] [.ref 0 4 0 0,q7 f,q7 k,.d (.sl 2 (ai.1.map Qh))] (.d (.tup [])) 2 [(0,.cel 4 [[.hs 9 4 0 ab.2.2.2.length,.d (.sl 2 (ab.1.map Qh)),q7 ab.2.1,q7 ab.2.2.1]]),(9,.dat 4 (ab.2.2.2.map qx)),(1,.cel 1 [[.d (.sl 1 (h.map (eI .i64)))]]),(2,.cel 1 [[.hs 3 1 0 [a].length]]),(3,.dat 1 ([a].map Zf)),(4,.loop [(2,.d (.nilsl)),(3,q7 0),(4,.ref 0 4 0 0),(10,.fn 157 [.ref 1 1 0 0,.ref 2 1 0 0])] [11] A847 B848 .busy none),(5,.cel 3 [[q7 f,q7 k,.hs 7 1 0 1]]),(7,.cel 1 [[.d (.sl 2 (s.map Qh))]]),(8,.cel 3 [[q7 f,q7 k,.hs 7 1 0 1]])] 10 (qsi b.2.2.2.2 b.2.1 b.2.2.1 b.2.2.2.1 f k ai.1 ab ca)<|qs<|Qc<|Q9 ?_
    refine ⟨_,J,?_⟩
    obtain rfl:=qe ah
    exact ⟨_,J,wkA [(5,9)] [] []⟩
   intro y hb
   subst hb
   refine O (qh false) J<|q9<|Jo J<|qn<|Q9<|Qc<|qu<|U J<|O (.d (G (w64 (b.1 + 1)))) J<|qa J<|qs ?_
   exact ⟨_,(Option.some.inj j).symm,wkA [(5,5)] [] []⟩
  refine Q3 ?_
  refine ⟨_,(Option.some.inj j).symm,fun hm=>?_⟩
  subst hm
  refine ⟨.inl J,_,J,_,_,.nor,J,qy,?_⟩
  refine qa0<|Q9 ?_
  obtain rfl:=qe al
  exact ⟨_,J,wkA [(0,0),(1,5)] [] []⟩
 intro n st hb hw
 subst hb
 refine Yn hw ?_ qd
 refine qb ?_
 obtain ⟨cb,aj,u⟩:=q8 u
 refine qap [.ref 0 4 0 0] (fun q=>q = cb) (fun (q : Int × List qk)=>⟨[(26,.tup [.hs 0 4 0 q.2.length,q7 q.1])],[(0,.dat 4 (q.2.map qx))],1⟩) J J Tryz.func111 J qi qi J ?_ ?_
 ·refine qb<|qa J<|qa J<|q9<|qf<|qb<|U J<|O (.ref 0 4 0 0) J<|O (.ref 0 4 0 0) J<|O (.hs 1 4 0 n.2.2.2.length) J<|O (q7 (n.2.2.2.length : Int)) J<|O (.d (.bool (decide ((n.2.2.2.length : Int) > 400)))) J<|q9 ?_
  refine qo J aj (fun _ aj=>?_) (fun _ aj=>?_)
  ·refine qb<|qa J<|qa J<|qp ?_
   refine ⟨.inr J,_,J,?_⟩
   obtain rfl:=qe aj
   exact ⟨_,J,wkA [] [] [0]⟩
  refine qn<|qb<|U J<|O (.ref 0 4 0 0) J<|O (.ref 0 4 0 0) J<|O (.hs 1 4 0 n.2.2.2.length) J<|qa J<|qa J<|qp ?_
  refine ⟨.inr J,_,J,?_⟩
  obtain rfl:=qe aj
  exact ⟨_,J,wkA [(0,1)] [] []⟩
 intro q hb
 subst hb
 refine O (.hs 0 4 0 q.2.length) J<|O (q7 q.1) J<|qa J<|qa J<|qp ?_
 obtain rfl:=qe u
 exact finD (.inr J) (v:=.tup [.hs 0 4 0 q.2.length,q7 q.1]) J (q9o (Y2 (Za J J) (Y2 J J))) (.refl _)
theorem qsh (b : List qk) (r : List qk × Int) (a : q57 b = some r) : Pure Tryz.prog tab 99 [.sl 4 (b.map qx)] (.tup [.sl 4 (r.1.map qx),G r.2]):=by
 unfold q57 at a
 refine Qg Tryz.func99 J qi qi J<|qb<|qa J<|qa J<|q9<|qf<|qb<|U J<|Qd J<|O (.d (.bool (decide ((b.length : Int) > 400)))) J<|q9 ?_
 refine qo J a (fun _ a=>?_) (fun _ a=>?_)
 ·refine qb<|qa J<|qa J<|qp ?_
  obtain rfl:=qe a
  exact finD (.inr J) (v:=.d (.tup [.nilsl,G 4])) J J (Kz (.cons (.nil _) (.cons (.refl _) .nil)))
 refine qn<|qf<|qb<|U J ?_
 obtain ⟨g,h,a⟩:=q8 a
 refine qz (qui b (fun f=>q1w f) 124 [] (fun f r hr=>qsf f r hr) g h) J<|q9 ?_
 refine qo J a (fun _ a=>?_) (fun _ a=>?_)
 ·refine qb<|qa J<|qa J<|qp ?_
  obtain rfl:=qe a
  exact finD (.inr J) (v:=.d (.tup [.nilsl,G 8])) J J (Kz (.cons (.nil _) (.cons (.refl _) .nil)))
 refine qn<|qb<|U J ?_
 obtain ⟨c,j,a⟩:=q8 a
 refine qz (qsl b c j) J<|O (.d (.sl 4 (c.1.map qx))) J<|O (q7 c.2) J<|qa J<|qa J<|qp ?_
 obtain rfl:=qe a
 exact Q1 (.d (.tup [.sl 4 (c.1.map qx),G c.2])) J
theorem qul (g : List qk) (h : List qk) (r : Bool) (b : q8e g h = some r) : Pure Tryz.prog tab 127 [.sl 4 (g.map qx),.sl 4 (h.map qx)] (.bool r):=by
 unfold q8e at b
 refine Qg Tryz.func127 J qi qi J<|qb<|qa J<|q9<|qf<|qb<|U J<|Qd J<|U J<|Qd J<|O (.d (.bool ((g.length : Int) != (h.length : Int)))) J<|q9 ?_
 refine qo J b (fun _ b=>?_) (fun _ b=>?_)
 ·refine qb<|qa J<|qp ?_
  obtain rfl:=qe b
  exact Q1 (qh false) J
 refine qn<|qf<|qb<|U J<|Qd J<|U J<|q9 ?_
 obtain ⟨l,m,b⟩:=q8 b
 refine Qe (fun k=>.inl k = l) (fun (k : Unit)=>⟨[],[],0⟩) qd ?_ ?_
 ·refine Q8 (qbf g h) (fun (j : Int)=>⟨[(0,.d (.sl 4 (g.map qx))),(1,.d (.sl 4 (h.map qx))),(12,q7 (g.length : Int)),(13,q7 j)],[],0⟩) 0 l m (wkA [] [] []) ?_
  intro j p a
  unfold qbf at a
  refine qb<|O (.d (.bool (decide (j < (g.length : Int))))) J<|q9<|qf ?_
  refine qo J a (fun _ a=>?_) (fun _ a=>?_)
  ·refine qn<|qf<|Q0<|qb<|U J<|qa J<|q9<|qf<|Q7 [q0,q0,q0,q0,q0,q0,q0,q0,q0] qi<|U J<|U J ?_
   obtain ⟨c,n,a⟩:=q8 a
   refine Q4 (enc:=qx) n J<|O (.d (.agg [G c.X0,G c.Y0,G c.X1,G c.Y1])) J<|U J<|U J ?_
   obtain ⟨f,o,a⟩:=q8 a
   refine Q4 (enc:=qx) o J<|O (.d (.agg [G f.X0,G f.Y0,G f.X1,G f.Y1])) J<|O (.d (.bool (!((c.X0 == f.X0) && ((c.Y0 == f.Y0) && ((c.X1 == f.X1) && ((c.Y1 == f.Y1) && true))))))) J<|q9 ?_
   refine qo J a (fun _ a=>?_) (fun _ a=>?_)
   ·refine qb<|qa J<|qp ?_
    refine ⟨_,(Option.some.inj a).symm,fun hm=>?_⟩
    subst hm
    obtain rfl:=qe b
    exact Q1 (qh false) J
   refine qn<|Q9<|Qc<|qu<|O (.d (G (w64 (j + 1)))) J<|U J<|qs ?_
   exact ⟨_,(Option.some.inj a).symm,wkA [] [] []⟩
  refine Q3 ?_
  refine ⟨_,(Option.some.inj a).symm,fun hm=>?_⟩
  subst hm
  exact ⟨_,J,wkA [] [] []⟩
 intro k hb
 subst hb
 refine qb<|qa J<|qp ?_
 obtain rfl:=qe b
 exact Q1 (qh true) J
theorem qxn (c : List qg) (m : List qk) (p : Int) (l : Int) (g : Int) (b : Int) (h : List qk) (r : List qk × Int × Int × List qg) (f : q99  c m p l g b h = some r) : K0 Tryz.prog tab 100 [.ref 0 4 0 0,q7 g,q7 b,.d (.sl 4 (h.map qx))] [(0,.cel 4 [[.hs 1 6 0 c.length,.d (.sl 4 (m.map qx)),q7 p,q7 l]]),(1,.dat 6 (c.map qw))] 2 (.d (.tup [])) [(0,.cel 4 [[.hs 2 6 0 r.2.2.2.length,.d (.sl 4 (r.1.map qx)),q7 r.2.1,q7 r.2.2.1]]),(2,.dat 6 (r.2.2.2.map qw))] 3:=by
 unfold q99 at f
 refine Kf Tryz.func100 J qi qi J<|qf<|qb<|U J<|Qd J<|O (.d (.bool (decide ((h.length : Int) > 0)))) J ?_
 obtain ⟨am,t,f⟩:=q8 f
 refine Qa 8 (fun A st=>∃ (v w x y z aa ab : V),st = A [(21,qh am),(20,ab),(19,aa),(18,z),(17,y),(16,x),(15,w),(14,v)]) ?_ ?_
 ·refine Qb J J t (fun t=>?_) (fun t=>?_)
  ·refine U J<|O (.ref 0 4 0 0) J<|O (.ref 0 4 0 3) J<|O (q7 l) J<|U J<|O (qh (l == g)) J<|O (qh (l == g)) J<|q9 ?_
   obtain rfl:=qe t
   exact ⟨_,_,_,_,_,_,_,J⟩
  refine qc J<|qc J<|qc J<|qc J<|qc J<|qc J<|O (qh false) J<|q9 ?_
  obtain rfl:=qe t
  exact ⟨_,_,_,_,_,_,_,J⟩
 rintro _ ⟨v,w,x,y,z,aa,ab,rfl⟩
 obtain ⟨an,q,f⟩:=q8 f
 refine Qa 8 (fun A st=>∃ (ac ad ae af ag ah ai : V),st = A [(29,qh an),(28,ai),(27,ah),(26,ag),(25,af),(24,ae),(23,ad),(22,ac)]) ?_ ?_
 ·refine Qb J J q (fun q=>?_) (fun q=>?_)
  ·refine U J<|O (.ref 0 4 0 0) J<|O (.ref 0 4 0 1) J<|O (.d (.sl 4 (m.map qx))) J<|U J ?_
   obtain ⟨aj,ao,q⟩:=q8 q
   refine qz (qul m h aj ao) J<|O (qh aj) J<|q9 ?_
   obtain rfl:=qe q
   exact ⟨_,_,_,_,_,_,_,J⟩
  refine qc J<|qc J<|qc J<|qc J<|qc J<|qc J<|O (qh false) J<|q9 ?_
  obtain rfl:=qe q
  exact ⟨_,_,_,_,_,_,_,J⟩
 rintro _ ⟨ac,ad,ae,af,ag,ah,ai,rfl⟩
 refine q9 ?_
 refine qo J f (fun _ f=>?_) (fun _ f=>?_)
 ·refine qf<|qb<|U J<|O (.ref 0 4 0 0) J<|O (.ref 0 4 0 2) J<|O (q7 p) J<|qa J<|q9 ?_
  obtain ⟨ak,ap,f⟩:=q8 f
  refine Qe (fun s=>s = ak) (fun (s : List qg)=>⟨[(0,.ref 0 4 0 0),(2,q7 b)],[(0,.cel 4 [[.hs 1 6 0 s.length,.d (.sl 4 (m.map qx)),q7 p,q7 l]]),(1,.dat 6 (s.map qw))],2⟩) qd ?_ ?_
  ·refine Q8 (q6d b) (fun (j : Int × List qg)=>⟨[(0,.ref 0 4 0 0),(2,q7 b),(8,q7 j.1)],[(0,.cel 4 [[.hs 1 6 0 j.2.length,.d (.sl 4 (m.map qx)),q7 p,q7 l]]),(1,.dat 6 (j.2.map qw))],2⟩) (p,c) ak ap (wkA [] [] []) ?_
   intro j ax n
   unfold q6d at n
   refine qf<|qb<|U J<|U J<|O (.ref 0 4 0 0) J<|O (.ref 0 4 0 0) J<|O (.hs 1 6 0 j.2.length) J<|O (q7 (j.2.length : Int)) J<|O (.d (.bool (decide (j.1 < (j.2.length : Int))))) J<|q9 ?_
   refine qo J n (fun _ n=>?_) (fun _ n=>?_)
   ·refine qn<|qf<|Q0<|qu<|U J<|O (.ref 0 4 0 0) J<|O (.ref 0 4 0 0) J<|O (.hs 1 6 0 j.2.length) J<|U J<|U J ?_
    obtain ⟨u,al,n⟩:=q8 n
    refine qr al J J<|O (.ref 1 6 j.1.toNat 3) J<|O (.ref 1 6 j.1.toNat 5) J<|Qt (ds:=[G b]) ({Lo:=u.Lo,Hi:=({X:=u.Hi.X,Y:=u.Hi.Y,Z:=b} : qv)} : qg) al J J J J J J J J (leb J) J<|qs<|Qc<|qu<|U J<|O (.d (G (w64 (j.1 + 1)))) J<|qa J<|qs ?_
    exact ⟨_,(Option.some.inj n).symm,wkE [] [] [] J ⟨⟨_,J,.ref J qy (ltd J)⟩,ql J,ql J,trivial⟩ ⟨⟨ltd J,.inr ⟨qy,_,J,Uc (.cons (Qx qd J qy (ltd J)) J (.cons (.d (.refl _)) J (.cons (.d (.refl _)) J (.cons (.d (.refl _)) J .nil))))⟩⟩,Qm J J,trivial⟩⟩
   refine Q3 ?_
   refine ⟨_,(Option.some.inj n).symm,fun hm=>?_⟩
   subst hm
   exact ⟨_,J,wkA [] [] []⟩
  intro s hb
  subst hb
  refine qb<|U J<|U J<|O (.ref 0 4 0 0) J<|O (.ref 0 4 0 3) J<|Qp 0 (.cel 4 [[.hs 1 6 0 s.length,.d (.sl 4 (m.map qx)),q7 p,q7 b]]) J<|qp ?_
  obtain rfl:=qe f
  exact ⟨.inr J,_,J,wkA [(2,1)] [] []⟩
 refine qn<|qb<|U J<|U J<|U J<|U J<|O (.ref 0 4 0 0) J<|O (.ref 0 4 0 0) J<|O (.hs 1 6 0 c.length) J<|O (q7 (c.length : Int)) J<|U J<|U J<|O (.ref 0 4 0 0) J<|O (.ref 0 4 0 2) J<|Qp 0 (.cel 4 [[.hs 1 6 0 c.length,.d (.sl 4 (m.map qx)),q7 (c.length : Int),q7 l]]) J<|O (.ref 0 4 0 0) J<|O (.ref 0 4 0 1) J<|Qp 0 (.cel 4 [[.hs 1 6 0 c.length,.d (.sl 4 (h.map qx)),q7 (c.length : Int),q7 l]]) J<|O (.ref 0 4 0 0) J<|O (.ref 0 4 0 3) J<|Qp 0 (.cel 4 [[.hs 1 6 0 c.length,.d (.sl 4 (h.map qx)),q7 (c.length : Int),q7 b]]) J<|qt<|U J<|Qd J<|U J<|q9 ?_
 obtain ⟨aq,ar,f⟩:=q8 f
 refine Q0<|Q8 (q6e h g b c) (fun (o : Int × List qg)=>⟨[(0,.ref 0 4 0 0),(1,q7 g),(2,q7 b),(72,.d (.sl 4 (h.map qx))),(73,q7 (h.length : Int)),(74,q7 o.1)],[(0,.cel 4 [[.hs 2 6 0 o.2.length,.d (.sl 4 (h.map qx)),q7 (c.length : Int),q7 b]]),(2,.dat 6 (o.2.map qw))],3⟩) (0,c) aq ar (wkA [(2,1)] [] []) ?_
 intro o ay k
 unfold q6e at k
 refine qb<|O (.d (.bool (decide (o.1 < (h.length : Int))))) J<|q9<|qf ?_
 refine qo J k (fun _ k=>?_) (fun _ k=>?_)
 ·refine qn<|qf<|Q0<|qb ?_
  obtain ⟨a,au,k⟩:=q8 k
  refine Q4 (enc:=qx) au J<|O (.d (.agg [G a.X0,G a.Y0,G a.X1,G a.Y1])) J<|K2 J J<|Qp 3 (.dat 4 [[G a.X0,G a.Y0,G a.X1,G a.Y1]]) J<|q9<|Q7 [Qk 0,q0,q0,(some [2,4],[2,5]),(some [],[4]),q0,q0,q0,qq 3,q0,qq 3,q0,q0,q0,qq 3,q0,qq 3,q0,qq 0,q0,q0,q0,q0] qi<|U J<|U J<|O (.ref 0 4 0 0) J<|O (.ref 0 4 0 0) J<|O (.hs 2 6 0 o.2.length) J<|O (.ref 3 4 0 0) J<|O (q7 a.X0) J<|O (.ref 3 4 0 1) J<|O (q7 a.Y0) J<|U J<|O (.d (.agg [G a.X0,G a.Y0,G g])) J<|O (.ref 3 4 0 2) J<|O (q7 a.X1) J<|O (.ref 3 4 0 3) J<|O (q7 a.Y1) J<|U J<|O (.d (.agg [G a.X1,G a.Y1,G b])) J<|O (.d (.agg [G a.X0,G a.Y0,G g,G a.X1,G a.Y1,G b])) J<|Qn (.hs 4 6 0 [({Lo:=({X:=a.X0,Y:=a.Y0,Z:=g} : qv),Hi:=({X:=a.X1,Y:=a.Y1,Z:=b} : qv)} : qg)].length) (.dat 6 ([({Lo:=({X:=a.X0,Y:=a.Y0,Z:=g} : qv),Hi:=({X:=a.X1,Y:=a.Y1,Z:=b} : qv)} : qg)].map qw)) J ?_
  obtain ⟨av,aw,k⟩:=q8 k
  refine Kw (xs:=o.2) (ys:=[({Lo:=({X:=a.X0,Y:=a.Y0,Z:=g} : qv),Hi:=({X:=a.X1,Y:=a.Y1,Z:=b} : qv)} : qg)]) (enc:=qw) (.hs 4 6 0 [({Lo:=({X:=a.X0,Y:=a.Y0,Z:=g} : qv),Hi:=({X:=a.X1,Y:=a.Y1,Z:=b} : qv)} : qg)].length) aw J J J J J J J (Ku J J) J J J J<|O (.ref 0 4 0 0) J<|O (.ref 0 4 0 0) J<|Qp 0 (.cel 4 [[.hs 5 6 0 av.length,.d (.sl 4 (h.map qx)),q7 (c.length : Int),q7 b]]) J<|qs<|Qc<|qu<|O (.d (G (w64 (o.1 + 1)))) J<|U J<|qs ?_
  exact ⟨_,(Option.some.inj k).symm,wkA [(2,5)] [] []⟩
 refine Q3 ?_
 refine ⟨_,(Option.some.inj k).symm,fun hm=>?_⟩
 subst hm
 obtain rfl:=qe f
 exact ⟨.inl J,_,J,wkA [(2,2)] [] []⟩
theorem qkr (c : List qg) (r : List qg × Int) (o : q6h c = some r) : Pure Tryz.prog tab 72 [.agg [.nilf],.sl 1 ([c].map Ql)] (.tup [.sl 6 (r.1.map qw),G r.2]):=by
 unfold q6h at o
 refine Qg Tryz.func72 J qi qi J<|qb<|Qn (.ref 0 1 0 0) (.dat 1 [[.nilf]]) J<|K2 J J<|K2 J J<|qt<|K2 J J<|q9<|qf<|qb<|U J ?_
 obtain ⟨ar,m,o⟩:=q8 o
 refine qap [.d (.sl 1 ([c].map Ql))] (fun h=>h = ar) (fun (h : List Int)=>⟨[(2,.ref 0 1 0 0),(4,.ref 1 1 0 0),(5,.ref 2 1 0 0),(6,.ref 3 4 0 0),(14,.fn 122 [.ref 4 1 0 0,.ref 5 1 0 0])],[(0,.dat 1 [[.nilf]]),(1,.dat 1 [[.nilsl]]),(2,.dat 1 [[G 0]]),(3,.dat 4 [[.nilsl,.nilsl,G 0,G 0]]),(4,.cel 1 [[.d (.sl 1 (h.map (eI .i64)))]]),(5,.dat 1 [[.sl 1 ([c].map Ql)]])],6⟩) J J Tryz.func98 J qi qi J ?_ ?_
 ·refine qb<|Qn (.ref 4 1 0 0) (.dat 1 [[.sl 1 ([c].map Ql)]]) J<|qa J<|qt<|K2 J J<|q9<|qf<|qb<|O (.d (.sl 1 ([c].map Ql))) J<|qe2 1 J J J J J<|U J<|q9<|Q0<|q10<|qb<|O (qh true) J<|q9<|qf<|q3d J<|qn<|qf ?_
  obtain ⟨au,ad,m⟩:=q8 m
  refine Qe (fun n=>n = au) (fun (n : List Int)=>⟨[(1,.ref 4 1 0 0),(3,.ref 5 1 0 0),(8,.d (.sl 1 ([c].map Ql))),(9,q7 1),(10,q7 0)],[(0,.dat 1 [[.nilf]]),(1,.dat 1 [[.nilsl]]),(2,.dat 1 [[G 0]]),(3,.dat 4 [[.nilsl,.nilsl,G 0,G 0]]),(4,.dat 1 [[.sl 1 ([c].map Ql)]]),(5,.cel 1 [[.hs 6 1 0 n.length]]),(6,.dat 1 (n.map (eI .i64)))],7⟩) qd ?_ ?_
  ·refine qb ?_
   obtain ⟨ae,av,ad⟩:=q8 ad
   refine Q4 (enc:=Ql) av J<|O (.d (.sl 6 (ae.map qw))) J<|qa J<|qt<|U J<|Qd J<|U J<|q9 ?_
   obtain ⟨aw,ax,ad⟩:=q8 ad
   refine Q0<|Q8 (q3p ae) (fun (w : Int × List Int)=>⟨[(1,.ref 4 1 0 0),(3,.ref 5 1 0 0),(8,.d (.sl 1 ([c].map Ql))),(9,q7 1),(10,q7 0),(14,.d (.sl 6 (ae.map qw))),(15,q7 (ae.length : Int)),(16,q7 w.1)],[(0,.dat 1 [[.nilf]]),(1,.dat 1 [[.nilsl]]),(2,.dat 1 [[G 0]]),(3,.dat 4 [[.nilsl,.nilsl,G 0,G 0]]),(4,.dat 1 [[.sl 1 ([c].map Ql)]]),(5,.cel 1 [[.hs 6 1 0 w.2.length]]),(6,.dat 1 (w.2.map (eI .i64)))],7⟩) (0,[]) aw ax (wkA [(4,4),(5,5)] [] [6]) ?_
   intro w ca q
   unfold q3p at q
   refine qb<|O (.d (.bool (decide (w.1 < (ae.length : Int))))) J<|q9<|qf ?_
   refine qo J q (fun _ q=>?_) (fun _ q=>?_)
   ·refine qn<|qf<|Q0<|qb ?_
    obtain ⟨f,ay,q⟩:=q8 q
    refine Q4 (enc:=qw) ay J<|O (.d (.agg [G f.Lo.X,G f.Lo.Y,G f.Lo.Z,G f.Hi.X,G f.Hi.Y,G f.Hi.Z])) J<|K2 J J<|Qp 7 (.dat 6 [[G f.Lo.X,G f.Lo.Y,G f.Lo.Z,G f.Hi.X,G f.Hi.Y,G f.Hi.Z]]) J<|q9<|qu<|O (.hs 6 1 0 w.2.length) J<|O (.ref 7 6 0 0) J<|O (.ref 7 6 0 2) J<|O (q7 f.Lo.Z) J<|O (.ref 7 6 0 3) J<|O (.ref 7 6 0 5) J<|O (q7 f.Hi.Z) J<|Qn (.hs 8 1 0 [f.Lo.Z,f.Hi.Z].length) (.dat 1 ([f.Lo.Z,f.Hi.Z].map (eI .i64))) J ?_
    obtain ⟨az,ba,q⟩:=q8 q
    refine Kw (xs:=w.2) (ys:=[f.Lo.Z,f.Hi.Z]) (enc:=(eI .i64)) (.hs 8 1 0 [f.Lo.Z,f.Hi.Z].length) ba J J J J J J J (Ku J J) J J J J<|Qp 5 (.cel 1 [[.hs 9 1 0 az.length]]) J<|qs<|Qc<|qu<|O (.d (G (w64 (w.1 + 1)))) J<|U J<|qs ?_
    exact ⟨_,(Option.some.inj q).symm,wkA [(4,4),(5,5),(6,9)] [] []⟩
   refine Q3 ?_
   refine ⟨_,(Option.some.inj q).symm,fun hm=>?_⟩
   subst hm
   obtain rfl:=qe ad
   exact ⟨_,J,wkA [(4,4),(5,5),(6,6)] [] []⟩
  intro n hb
  subst hb
  refine qu<|O (q7 1) J<|U J<|q9<|q10<|qb<|O (qh false) J<|q9<|qf<|Jo J<|Q3<|q2f<|qb<|O (.hs 6 1 0 n.length) J ?_
  obtain ⟨aj,bb,m⟩:=q8 m
  obtain ⟨cb,bc,m⟩:=q8 m
  have bd:=Kj bc
  refine K6 [(0,6)] [(0,1),(1,1),(2,1),(3,1),(4,1),(5,1),(6,0)] [.hs 6 1 0 n.length] (.d (.tup [])) 1 [(6,.dat 1 (aj.map (eI .i64))),(0,.dat 1 [[.nilf]]),(1,.dat 1 [[.nilsl]]),(2,.dat 1 [[G 0]]),(3,.dat 4 [[.nilsl,.nilsl,G 0,G 0]]),(4,.dat 1 [[.sl 1 ([c].map Ql)]]),(5,.cel 1 [[.hs 6 1 0 n.length]])] 7 (qkc n aj bb)<|qt<|O (.hs 6 1 0 n.length) J ?_
  obtain ⟨aa,be,m⟩:=q8 m
  obtain ⟨cc,bf,m⟩:=q8 m
  have cd:=Kj bf
  obtain ⟨ce,bg,m⟩:=q8 m
  have bh:=qlg bg
  refine U7 [(0,6)] [(0,1),(1,1),(2,1),(3,1),(4,1),(5,1),(6,0)] [.hs 6 1 0 n.length] (.hs 6 1 aa.1.1 aa.1.2) [(6,.dat 1 (aa.2.map (eI .i64)))] [(6,.dat 1 (aa.2.map (eI .i64))),(0,.dat 1 [[.nilf]]),(1,.dat 1 [[.nilsl]]),(2,.dat 1 [[G 0]]),(3,.dat 4 [[.nilsl,.nilsl,G 0,G 0]]),(4,.dat 1 [[.sl 1 ([c].map Ql)]]),(5,.cel 1 [[.hs 6 1 0 n.length]])] 7 (qka aj aa be) J J J (Yh [(0,6)] [] [] J ⟨⟨_,J,Qx (by simp [bd]) J qy (ltd J)⟩,trivial⟩ ⟨Qm J J,trivial⟩) (Yh [(0,1),(1,1),(2,1),(3,1),(4,1),(5,1),(6,0)] [] [] J ⟨⟨_,J,.hs J qy (ltd J)⟩,trivial⟩ ⟨Qm J J,trivial⟩) J ⟨.inl J,.inr ⟨J,J⟩,.inr ⟨J,J⟩,.inr ⟨J,J⟩,.inr ⟨J,J⟩,.inr ⟨J,J⟩,.inr ⟨J,J⟩,trivial⟩<|Qp 5 (.cel 1 [[.hs 6 1 aa.1.1 aa.1.2]]) J<|qt<|O (.fn 122 [.ref 5 1 0 0,.ref 4 1 0 0]) J<|qa J<|qp ?_
  refine ⟨.inr J,_,J,?_⟩
  obtain rfl:=qe m
  exact ⟨_,J,wkE [(0,0),(1,1),(2,2),(3,3),(4,5),(5,4)] [6] [] J ⟨⟨_,J,.ref J qy (ltd J)⟩,⟨_,J,.ref J qy (ltd J)⟩,⟨_,J,.ref J qy (ltd J)⟩,⟨_,J,.ref J qy (ltd J)⟩,⟨_,J,(q3z (.cons (.ref J qy (ltd J)) (.cons (.ref J qy (ltd J)) .nil)))⟩,trivial⟩ ⟨Qm J J,Qm J J,Qm J J,Qm J J,⟨ltd J,.inr ⟨qy,_,J,Uc (.cons (qlk bh J qy) J .nil)⟩⟩,Qm J J,trivial⟩⟩
 intro h hb
 subst hb
 refine q9<|Q0 ?_
 obtain ⟨bi,ai,o⟩:=q8 o
 refine qb7 (fun k=>.inl k = bi) (fun (k : List qk × Int × Int × List qg)=>⟨[(4,.ref 0 1 0 0),(5,.ref 1 1 0 0),(6,.ref 2 4 0 0)],[(0,.dat 1 [[.nilsl]]),(1,.dat 1 [[G 0]]),(2,.cel 4 [[.hs 3 6 0 k.2.2.2.length,.d (.sl 4 (k.1.map qx)),q7 k.2.1,q7 k.2.2.1]]),(3,.dat 6 (k.2.2.2.map qw))],4⟩) ?_ ?_
 ·refine Yn (st':=⟨[(2,.ref 0 1 0 0),(4,.ref 1 1 0 0),(5,.ref 2 1 0 0),(6,.ref 3 4 0 0),(14,.fn 122 [.ref 4 1 0 0,.ref 5 1 0 0])],[(0,.dat 1 [[.nilf]]),(1,.dat 1 [[.nilsl]]),(2,.dat 1 [[G 0]]),(3,.dat 4 [[.nilsl,.nilsl,G 0,G 0]]),(4,.cel 1 [[.d (.sl 1 (h.map (eI .i64)))]]),(5,.dat 1 [[.sl 1 ([c].map Ql)]])],6⟩) (wkA [(0,0),(1,1),(2,2),(3,3),(4,4),(5,5)] [] []) ?_ qd
  refine qb8 [.ref 4 1 0 0,.ref 5 1 0 0] (.inl J) Tryz.func122 J qi qi J ?_
  intro A879 B880 hA879 hB880
  refine qb<|qa J<|q9 ?_
  obtain ⟨bj,bk,ai⟩:=q8 ai
  refine Q0<|Q8 (q3q h c) (fun (b : Int × List qk × Int × Int × List qg)=>⟨[(0,.yld 6),(1,.ref 4 1 0 0),(2,.ref 5 1 0 0),(4,q7 b.1)],[(0,.dat 1 [[.nilf]]),(1,.dat 1 [[.nilsl]]),(2,.dat 1 [[G 0]]),(3,.cel 4 [[.hs 7 6 0 b.2.2.2.2.length,.d (.sl 4 (b.2.1.map qx)),q7 b.2.2.1,q7 b.2.2.2.1]]),(4,.cel 1 [[.d (.sl 1 (h.map (eI .i64)))]]),(5,.dat 1 [[.sl 1 ([c].map Ql)]]),(6,.loop [(2,.ref 0 1 0 0),(4,.ref 1 1 0 0),(5,.ref 2 1 0 0),(6,.ref 3 4 0 0),(14,.fn 122 [.ref 4 1 0 0,.ref 5 1 0 0])] [15] A879 B880 .ready none),(7,.dat 6 (b.2.2.2.2.map qw))],8⟩) (1,[],0,0,[]) bj bk (wkA [] [] [7]) ?_
  intro b cf j
  unfold q3q at j
  refine qf<|qb<|U J<|O (.d (.sl 1 (h.map (eI .i64)))) J<|Qd J<|O (.d (.bool (decide (b.1 < (h.length : Int))))) J<|q9 ?_
  refine qo J j (fun _ j=>?_) (fun _ j=>?_)
  ·refine qn<|qf<|Q0<|qf<|Q7 [Qk 9,(some [],[9]),q0,(some [],[8]),q0,qq 5,q0,q0,q0,qq 4,q0,q0,q0,q0,qq 4] qi<|O (.d (.sl 1 (h.map (eI .i64)))) J<|U J<|O (.d (G (w64 (b.1 - 1)))) J ?_
   obtain ⟨g,bl,j⟩:=q8 j
   refine Q4 (enc:=(eI .i64)) bl J<|O (q7 g) J<|O (.d (.sl 1 (h.map (eI .i64)))) J<|U J ?_
   obtain ⟨l,bm,j⟩:=q8 j
   refine Q4 (enc:=(eI .i64)) bm J<|O (q7 l) J<|O (.d (.sl 1 ([c].map Ql))) J<|qe2 1 J J J J J<|Qn (.hs 8 1 0 1) (.dat 1 [[.nilsl]]) J<|O (.agg [q7 g,q7 l,.hs 8 1 0 1]) J<|K2 J J<|Qp 9 (.cel 3 [[q7 g,q7 l,.hs 8 1 0 1]]) J<|q9<|qf<|qb<|O (.d (.sl 1 ([c].map Ql))) J<|qe2 1 J J J J J<|U J<|q9<|Q0<|q10<|qb<|O (qh true) J<|q9<|qf<|q3d J<|qn<|qf ?_
   obtain ⟨bn,af,j⟩:=q8 j
   refine Qe (fun s=>s = bn) (fun (s : List qk)=>⟨[(0,.yld 6),(1,.ref 4 1 0 0),(2,.ref 5 1 0 0),(4,q7 b.1),(5,.ref 7 3 0 0),(29,.d (.sl 1 ([c].map Ql))),(30,q7 1),(31,q7 0)],[(0,.dat 1 [[.nilf]]),(1,.dat 1 [[.nilsl]]),(2,.dat 1 [[G 0]]),(3,.cel 4 [[.hs 8 6 0 b.2.2.2.2.length,.d (.sl 4 (b.2.1.map qx)),q7 b.2.2.1,q7 b.2.2.2.1]]),(4,.cel 1 [[.d (.sl 1 (h.map (eI .i64)))]]),(5,.dat 1 [[.sl 1 ([c].map Ql)]]),(6,.loop [(2,.ref 0 1 0 0),(4,.ref 1 1 0 0),(5,.ref 2 1 0 0),(6,.ref 3 4 0 0),(14,.fn 122 [.ref 4 1 0 0,.ref 5 1 0 0])] [15] A879 B880 .ready none),(7,.cel 3 [[q7 g,q7 l,.hs 9 1 0 1]]),(8,.dat 6 (b.2.2.2.2.map qw)),(9,.cel 1 [[.hs 10 4 0 s.length]]),(10,.dat 4 (s.map qx))],11⟩) qd ?_ ?_
   ·refine qb<|U J ?_
    obtain ⟨ab,bo,af⟩:=q8 af
    refine Q4 (enc:=Ql) bo J<|O (.d (.sl 6 (ab.map qw))) J<|qa J<|qa J<|qt<|U J<|Qd J<|U J<|q9 ?_
    obtain ⟨bp,bq,af⟩:=q8 af
    refine Q0<|Q8 (q3r ab g) (fun (t : Int × List qk)=>⟨[(0,.yld 6),(1,.ref 4 1 0 0),(2,.ref 5 1 0 0),(4,q7 b.1),(5,.ref 7 3 0 0),(6,q7 0),(29,.d (.sl 1 ([c].map Ql))),(30,q7 1),(31,q7 0),(36,.d (.sl 6 (ab.map qw))),(37,q7 (ab.length : Int)),(38,q7 t.1)],[(0,.dat 1 [[.nilf]]),(1,.dat 1 [[.nilsl]]),(2,.dat 1 [[G 0]]),(3,.cel 4 [[.hs 8 6 0 b.2.2.2.2.length,.d (.sl 4 (b.2.1.map qx)),q7 b.2.2.1,q7 b.2.2.2.1]]),(4,.cel 1 [[.d (.sl 1 (h.map (eI .i64)))]]),(5,.dat 1 [[.sl 1 ([c].map Ql)]]),(6,.loop [(2,.ref 0 1 0 0),(4,.ref 1 1 0 0),(5,.ref 2 1 0 0),(6,.ref 3 4 0 0),(14,.fn 122 [.ref 4 1 0 0,.ref 5 1 0 0])] [15] A879 B880 .ready none),(7,.cel 3 [[q7 g,q7 l,.hs 9 1 0 1]]),(8,.dat 6 (b.2.2.2.2.map qw)),(9,.cel 1 [[.hs 10 4 0 t.2.length]]),(10,.dat 4 (t.2.map qx))],11⟩) (0,[]) bp bq (wkA [(7,9),(8,7),(9,8)] [] [10]) ?_
    intro t cg x
    unfold q3r at x
    refine qb<|O (.d (.bool (decide (t.1 < (ab.length : Int))))) J<|q9<|qf ?_
    refine qo J x (fun _ x=>?_) (fun _ x=>?_)
    ·refine qn<|qf ?_
     obtain ⟨br,p,x⟩:=q8 x
     refine Qe (fun ag=>ag = br) (fun (ag : List qk)=>⟨[(0,.yld 6),(1,.ref 4 1 0 0),(2,.ref 5 1 0 0),(4,q7 b.1),(5,.ref 7 3 0 0),(6,q7 0),(29,.d (.sl 1 ([c].map Ql))),(30,q7 1),(31,q7 0),(36,.d (.sl 6 (ab.map qw))),(37,q7 (ab.length : Int)),(38,q7 t.1)],[(0,.dat 1 [[.nilf]]),(1,.dat 1 [[.nilsl]]),(2,.dat 1 [[G 0]]),(3,.cel 4 [[.hs 8 6 0 b.2.2.2.2.length,.d (.sl 4 (b.2.1.map qx)),q7 b.2.2.1,q7 b.2.2.2.1]]),(4,.cel 1 [[.d (.sl 1 (h.map (eI .i64)))]]),(5,.dat 1 [[.sl 1 ([c].map Ql)]]),(6,.loop [(2,.ref 0 1 0 0),(4,.ref 1 1 0 0),(5,.ref 2 1 0 0),(6,.ref 3 4 0 0),(14,.fn 122 [.ref 4 1 0 0,.ref 5 1 0 0])] [15] A879 B880 .ready none),(7,.cel 3 [[q7 g,q7 l,.hs 9 1 0 1]]),(8,.dat 6 (b.2.2.2.2.map qw)),(9,.cel 1 [[.hs 10 4 0 ag.length]]),(10,.dat 4 (ag.map qx))],11⟩) qd ?_ ?_
     ·refine qb ?_
      obtain ⟨a,bs,p⟩:=q8 p
      refine Q4 (enc:=qw) bs J<|O (.d (.agg [G a.Lo.X,G a.Lo.Y,G a.Lo.Z,G a.Hi.X,G a.Hi.Y,G a.Hi.Z])) J<|K2 J J<|Qp 11 (.dat 6 [[G a.Lo.X,G a.Lo.Y,G a.Lo.Z,G a.Hi.X,G a.Hi.Y,G a.Hi.Z]]) J<|qt<|O (.ref 11 6 0 0) J<|O (.ref 11 6 0 2) J<|O (q7 a.Lo.Z) J<|O (.ref 7 3 0 0) J<|O (q7 g) J<|O (.d (.bool (decide (a.Lo.Z≤g)))) J ?_
      obtain ⟨bt,ah,p⟩:=q8 p
      refine Qa 8 (fun A st=>∃ (ak al am an ao ap aq : V),st = A [(55,qh bt),(54,aq),(53,ap),(52,ao),(51,an),(50,am),(49,al),(48,ak)]) ?_ ?_
      ·refine Qb J J ah (fun ah=>?_) (fun ah=>?_)
       ·refine O (.ref 7 3 0 0) J<|O (q7 g) J<|O (.ref 11 6 0 3) J<|O (.ref 11 6 0 5) J<|O (q7 a.Hi.Z) J<|O (.d (.bool (decide (g < a.Hi.Z)))) J<|O (.d (.bool (decide (g < a.Hi.Z)))) J<|q9 ?_
        obtain rfl:=qe ah
        exact ⟨_,_,_,_,_,_,_,J⟩
       refine qc J<|qc J<|qc J<|qc J<|qc J<|qc J<|O (qh false) J<|q9 ?_
       obtain rfl:=qe ah
       exact ⟨_,_,_,_,_,_,_,J⟩
      rintro _ ⟨ak,al,am,an,ao,ap,aq,rfl⟩
      refine q9 ?_
      refine qo J p (fun _ p=>?_) (fun _ p=>?_)
      ·refine Q7 [Qk 9,q0,(some [10,12],[10,13]),(some [],[12]),q0,qq 11,q0,q0,qq 11,q0,q0,qq 11,q0,q0,qq 11,q0,q0,qq 9,q0,q0,qq 7,q0,q0,qq 7,q0] qi<|O (.ref 7 3 0 2) J<|O (.hs 9 1 0 1) J<|U J<|O (.ref 7 3 0 2) J<|O (.hs 9 1 0 1) J<|U J<|O (.ref 9 1 0 0) J<|O (.hs 10 4 0 t.2.length) J<|O (.ref 11 6 0 0) J<|O (.ref 11 6 0 0) J<|O (q7 a.Lo.X) J<|O (.ref 11 6 0 0) J<|O (.ref 11 6 0 1) J<|O (q7 a.Lo.Y) J<|O (.ref 11 6 0 3) J<|O (.ref 11 6 0 3) J<|O (q7 a.Hi.X) J<|O (.ref 11 6 0 3) J<|O (.ref 11 6 0 4) J<|O (q7 a.Hi.Y) J<|O (.d (.agg [G a.Lo.X,G a.Lo.Y,G a.Hi.X,G a.Hi.Y])) J<|Qn (.hs 12 4 0 [({X0:=a.Lo.X,Y0:=a.Lo.Y,X1:=a.Hi.X,Y1:=a.Hi.Y} : qk)].length) (.dat 4 ([({X0:=a.Lo.X,Y0:=a.Lo.Y,X1:=a.Hi.X,Y1:=a.Hi.Y} : qk)].map qx)) J ?_
       obtain ⟨bu,bv,p⟩:=q8 p
       refine Kw (xs:=t.2) (ys:=[({X0:=a.Lo.X,Y0:=a.Lo.Y,X1:=a.Hi.X,Y1:=a.Hi.Y} : qk)]) (enc:=qx) (.hs 12 4 0 [({X0:=a.Lo.X,Y0:=a.Lo.Y,X1:=a.Hi.X,Y1:=a.Hi.Y} : qk)].length) bv J J J J J J J (Ku J J) J J J J<|O (.ref 9 1 0 0) J<|Qp 9 (.cel 1 [[.hs 13 4 0 bu.length]]) J<|qs ?_
       obtain rfl:=qe p
       exact ⟨_,J,wkA [(7,7),(8,8),(9,9),(10,13)] [] []⟩
      refine qn<|Q9 ?_
      obtain rfl:=qe p
      exact ⟨_,J,wkA [(7,7),(8,8),(9,9),(10,10)] [] []⟩
     intro ag hb
     subst hb
     refine qu<|O (.d (G (w64 (t.1 + 1)))) J<|U J<|qs ?_
     exact ⟨_,(Option.some.inj x).symm,wkA [(7,7),(8,8),(9,9),(10,10)] [] []⟩
    refine Q3 ?_
    refine ⟨_,(Option.some.inj x).symm,fun hm=>?_⟩
    subst hm
    obtain rfl:=qe af
    exact ⟨_,J,wkA [(7,7),(8,8),(9,9),(10,10)] [] []⟩
   intro s hb
   subst hb
   refine qu<|O (q7 1) J<|U J<|q9<|q10<|qb<|O (qh false) J<|q9<|qf<|Jo J<|Q3<|q2f<|qf ?_
   refine Yn (st':=⟨[(0,.yld 6),(1,.ref 4 1 0 0),(2,.ref 5 1 0 0),(4,q7 b.1),(5,.ref 7 3 0 0)],[(0,.dat 1 [[.nilf]]),(1,.dat 1 [[.nilsl]]),(2,.dat 1 [[G 0]]),(3,.cel 4 [[.hs 8 6 0 b.2.2.2.2.length,.d (.sl 4 (b.2.1.map qx)),q7 b.2.2.1,q7 b.2.2.2.1]]),(4,.cel 1 [[.d (.sl 1 (h.map (eI .i64)))]]),(5,.dat 1 [[.sl 1 ([c].map Ql)]]),(6,.loop [(2,.ref 0 1 0 0),(4,.ref 1 1 0 0),(5,.ref 2 1 0 0),(6,.ref 3 4 0 0),(14,.fn 122 [.ref 4 1 0 0,.ref 5 1 0 0])] [15] A879 B880 .ready none),(7,.cel 3 [[q7 g,q7 l,.hs 9 1 0 1]]),(8,.dat 6 (b.2.2.2.2.map qw)),(9,.cel 1 [[.d (.sl 4 (s.map qx))]])],10⟩) (wkA [(7,7),(8,8),(9,9)] [10] []) ?_ qd
   refine qu<|U J<|O (.agg [q7 g,q7 l,.hs 9 1 0 1]) J ?_
   obtain ⟨bw,u,j⟩:=q8 j
   refine qas (fun y=>.inl y = bw) (fun (y : List qk × Int × Int × List qg)=>⟨[(0,.yld 6),(1,.ref 4 1 0 0),(2,.ref 5 1 0 0),(4,q7 b.1),(84,qh true)],[(0,.dat 1 [[.nilf]]),(1,.dat 1 [[.nilsl]]),(2,.dat 1 [[G 0]]),(3,.cel 4 [[.hs 7 6 0 y.2.2.2.length,.d (.sl 4 (y.1.map qx)),q7 y.2.1,q7 y.2.2.1]]),(4,.cel 1 [[.d (.sl 1 (h.map (eI .i64)))]]),(5,.dat 1 [[.sl 1 ([c].map Ql)]]),(6,.loop [(2,.ref 0 1 0 0),(4,.ref 1 1 0 0),(5,.ref 2 1 0 0),(6,.ref 3 4 0 0),(14,.fn 122 [.ref 4 1 0 0,.ref 5 1 0 0])] [15] A879 B880 .ready none),(7,.dat 6 (y.2.2.2.map qw))],8⟩) hA879 hB880 J J J J J J ?_ ?_
   ·refine qu<|K2 J J<|Qp 10 (.cel 3 [[q7 g,q7 l,.hs 9 1 0 1]]) J<|qs ?_
    refine ⟨J,_,J,?_⟩
    refine Q0<|qb<|O (.ref 10 3 0 2) J<|O (.hs 9 1 0 1) J<|O (.ref 9 1 0 0) J<|O (.d (.sl 4 (s.map qx))) J ?_
    obtain ⟨z,bx,u⟩:=q8 u
    refine qz (qsh s z bx) J<|U J<|O (.d (.sl 4 (z.1.map qx))) J<|O (q7 z.2) J<|qa J<|qa J<|q9<|qf<|qb<|O (.ref 10 3 0 2) J<|O (.hs 9 1 0 1) J<|O (.hs 9 1 1 0) J<|O (q7 0) J<|U J<|q9<|Q0<|q10<|qb<|O (qh false) J<|q9<|qf<|Jo J<|Q3<|q2f<|qf<|qb<|U J<|O (qh (z.2 != 0)) J<|q9 ?_
    refine qo J u (fun _ u=>?_) (fun _ u=>?_)
    ·refine qb<|U J<|Qp 1 (.dat 1 [[.nilsl]]) J<|Qp 2 (.dat 1 [[G z.2]]) J<|qp ?_
     obtain rfl:=qe u
     refine ⟨_,J,?_⟩
     refine O (qh true) J<|q9<|q3d J<|q20 ?_
     refine ⟨_,(Option.some.inj j).symm,fun hm=>?_⟩
     subst hm
     refine ⟨.inr J,_,J,_,_,.ret,J,qy,?_⟩
     refine qfa ?_
     obtain rfl:=qe ai
     obtain rfl:=qe o
     exact finD (.inr J) (v:=.d (.tup [.nilsl,G z.2])) J J (Kz (.cons (.nil _) (.cons (.refl _) .nil)))
    refine qn<|qu<|O (.ref 10 3 0 0) J<|O (q7 g) J<|O (.ref 10 3 0 1) J<|O (q7 l) J<|U J ?_
    obtain ⟨ac,bz,u⟩:=q8 u
    refine K6 [(0,3),(1,8)] [(0,3),(1,3),(2,3),(3,0),(4,3),(5,3),(6,3),(7,3),(8,1),(9,3),(10,3),(11,2)] [.ref 3 4 0 0,q7 g,q7 l,.d (.sl 4 (z.1.map qx))] (.d (.tup [])) 2 [(3,.cel 4 [[.hs 11 6 0 ac.2.2.2.length,.d (.sl 4 (ac.1.map qx)),q7 ac.2.1,q7 ac.2.2.1]]),(11,.dat 6 (ac.2.2.2.map qw)),(0,.dat 1 [[.nilf]]),(1,.dat 1 [[.nilsl]]),(2,.dat 1 [[G 0]]),(4,.cel 1 [[.d (.sl 1 (h.map (eI .i64)))]]),(5,.dat 1 [[.sl 1 ([c].map Ql)]]),(6,.loop [(2,.ref 0 1 0 0),(4,.ref 1 1 0 0),(5,.ref 2 1 0 0),(6,.ref 3 4 0 0),(14,.fn 122 [.ref 4 1 0 0,.ref 5 1 0 0])] [15] A879 B880 .busy none),(7,.cel 3 [[q7 g,q7 l,.hs 9 1 0 1]]),(9,.cel 1 [[.d (.sl 4 (s.map qx))]]),(10,.cel 3 [[q7 g,q7 l,.hs 9 1 0 1]])] 12 (qxn b.2.2.2.2 b.2.1 b.2.2.1 b.2.2.2.1 g l z.1 ac bz)<|qs<|Qc<|Q9 ?_
    refine ⟨_,J,?_⟩
    obtain rfl:=qe u
    exact ⟨_,J,wkA [(7,11)] [] []⟩
   intro y hb
   subst hb
   refine O (qh false) J<|q9<|Jo J<|qn<|Q9<|Qc<|qu<|U J<|O (.d (G (w64 (b.1 + 1)))) J<|qa J<|qs ?_
   exact ⟨_,(Option.some.inj j).symm,wkA [(7,7)] [] []⟩
  refine Q3 ?_
  refine ⟨_,(Option.some.inj j).symm,fun hm=>?_⟩
  subst hm
  refine ⟨.inl J,_,J,_,_,.nor,J,qy,?_⟩
  refine qa0<|Q9 ?_
  obtain rfl:=qe ai
  exact ⟨_,J,wkA [(0,1),(1,2),(2,3),(3,7)] [] []⟩
 intro k st hb hw
 subst hb
 refine Yn hw ?_ qd
 refine qf<|qb<|O (.ref 2 4 0 0) J<|O (.hs 3 6 0 k.2.2.2.length) J<|O (q7 (k.2.2.2.length : Int)) J<|O (.d (.bool (decide ((k.2.2.2.length : Int) > 400)))) J<|q9 ?_
 refine qo J o (fun _ o=>?_) (fun _ o=>?_)
 ·refine qb<|Qp 0 (.dat 1 [[.nilsl]]) J<|Qp 1 (.dat 1 [[G 4]]) J<|qp ?_
  obtain rfl:=qe o
  exact finD (.inr J) (v:=.d (.tup [.nilsl,G 4])) J J (Kz (.cons (.nil _) (.cons (.refl _) .nil)))
 refine qn<|qb<|O (.ref 2 4 0 0) J<|O (.hs 3 6 0 k.2.2.2.length) J<|Qp 0 (.cel 1 [[.hs 3 6 0 k.2.2.2.length]]) J<|Qp 1 (.dat 1 [[G 0]]) J<|qp ?_
 obtain rfl:=qe o
 exact finD (.inr J) (v:=.tup [.hs 3 6 0 k.2.2.2.length,q7 0]) J (q9o (Y2 (Za J J) (Y2 J J))) (.refl _)
theorem qum (g : List qg) (h : List qg) (r : Bool) (f : qbg g h = some r) : Pure Tryz.prog tab 73 [.sl 6 (g.map qw),.sl 6 (h.map qw)] (.bool r):=by
 unfold qbg at f
 refine Qg Tryz.func73 J qi qi J<|qb<|qa J<|q9<|qf<|qb<|U J<|Qd J<|U J<|Qd J<|O (.d (.bool ((g.length : Int) != (h.length : Int)))) J<|q9 ?_
 refine qo J f (fun _ f=>?_) (fun _ f=>?_)
 ·refine qb<|qa J<|qp ?_
  obtain rfl:=qe f
  exact Q1 (qh false) J
 refine qn<|qf<|qb<|U J<|Qd J<|U J<|q9 ?_
 obtain ⟨l,m,f⟩:=q8 f
 refine Qe (fun k=>.inl k = l) (fun (k : Unit)=>⟨[],[],0⟩) qd ?_ ?_
 ·refine Q8 (qeq g h) (fun (j : Int)=>⟨[(0,.d (.sl 6 (g.map qw))),(1,.d (.sl 6 (h.map qw))),(12,q7 (g.length : Int)),(13,q7 j)],[],0⟩) 0 l m (wkA [] [] []) ?_
  intro j p a
  unfold qeq at a
  refine qb<|O (.d (.bool (decide (j < (g.length : Int))))) J<|q9<|qf ?_
  refine qo J a (fun _ a=>?_) (fun _ a=>?_)
  ·refine qn<|qf<|Q0<|qb<|U J<|qa J<|q9<|qf<|Q7 [q0,q0,q0,q0,q0,q0,q0,q0,q0] qi<|U J<|U J ?_
   obtain ⟨b,n,a⟩:=q8 a
   refine Q4 (enc:=qw) n J<|O (.d (.agg [G b.Lo.X,G b.Lo.Y,G b.Lo.Z,G b.Hi.X,G b.Hi.Y,G b.Hi.Z])) J<|U J<|U J ?_
   obtain ⟨c,o,a⟩:=q8 a
   refine Q4 (enc:=qw) o J<|O (.d (.agg [G c.Lo.X,G c.Lo.Y,G c.Lo.Z,G c.Hi.X,G c.Hi.Y,G c.Hi.Z])) J<|O (.d (.bool (!((b.Lo.X == c.Lo.X) && ((b.Lo.Y == c.Lo.Y) && ((b.Lo.Z == c.Lo.Z) && ((b.Hi.X == c.Hi.X) && ((b.Hi.Y == c.Hi.Y) && ((b.Hi.Z == c.Hi.Z) && true))))))))) J<|q9 ?_
   refine qo J a (fun _ a=>?_) (fun _ a=>?_)
   ·refine qb<|qa J<|qp ?_
    refine ⟨_,(Option.some.inj a).symm,fun hm=>?_⟩
    subst hm
    obtain rfl:=qe f
    exact Q1 (qh false) J
   refine qn<|Q9<|Qc<|qu<|O (.d (G (w64 (j + 1)))) J<|U J<|qs ?_
   exact ⟨_,(Option.some.inj a).symm,wkA [] [] []⟩
  refine Q3 ?_
  refine ⟨_,(Option.some.inj a).symm,fun hm=>?_⟩
  subst hm
  exact ⟨_,J,wkA [] [] []⟩
 intro k hb
 subst hb
 refine qb<|qa J<|qp ?_
 obtain rfl:=qe f
 exact Q1 (qh true) J
theorem qkn (b : List qg) (r : Int) (a : q6c b = some r) : Pure Tryz.prog tab 44 [.sl 6 (b.map qw)] (G r):=by
 unfold q6c at a
 refine Qg Tryz.func44 J qi qi J<|qb<|qa J<|q9<|qf<|qb<|U J<|Qd J<|O (.d (.bool (decide ((b.length : Int) > 400)))) J<|q9 ?_
 refine qo J a (fun _ a=>?_) (fun _ a=>?_)
 ·refine qb<|qa J<|qp ?_
  obtain rfl:=qe a
  exact Q1 (q7 4) J
 refine qn<|qf<|qb<|U J ?_
 obtain ⟨o,p,a⟩:=q8 a
 refine qz (quj b (fun g=>q28 g) 70 [] (fun g r hr=>qxi g r hr) o p) J<|q9 ?_
 refine qo J a (fun _ a=>?_) (fun _ a=>?_)
 ·refine qb<|qa J<|qp ?_
  obtain rfl:=qe a
  exact Q1 (q7 8) J
 refine qn<|qf<|qb<|O (.d (.agg [.nilf])) J<|U J<|qio (es:=1) ([b].map Ql) J J J J J ?_
 obtain ⟨f,q,a⟩:=q8 a
 refine qz (qkr b f q) J<|U J<|O (.d (.sl 6 (f.1.map qw))) J<|O (q7 f.2) J<|qa J<|qa J<|qt<|U J<|O (qh (f.2 != 0)) J ?_
 obtain ⟨s,c,a⟩:=q8 a
 refine Qa 6 (fun A st=>∃ (j k l m n : V),st = A [(24,qh s),(23,n),(22,m),(21,l),(20,k),(19,j)]) ?_ ?_
 ·refine Qb J J c (fun c=>?_) (fun c=>?_)
  ·refine qc J<|qc J<|qc J<|qc J<|O (qh true) J<|q9 ?_
   obtain rfl:=qe c
   exact ⟨_,_,_,_,_,J⟩
  refine U J<|U J ?_
  obtain ⟨h,t,c⟩:=q8 c
  refine qz (qum f.1 b h t) J<|O (qh (!h)) J<|O (qh (!h)) J<|q9 ?_
  obtain rfl:=qe c
  exact ⟨_,_,_,_,_,J⟩
 rintro _ ⟨j,k,l,m,n,rfl⟩
 refine q9 ?_
 refine qo J a (fun _ a=>?_) (fun _ a=>?_)
 ·refine qb<|qa J<|qp ?_
  obtain rfl:=qe a
  exact Q1 (q7 8) J
 refine qn<|qb<|qa J<|qp ?_
 obtain rfl:=qe a
 exact Q1 (q7 0) J
theorem qyi (a : Qv) (r : Bool) (b : q9m a = some r) : Pure Tryz.prog tab 66 [.agg [G a.From.X,G a.From.Y,G a.From.Z,G a.To.X,G a.To.Y,G a.To.Z,G a.Depth]] (.bool r):=by
 unfold q9m at b
 refine Qg Tryz.func66 J qi qi J<|qb<|Qn (.ref 0 7 0 0) (.dat 7 [[G a.From.X,G a.From.Y,G a.From.Z,G a.To.X,G a.To.Y,G a.To.Z,G a.Depth]]) J<|qa J<|qt<|O (.ref 0 7 0 6) J<|O (q7 a.Depth) J<|O (.d (.bool (decide (a.Depth < 0)))) J<|qa J<|qp ?_
 obtain rfl:=qe b
 exact Q1 (.d (.bool (decide (a.Depth < 0)))) J
theorem qyj (a : K1) (f : List (List qg)) (r : Int) (b : q9l a f = some r) : Pure Tryz.prog tab 39 [.agg [.sl 7 (a.Lines.map Qf),.sl 5 (a.Marks.map Qy),.int .u8 a.End.Frame.Turn,G a.End.Frame.At.X,G a.End.Frame.At.Y,G a.End.Frame.At.Z,G a.End.Drawn],.sl 1 (f.map Ql)] (G r):=by
 unfold q9l at b
 refine Qg Tryz.func39 J qi qi J<|qb<|Qn (.ref 0 7 0 0) (.dat 7 [[.sl 7 (a.Lines.map Qf),.sl 5 (a.Marks.map Qy),.int .u8 a.End.Frame.Turn,G a.End.Frame.At.X,G a.End.Frame.At.Y,G a.End.Frame.At.Z,G a.End.Drawn]]) J<|qa J<|q9<|qf<|qb<|O (.d (.agg [.sl 7 (a.Lines.map Qf),.sl 5 (a.Marks.map Qy),.int .u8 a.End.Frame.Turn,G a.End.Frame.At.X,G a.End.Frame.At.Y,G a.End.Frame.At.Z,G a.End.Drawn])) J ?_
 obtain ⟨g,u,b⟩:=q8 b
 refine qz (qla a g u) J<|U J<|O (q7 g.1) J<|O (q7 g.2) J<|qa J<|qa J<|qt<|U J<|O (qh (g.2 != 0)) J<|q9 ?_
 refine qo J b (fun _ b=>?_) (fun _ b=>?_)
 ·refine qb<|U J<|qa J<|qp ?_
  obtain rfl:=qe b
  exact Q1 (q7 g.2) J
 refine qn<|qf<|qb<|U J<|Qd J<|O (.d (.bool (decide ((f.length : Int) > 20)))) J<|q9 ?_
 refine qo J b (fun _ b=>?_) (fun _ b=>?_)
 ·refine qb<|qa J<|qp ?_
  obtain rfl:=qe b
  exact Q1 (q7 4) J
 refine qn<|qf<|qb<|U J<|Qd J<|U J<|q9 ?_
 obtain ⟨n,v,b⟩:=q8 b
 refine Qe (fun k=>.inl k = n) (fun (k : Unit)=>⟨[(1,.d (.sl 1 (f.map Ql))),(2,.ref 0 7 0 0)],[(0,.dat 7 [[.sl 7 (a.Lines.map Qf),.sl 5 (a.Marks.map Qy),.int .u8 a.End.Frame.Turn,G a.End.Frame.At.X,G a.End.Frame.At.Y,G a.End.Frame.At.Z,G a.End.Drawn]])],1⟩) qd ?_ ?_
 ·refine Q8 (q6n f) (fun (j : Int)=>⟨[(1,.d (.sl 1 (f.map Ql))),(2,.ref 0 7 0 0),(21,.d (.sl 1 (f.map Ql))),(22,q7 (f.length : Int)),(23,q7 j)],[(0,.dat 7 [[.sl 7 (a.Lines.map Qf),.sl 5 (a.Marks.map Qy),.int .u8 a.End.Frame.Turn,G a.End.Frame.At.X,G a.End.Frame.At.Y,G a.End.Frame.At.Z,G a.End.Drawn]])],1⟩) 0 n v (wkA [(0,0)] [] []) ?_
  intro j ab c
  unfold q6n at c
  refine qb<|O (.d (.bool (decide (j < (f.length : Int))))) J<|q9<|qf ?_
  refine qo J c (fun _ c=>?_) (fun _ c=>?_)
  ·refine qn<|qf<|Q0<|qb ?_
   obtain ⟨o,w,c⟩:=q8 c
   refine Q4 (enc:=Ql) w J<|O (.d (.sl 6 (o.map qw))) J<|qa J<|qt<|U J ?_
   obtain ⟨l,x,c⟩:=q8 c
   refine qz (qkn o l x) J<|qa J<|qt<|U J<|O (qh (l != 0)) J<|q9 ?_
   refine qo J c (fun _ c=>?_) (fun _ c=>?_)
   ·refine qb<|U J<|qa J<|qp ?_
    refine ⟨_,(Option.some.inj c).symm,fun hm=>?_⟩
    subst hm
    obtain rfl:=qe b
    exact Q1 (q7 l) J
   refine qn<|Q9<|Qc<|qu<|O (.d (G (w64 (j + 1)))) J<|U J<|qs ?_
   exact ⟨_,(Option.some.inj c).symm,wkA [(0,0)] [] []⟩
  refine Q3 ?_
  refine ⟨_,(Option.some.inj c).symm,fun hm=>?_⟩
  subst hm
  exact ⟨_,J,wkA [(0,0)] [] []⟩
 intro k hb
 subst hb
 refine qf<|qb<|O (.ref 0 7 0 0) J<|O (.d (.sl 7 (a.Lines.map Qf))) J<|Qd J<|O (.d (.bool (decide ((a.Lines.length : Int) > 0)))) J ?_
 obtain ⟨y,h,b⟩:=q8 b
 refine Qa 5 (fun A st=>∃ (p q s t : V),st = A [(41,qh y),(40,t),(39,s),(38,q),(37,p)]) ?_ ?_
 ·refine Qb J J h (fun h=>?_) (fun h=>?_)
  ·refine U J<|Qd J<|O (.d (.bool ((f.length : Int) == 0))) J<|O (.d (.bool ((f.length : Int) == 0))) J<|q9 ?_
   obtain rfl:=qe h
   exact ⟨_,_,_,_,J⟩
  refine qc J<|qc J<|qc J<|O (qh false) J<|q9 ?_
  obtain rfl:=qe h
  exact ⟨_,_,_,_,J⟩
 rintro _ ⟨p,q,s,t,rfl⟩
 refine q9 ?_
 refine qo J b (fun _ b=>?_) (fun _ b=>?_)
 ·refine qb<|qa J<|qp ?_
  obtain rfl:=qe b
  exact Q1 (q7 6) J
 refine qn<|qf<|qb<|O (.ref 0 7 0 0) J<|O (.d (.sl 7 (a.Lines.map Qf))) J ?_
 obtain ⟨z,aa,b⟩:=q8 b
 refine qz (qkb a.Lines (fun m=>q9m m) 66 [] (fun m r hr=>qyi m r hr) z aa) J<|q9 ?_
 refine qo J b (fun _ b=>?_) (fun _ b=>?_)
 ·refine qb<|qa J<|qp ?_
  obtain rfl:=qe b
  exact Q1 (q7 2) J
 refine qn<|qb<|qa J<|qp ?_
 obtain rfl:=qe b
 exact Q1 (q7 0) J
end Go.Proofs.YtbknppciefodiaaGreat
