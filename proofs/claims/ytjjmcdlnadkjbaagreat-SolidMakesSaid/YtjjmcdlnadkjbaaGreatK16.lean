/- W_SolidMakes -/
import Derived.Test.YtjjmcdlnadkjbaaGreatK15
namespace Go.Proofs.YtjjmcdlnadkjbaaGreat
open Go Go.Am Go.Sh
set_option maxHeartbeats 8000000
set_option maxRecDepth 100000
theorem qfz (a : api_Box) (r : Bool) (b : q9r a = some r) : Pure Tryz.prog tab 54 [.agg [i_ a.Lo.X,i_ a.Lo.Y,i_ a.Lo.Z,i_ a.Hi.X,i_ a.Hi.Y,i_ a.Hi.Z]] (.bool r):=by
 unfold q9r at b
 refine ql Tryz.func54 ee (by kernel_rfl) (by kernel_rfl) ee<|q7<|q0<|q3s (.ref 0 6 0 0) (.dat 6 [[i_ a.Lo.X,i_ a.Lo.Y,i_ a.Lo.Z,i_ a.Hi.X,i_ a.Hi.Y,i_ a.Hi.Z]]) ee<|as_ ee<|q6<|q7<|q0<|v_ (.ref 0 6 0 0) ee<|v_ (.d (.agg [i_ a.Lo.X,i_ a.Lo.Y,i_ a.Lo.Z])) ee ?_
 obtain ⟨r1,h2,b⟩:=bindE b
 refine qu [.d (.agg [i_ a.Lo.X,i_ a.Lo.Y,i_ a.Lo.Z]),di_ (-1000000)] (qkw a.Lo (-1000000) r1 h2) ee ee ee (.inl ee) ?_
 obtain ⟨c5,c,b⟩:=bindE b
 refine qo 5 (fun A st=>∃ (j k l m : V),st = A [(11,db_ c5),(10,m),(9,l),(8,k),(7,j)]) ?_ ?_
 ·refine qs ee ee c (fun c=>?_) (fun c=>?_)
  ·refine v_ (.ref 0 6 0 3) ee<|v_ (.d (.agg [i_ a.Hi.X,i_ a.Hi.Y,i_ a.Hi.Z])) ee ?_
   obtain ⟨n,as,c⟩:=bindE c
   refine qu [.d (.agg [i_ a.Hi.X,i_ a.Hi.Y,i_ a.Hi.Z]),di_ (-1000000)] (qkw a.Hi (-1000000) n as) ee ee ee (.inl ee)<|v_ (db_ n) ee<|q6 ?_
   obtain rfl:=someE c
   exact ⟨_,_,_,_,ee⟩
  refine q8 ee<|q8 ee<|q8 ee<|v_ (db_ false) ee<|q6 ?_
  obtain rfl:=someE c
  exact ⟨_,_,_,_,ee⟩
 rintro _ ⟨j,k,l,m,rfl⟩
 refine as_ ee<|q6<|q7<|q0<|mv_ ee ?_
 obtain ⟨au,f,b⟩:=bindE b
 refine qo 9 (fun A st=>∃ (o p q s t u w x : V),st = A [(21,db_ au),(20,x),(19,w),(18,u),(17,t),(16,s),(15,q),(14,p),(13,o)]) ?_ ?_
 ·refine qs ee ee f (fun f=>?_) (fun f=>?_)
  ·refine v_ (.ref 0 6 0 0) ee<|v_ (.ref 0 6 0 0) ee<|v_ (di_ a.Lo.X) ee<|v_ (.ref 0 6 0 3) ee<|v_ (.ref 0 6 0 3) ee<|v_ (di_ a.Hi.X) ee<|v_ (.d (.bool (decide (a.Lo.X < a.Hi.X)))) ee<|v_ (.d (.bool (decide (a.Lo.X < a.Hi.X)))) ee<|q6 ?_
   obtain rfl:=someE f
   exact ⟨_,_,_,_,_,_,_,_,ee⟩
  refine q8 ee<|q8 ee<|q8 ee<|q8 ee<|q8 ee<|q8 ee<|q8 ee<|v_ (db_ false) ee<|q6 ?_
  obtain rfl:=someE f
  exact ⟨_,_,_,_,_,_,_,_,ee⟩
 rintro _ ⟨o,p,q,s,t,u,w,x,rfl⟩
 obtain ⟨av,g,b⟩:=bindE b
 refine qo 9 (fun A st=>∃ (y z aa ab ac ad ae af : V),st = A [(30,db_ av),(29,af),(28,ae),(27,ad),(26,ac),(25,ab),(24,aa),(23,z),(22,y)]) ?_ ?_
 ·refine qs ee ee g (fun g=>?_) (fun g=>?_)
  ·refine v_ (.ref 0 6 0 0) ee<|v_ (.ref 0 6 0 1) ee<|v_ (di_ a.Lo.Y) ee<|v_ (.ref 0 6 0 3) ee<|v_ (.ref 0 6 0 4) ee<|v_ (di_ a.Hi.Y) ee<|v_ (.d (.bool (decide (a.Lo.Y < a.Hi.Y)))) ee<|v_ (.d (.bool (decide (a.Lo.Y < a.Hi.Y)))) ee<|q6 ?_
   obtain rfl:=someE g
   exact ⟨_,_,_,_,_,_,_,_,ee⟩
  refine q8 ee<|q8 ee<|q8 ee<|q8 ee<|q8 ee<|q8 ee<|q8 ee<|v_ (db_ false) ee<|q6 ?_
  obtain rfl:=someE g
  exact ⟨_,_,_,_,_,_,_,_,ee⟩
 rintro _ ⟨y,z,aa,ab,ac,ad,ae,af,rfl⟩
 obtain ⟨ag,h,b⟩:=bindE b
 refine qo 9 (fun A st=>∃ (ah ai aj ak al am an ao : V),st = A [(39,db_ ag),(38,ao),(37,an),(36,am),(35,al),(34,ak),(33,aj),(32,ai),(31,ah)]) ?_ ?_
 ·refine qs ee ee h (fun h=>?_) (fun h=>?_)
  ·refine v_ (.ref 0 6 0 0) ee<|v_ (.ref 0 6 0 2) ee<|v_ (di_ a.Lo.Z) ee<|v_ (.ref 0 6 0 3) ee<|v_ (.ref 0 6 0 5) ee<|v_ (di_ a.Hi.Z) ee<|v_ (.d (.bool (decide (a.Lo.Z < a.Hi.Z)))) ee<|v_ (.d (.bool (decide (a.Lo.Z < a.Hi.Z)))) ee<|q6 ?_
   obtain rfl:=someE h
   exact ⟨_,_,_,_,_,_,_,_,ee⟩
  refine q8 ee<|q8 ee<|q8 ee<|q8 ee<|q8 ee<|q8 ee<|q8 ee<|v_ (db_ false) ee<|q6 ?_
  obtain rfl:=someE h
  exact ⟨_,_,_,_,_,_,_,_,ee⟩
 rintro _ ⟨ah,ai,aj,ak,al,am,an,ao,rfl⟩
 refine as_ ee<|q6<|qj ?_
 obtain rfl:=someE b
 exact finD (.inr ee) (v:=(db_ ag)) ee ee (.refl _)
theorem qba (c : List Int) (r : List Int) (p : q4y c = some r) : Pure Tryz.prog tab 115 [.sl 1 (c.map (eI .i64))] (.sl 1 (r.map (eI .i64))):=by
 unfold q4y at p
 refine ql Tryz.func115 ee (by kernel_rfl) (by kernel_rfl) ee<|q7<|q0<|as_ ee<|q6<|q7<|q0<|as_ ee<|q6<|q7<|q7<|q0<|as_ ee<|q6 ?_
 obtain ⟨aa,bf,p⟩:=bindE p
 refine qk (fun l=>l = aa) (fun (l : List Int)=>⟨[(3,.hs 0 1 0 l.length)],[(0,.dat 1 (l.map (eI .i64)))],1⟩) (by simp) ?_ ?_
 ·refine qn (q5w c) (fun (b : Int × List Int)=>⟨[(0,.d (.sl 1 (c.map (eI .i64)))),(3,.hs 0 1 0 b.2.length),(4,di_ b.1)],[(0,.dat 1 (b.2.map (eI .i64)))],1⟩) (0,[]) aa bf (wkA [] [] [0]) ?_
  intro b bo h
  unfold q5w at h
  refine q7<|q7<|q0<|mv_ ee<|mv_ ee<|q15 ee ee ee ee<|v_ (.d (.bool (decide (b.1 < (c.length : Int))))) ee<|q6 ?_
  refine qb ee h (fun _ h=>?_) (fun _ h=>?_)
  ·refine qd<|q7 ?_
   obtain ⟨bg,a,h⟩:=bindE h
   refine qk (fun n=>n = bg) (fun (n : List Int)=>⟨[(0,.d (.sl 1 (c.map (eI .i64)))),(3,.hs 0 1 0 n.length),(4,di_ b.1)],[(0,.dat 1 (n.map (eI .i64)))],1⟩) (by simp) ?_ ?_
   ·refine q7<|q0<|mv_ ee<|v_ (di_ (b.2.length : Int)) ee<|as_ ee<|q6<|q7 ?_
    obtain ⟨ab,bh,a⟩:=bindE a
    refine qk (fun k=>k = ab) (fun (k : Int)=>⟨[(0,.d (.sl 1 (c.map (eI .i64)))),(3,.hs 0 1 0 b.2.length),(4,di_ b.1),(5,di_ k)],[(0,.dat 1 (b.2.map (eI .i64)))],1⟩) (by simp) ?_ ?_
    ·refine qn (q5v b c) (fun (o : Int)=>⟨[(0,.d (.sl 1 (c.map (eI .i64)))),(3,.hs 0 1 0 b.2.length),(4,di_ b.1),(5,di_ o)],[(0,.dat 1 (b.2.map (eI .i64)))],1⟩) (b.2.length : Int) ab bh (wkA [(0,0)] [] []) ?_
     intro o bp j
     unfold q5v at j
     refine q7<|q7<|qg [(some [],[]),(some [],[]),(some [],[]),(some [],[]),(some [],[]),(some [],[]),(some [0],[]),(some [],[]),(some [],[]),(some [],[]),(some [],[]),(some [],[]),(some [],[]),(some [],[])] (by kernel_rfl)<|mv_ ee<|v_ (.d (.bool (decide (o > 0)))) ee ?_
     obtain ⟨bi,f,j⟩:=bindE j
     refine qo 12 (fun A st=>∃ (ac ad ae af ag ah ai aj ak al am : V),st = A [(27,db_ bi),(26,am),(25,al),(24,ak),(23,aj),(22,ai),(21,ah),(20,ag),(19,af),(18,ae),(17,ad),(16,ac)]) ?_ ?_
     ·refine qs ee ee f (fun f=>?_) (fun f=>?_)
      ·refine mv_ ee<|mv_ ee<|v_ (.d (i_ (w64 (o - 1)))) ee ?_
       obtain ⟨s,an,f⟩:=bindE f
       refine qi an ee ee ee ee ee ee ee<|qp (di_ s) an ee ee ee ee ee ee<|mv_ ee<|mv_ ee ?_
       obtain ⟨t,bj,f⟩:=bindE f
       refine qv (enc:=(eI .i64)) bj ee ee ee ee ee ee<|v_ (di_ t) ee<|v_ (.d (.bool (decide (s > t)))) ee<|v_ (.d (.bool (decide (s > t)))) ee<|q6 ?_
       obtain rfl:=someE f
       exact ⟨_,_,_,_,_,_,_,_,_,_,_,ee⟩
      refine q8 ee<|q8 ee<|q8 ee<|q8 ee<|q8 ee<|q8 ee<|q8 ee<|q8 ee<|q8 ee<|q8 ee<|v_ (db_ false) ee<|q6 ?_
      obtain rfl:=someE f
      exact ⟨_,_,_,_,_,_,_,_,_,_,_,ee⟩
     rintro _ ⟨ac,ad,ae,af,ag,ah,ai,aj,ak,al,am,rfl⟩
     refine q6 ?_
     refine qb ee j (fun _ j=>?_) (fun _ j=>?_)
     ·refine qd<|qh<|q0<|mv_ ee<|v_ (.d (i_ (w64 (o - 1)))) ee<|as_ ee<|q6<|qc<|qr<|qc ?_
      exact ⟨_,(Option.some.inj j).symm,wkA [(0,0)] [] []⟩
     refine qm ?_
     refine ⟨_,(Option.some.inj j).symm,fun hm=>?_⟩
     subst hm
     exact ⟨_,ee,wkA [(0,0)] [] []⟩
    intro k hb
    subst hb
    refine q7<|q7<|qg [(some [],[]),(some [],[]),(some [],[]),(some [],[]),(some [],[]),(some [],[]),(some [0],[]),(some [],[]),(some [],[]),(some [],[]),(some [],[]),(some [],[]),(some [],[]),(some [],[])] (by kernel_rfl)<|mv_ ee<|v_ (.d (.bool (decide (k > 0)))) ee ?_
    obtain ⟨bk,g,a⟩:=bindE a
    refine qo 12 (fun A st=>∃ (ao ap aq ar as au av aw ax ay az : V),st = A [(43,db_ bk),(42,az),(41,ay),(40,ax),(39,aw),(38,av),(37,au),(36,as),(35,ar),(34,aq),(33,ap),(32,ao)]) ?_ ?_
    ·refine qs ee ee g (fun g=>?_) (fun g=>?_)
     ·refine mv_ ee<|mv_ ee<|v_ (.d (i_ (w64 (k - 1)))) ee ?_
      obtain ⟨u,ba,g⟩:=bindE g
      refine qi ba ee ee ee ee ee ee ee<|qp (di_ u) ba ee ee ee ee ee ee<|mv_ ee<|mv_ ee ?_
      obtain ⟨x,bl,g⟩:=bindE g
      refine qv (enc:=(eI .i64)) bl ee ee ee ee ee ee<|v_ (di_ x) ee<|v_ (db_ (u == x)) ee<|v_ (db_ (u == x)) ee<|q6 ?_
      obtain rfl:=someE g
      exact ⟨_,_,_,_,_,_,_,_,_,_,_,ee⟩
     refine q8 ee<|q8 ee<|q8 ee<|q8 ee<|q8 ee<|q8 ee<|q8 ee<|q8 ee<|q8 ee<|q8 ee<|v_ (db_ false) ee<|q6 ?_
     obtain rfl:=someE g
     exact ⟨_,_,_,_,_,_,_,_,_,_,_,ee⟩
    rintro _ ⟨ao,ap,aq,ar,as,au,av,aw,ax,ay,az,rfl⟩
    refine q6 ?_
    refine qb ee a (fun _ a=>?_) (fun _ a=>?_)
    ·refine qm ?_
     obtain rfl:=someE a
     exact ⟨_,ee,wkA [(0,0)] [] []⟩
    refine qd<|q7<|q0<|mv_ ee<|q3s (.hs 1 1 0 [0].length) (.dat 1 ([0].map (eI .i64))) ee ?_
    obtain ⟨q,bm,a⟩:=bindE a
    refine q5l (xs:=b.2) (ys:=[0]) (enc:=(eI .i64)) (.hs 1 1 0 [0].length) bm ee ee ee ee ee ee ee (q4a ee ee) ee ee ee ee<|as_ ee<|q6<|q7<|qg [(some [2],[2]),(some [],[]),(some [],[]),(some [],[]),(some [],[]),(some [],[]),(some [],[]),(some [],[])] (by kernel_rfl)<|mv_ ee<|mv_ ee<|v_ (.d (i_ (w64 (k + 1)))) ee ?_
    obtain ⟨bb,y,a⟩:=bindE a
    refine qew y ee ee ee ee ee (qcy ee) (fun _=>ee)<|mv_ ee<|mv_ ee ?_
    obtain ⟨m,bc,a⟩:=bindE a
    refine qew bc ee ee ee ee ee (qcy ee) (fun _=>ee)<|qv0 (w:=bb) (xs:=q) (ys:=(q.drop m.1).take m.2) (enc:=(eI .i64)) (.hs 2 1 m.1 m.2) (qb2 y) ee ee ee ee ee ee (qqz (qb2 bc) ee) ee ee ee ee ?_
    have bd:=@qmf _ q ((q.drop m.1).take m.2) bb (qb2 y)
    refine q6<|q0<|mv_ ee<|mv_ ee<|mv_ ee<|mv_ ee ?_
    obtain ⟨z,bn,a⟩:=bindE a
    refine qv (enc:=(eI .i64)) bn ee ee ee ee ee ee<|v_ (di_ z) ee ?_
    obtain ⟨bq,be,a⟩:=bindE a
    refine qi be (by simp [bd]) ee ee ee ee ee ee<|q12 (ds:=[i_ z]) z be ee ee ee ee ee ee ee ee (leb ee) ee<|q6<|qc ?_
    obtain rfl:=someE a
    exact ⟨_,ee,wkE [(0,2)] [] [] ee ⟨⟨_,ee,.d (.refl _)⟩,⟨_,ee,q10 (by simp [bd]) ee (by decide) (ltd ee)⟩,⟨_,ee,.d (.refl _)⟩,trivial⟩ ⟨⟨ltd ee,.inr ⟨by decide,_,ee,.dat _ _⟩⟩,trivial⟩⟩
   intro n hb
   subst hb
   refine q0<|mv_ ee<|v_ (.d (i_ (w64 (b.1 + 1)))) ee<|as_ ee<|q6<|qc ?_
   exact ⟨_,(Option.some.inj h).symm,wkA [(0,0)] [] []⟩
  refine qm ?_
  refine ⟨_,(Option.some.inj h).symm,fun hm=>?_⟩
  subst hm
  exact ⟨_,ee,wkA [(0,0)] [] []⟩
 intro l hb
 subst hb
 refine q7<|q0<|mv_ ee<|as_ ee<|q6<|qj ?_
 obtain rfl:=someE p
 exact finD (.inr ee) (v:=.hs 0 1 0 l.length) ee (qa1 ee ee) (.refl _)
theorem qom (p : List api_Box) (l : List api_Box) (r : List Int) (j : qbu p l = some r) : Pure Tryz.prog tab 85 [.sl 6 (p.map qa),.sl 6 (l.map qa)] (.sl 1 (r.map (eI .i64))):=by
 unfold qbu at j
 refine ql Tryz.func85 ee (by kernel_rfl) (by kernel_rfl) ee<|q7<|q0<|as_ ee<|q6<|q7<|q0<|as_ ee<|q6<|q7<|q7<|q0<|as_ ee<|q6 ?_
 obtain ⟨q,u,j⟩:=bindE j
 refine qk (fun o=>o = q) (fun (o : List Int)=>⟨[(1,.d (.sl 6 (l.map qa))),(5,.hs 0 1 0 o.length)],[(0,.dat 1 (o.map (eI .i64)))],1⟩) (by simp) ?_ ?_
 ·refine qn (q6x p) (fun (m : Int × List Int)=>⟨[(0,.d (.sl 6 (p.map qa))),(1,.d (.sl 6 (l.map qa))),(5,.hs 0 1 0 m.2.length),(6,di_ m.1)],[(0,.dat 1 (m.2.map (eI .i64)))],1⟩) (0,[]) q u (wkA [] [] [0]) ?_
  intro m ae g
  unfold q6x at g
  refine q7<|q7<|q0<|mv_ ee<|mv_ ee<|q15 ee ee ee ee<|v_ (.d (.bool (decide (m.1 < (p.length : Int))))) ee<|q6 ?_
  refine qb ee g (fun _ g=>?_) (fun _ g=>?_)
  ·refine qd<|q7<|qh<|qg [(some [],[]),(some [0,1],[0,2]),(some [],[1]),(some [],[]),(some [],[]),(some [],[]),(some [],[]),(some [],[]),(some [],[]),(some [],[]),(some [],[]),(some [],[]),(some [],[]),(some [],[]),(some [],[]),(some [],[])] (by kernel_rfl)<|mv_ ee<|mv_ ee<|mv_ ee ?_
   obtain ⟨a,w,g⟩:=bindE g
   refine qv (enc:=qa) w ee ee ee ee ee ee<|v_ (.dref [i_ a.Lo.X,i_ a.Lo.Y,i_ a.Lo.Z,i_ a.Hi.X,i_ a.Hi.Y,i_ a.Hi.Z] 0) ee<|v_ (.dref [i_ a.Lo.X,i_ a.Lo.Y,i_ a.Lo.Z,i_ a.Hi.X,i_ a.Hi.Y,i_ a.Hi.Z] 2) ee<|v_ (di_ a.Lo.Z) ee<|mv_ ee<|mv_ ee ?_
   obtain ⟨b,x,g⟩:=bindE g
   refine qv (enc:=qa) x ee ee ee ee ee ee<|v_ (.dref [i_ b.Lo.X,i_ b.Lo.Y,i_ b.Lo.Z,i_ b.Hi.X,i_ b.Hi.Y,i_ b.Hi.Z] 3) ee<|v_ (.dref [i_ b.Lo.X,i_ b.Lo.Y,i_ b.Lo.Z,i_ b.Hi.X,i_ b.Hi.Y,i_ b.Hi.Z] 5) ee<|v_ (di_ b.Hi.Z) ee<|q3s (.hs 1 1 0 [a.Lo.Z,b.Hi.Z].length) (.dat 1 ([a.Lo.Z,b.Hi.Z].map (eI .i64))) ee ?_
   obtain ⟨af,y,g⟩:=bindE g
   refine q5l (xs:=m.2) (ys:=[a.Lo.Z,b.Hi.Z]) (enc:=(eI .i64)) (.hs 1 1 0 [a.Lo.Z,b.Hi.Z].length) y ee ee ee ee ee ee ee (q4a ee ee) ee ee ee ee<|as_ ee<|q6<|qc<|qr<|q0<|mv_ ee<|v_ (.d (i_ (w64 (m.1 + 1)))) ee<|as_ ee<|q6<|qc ?_
   exact ⟨_,(Option.some.inj g).symm,wkA [(0,2)] [] []⟩
  refine qm ?_
  refine ⟨_,(Option.some.inj g).symm,fun hm=>?_⟩
  subst hm
  exact ⟨_,ee,wkA [(0,0)] [] []⟩
 intro o hb
 subst hb
 refine q7<|q7<|q0<|as_ ee<|q6 ?_
 obtain ⟨s,z,j⟩:=bindE j
 refine qk (fun k=>k = s) (fun (k : List Int)=>⟨[(5,.hs 0 1 0 k.length)],[(0,.dat 1 (k.map (eI .i64)))],1⟩) (by simp) ?_ ?_
 ·refine qn (q6y l) (fun (n : Int × List Int)=>⟨[(1,.d (.sl 6 (l.map qa))),(5,.hs 0 1 0 n.2.length),(7,di_ n.1)],[(0,.dat 1 (n.2.map (eI .i64)))],1⟩) (0,o) s z (wkA [(0,0)] [] []) ?_
  intro n ag h
  unfold q6y at h
  refine q7<|q7<|q0<|mv_ ee<|mv_ ee<|q15 ee ee ee ee<|v_ (.d (.bool (decide (n.1 < (l.length : Int))))) ee<|q6 ?_
  refine qb ee h (fun _ h=>?_) (fun _ h=>?_)
  ·refine qd<|q7<|qh<|qg [(some [],[]),(some [0,1],[0,2]),(some [],[1]),(some [],[]),(some [],[]),(some [],[]),(some [],[]),(some [],[]),(some [],[]),(some [],[]),(some [],[]),(some [],[]),(some [],[]),(some [],[]),(some [],[]),(some [],[])] (by kernel_rfl)<|mv_ ee<|mv_ ee<|mv_ ee ?_
   obtain ⟨c,aa,h⟩:=bindE h
   refine qv (enc:=qa) aa ee ee ee ee ee ee<|v_ (.dref [i_ c.Lo.X,i_ c.Lo.Y,i_ c.Lo.Z,i_ c.Hi.X,i_ c.Hi.Y,i_ c.Hi.Z] 0) ee<|v_ (.dref [i_ c.Lo.X,i_ c.Lo.Y,i_ c.Lo.Z,i_ c.Hi.X,i_ c.Hi.Y,i_ c.Hi.Z] 2) ee<|v_ (di_ c.Lo.Z) ee<|mv_ ee<|mv_ ee ?_
   obtain ⟨f,ab,h⟩:=bindE h
   refine qv (enc:=qa) ab ee ee ee ee ee ee<|v_ (.dref [i_ f.Lo.X,i_ f.Lo.Y,i_ f.Lo.Z,i_ f.Hi.X,i_ f.Hi.Y,i_ f.Hi.Z] 3) ee<|v_ (.dref [i_ f.Lo.X,i_ f.Lo.Y,i_ f.Lo.Z,i_ f.Hi.X,i_ f.Hi.Y,i_ f.Hi.Z] 5) ee<|v_ (di_ f.Hi.Z) ee<|q3s (.hs 1 1 0 [c.Lo.Z,f.Hi.Z].length) (.dat 1 ([c.Lo.Z,f.Hi.Z].map (eI .i64))) ee ?_
   obtain ⟨ah,ac,h⟩:=bindE h
   refine q5l (xs:=n.2) (ys:=[c.Lo.Z,f.Hi.Z]) (enc:=(eI .i64)) (.hs 1 1 0 [c.Lo.Z,f.Hi.Z].length) ac ee ee ee ee ee ee ee (q4a ee ee) ee ee ee ee<|as_ ee<|q6<|qc<|qr<|q0<|mv_ ee<|v_ (.d (i_ (w64 (n.1 + 1)))) ee<|as_ ee<|q6<|qc ?_
   exact ⟨_,(Option.some.inj h).symm,wkA [(0,2)] [] []⟩
  refine qm ?_
  refine ⟨_,(Option.some.inj h).symm,fun hm=>?_⟩
  subst hm
  exact ⟨_,ee,wkA [(0,0)] [] []⟩
 intro k hb
 subst hb
 refine q7 ?_
 refine q7c (st':=⟨[(5,.d (.sl 1 (k.map (eI .i64))))],[],0⟩) (wkA [] [0] []) ?_ (by simp)
 refine q0<|mv_ ee ?_
 obtain ⟨t,ad,j⟩:=bindE j
 refine qu [.d (.sl 1 (k.map (eI .i64)))] (qba k t ad) ee ee ee (.inl ee)<|as_ ee<|q6<|qj ?_
 obtain rfl:=someE j
 exact finD (.inr ee) (v:=.d (.sl 1 (t.map (eI .i64)))) ee ee (.refl _)
theorem qcg (o : List api_Box) (k : Int) (r : List api_Rect) (s : q7l o k = some r) : Pure Tryz.prog tab 68 [.sl 6 (o.map qa),i_ k] (.sl 4 (r.map q9)):=by
 unfold q7l at s
 refine ql Tryz.func68 ee (by kernel_rfl) (by kernel_rfl) ee<|q7<|q0<|as_ ee<|q6<|q7<|q0<|as_ ee<|q6<|q7<|q7<|q0<|as_ ee<|q6 ?_
 obtain ⟨t,ae,s⟩:=bindE s
 refine qk (fun p=>p = t) (fun (p : List api_Rect)=>⟨[(5,.hs 0 4 0 p.length)],[(0,.dat 4 (p.map q9))],1⟩) (by simp) ?_ ?_
 ·refine qn (q9s o k) (fun (l : Int × List api_Rect)=>⟨[(0,.d (.sl 6 (o.map qa))),(1,di_ k),(5,.hs 0 4 0 l.2.length),(6,di_ l.1)],[(0,.dat 4 (l.2.map q9))],1⟩) (0,[]) t ae (wkA [] [] [0]) ?_
  intro l ao m
  unfold q9s at m
  refine q7<|q7<|q0<|mv_ ee<|mv_ ee<|q15 ee ee ee ee<|v_ (.d (.bool (decide (l.1 < (o.length : Int))))) ee<|q6 ?_
  refine qb ee m (fun _ m=>?_) (fun _ m=>?_)
  ·refine qd<|q7 ?_
   obtain ⟨af,a,m⟩:=bindE m
   refine qk (fun q=>q = af) (fun (q : List api_Rect)=>⟨[(0,.d (.sl 6 (o.map qa))),(1,di_ k),(5,.hs 0 4 0 q.length),(6,di_ l.1)],[(0,.dat 4 (q.map q9))],1⟩) (by simp) ?_ ?_
   ·refine q7<|q0<|mv_ ee<|mv_ ee ?_
    obtain ⟨j,ag,a⟩:=bindE a
    refine qv (enc:=qa) ag ee ee ee ee ee ee<|v_ (.dref [i_ j.Lo.X,i_ j.Lo.Y,i_ j.Lo.Z,i_ j.Hi.X,i_ j.Hi.Y,i_ j.Hi.Z] 0) ee<|v_ (.dref [i_ j.Lo.X,i_ j.Lo.Y,i_ j.Lo.Z,i_ j.Hi.X,i_ j.Hi.Y,i_ j.Hi.Z] 2) ee<|v_ (di_ j.Lo.Z) ee<|mv_ ee<|v_ (.d (.bool (decide (j.Lo.Z≤k)))) ee ?_
    obtain ⟨ah,n,a⟩:=bindE a
    refine qo 10 (fun A st=>∃ (u w x y z aa ab ac ad : V),st = A [(30,db_ ah),(29,ad),(28,ac),(27,ab),(26,aa),(25,z),(24,y),(23,x),(22,w),(21,u)]) ?_ ?_
    ·refine qs ee ee n (fun n=>?_) (fun n=>?_)
     ·refine mv_ ee<|mv_ ee<|mv_ ee ?_
      obtain ⟨h,ai,n⟩:=bindE n
      refine qv (enc:=qa) ai ee ee ee ee ee ee<|v_ (.dref [i_ h.Lo.X,i_ h.Lo.Y,i_ h.Lo.Z,i_ h.Hi.X,i_ h.Hi.Y,i_ h.Hi.Z] 3) ee<|v_ (.dref [i_ h.Lo.X,i_ h.Lo.Y,i_ h.Lo.Z,i_ h.Hi.X,i_ h.Hi.Y,i_ h.Hi.Z] 5) ee<|v_ (di_ h.Hi.Z) ee<|v_ (.d (.bool (decide (k < h.Hi.Z)))) ee<|v_ (.d (.bool (decide (k < h.Hi.Z)))) ee<|q6 ?_
      obtain rfl:=someE n
      exact ⟨_,_,_,_,_,_,_,_,_,ee⟩
     refine q8 ee<|q8 ee<|q8 ee<|q8 ee<|q8 ee<|q8 ee<|q8 ee<|q8 ee<|v_ (db_ false) ee<|q6 ?_
     obtain rfl:=someE n
     exact ⟨_,_,_,_,_,_,_,_,_,ee⟩
    rintro _ ⟨u,w,x,y,z,aa,ab,ac,ad,rfl⟩
    refine q6 ?_
    refine qb ee a (fun _ a=>?_) (fun _ a=>?_)
    ·refine qg [(some [],[]),(some [0,1],[0,2]),(some [],[1]),(some [],[]),(some [],[]),(some [],[]),(some [],[]),(some [],[]),(some [],[]),(some [],[]),(some [],[]),(some [],[]),(some [],[]),(some [],[]),(some [],[]),(some [],[]),(some [],[]),(some [],[]),(some [],[]),(some [],[]),(some [],[]),(some [],[]),(some [],[]),(some [],[]),(some [],[]),(some [],[]),(some [],[]),(some [],[]),(some [],[])] (by kernel_rfl)<|mv_ ee<|mv_ ee<|mv_ ee ?_
     obtain ⟨b,aj,a⟩:=bindE a
     refine qv (enc:=qa) aj ee ee ee ee ee ee<|v_ (.dref [i_ b.Lo.X,i_ b.Lo.Y,i_ b.Lo.Z,i_ b.Hi.X,i_ b.Hi.Y,i_ b.Hi.Z] 0) ee<|v_ (.dref [i_ b.Lo.X,i_ b.Lo.Y,i_ b.Lo.Z,i_ b.Hi.X,i_ b.Hi.Y,i_ b.Hi.Z] 0) ee<|v_ (di_ b.Lo.X) ee<|mv_ ee<|mv_ ee ?_
     obtain ⟨c,ak,a⟩:=bindE a
     refine qv (enc:=qa) ak ee ee ee ee ee ee<|v_ (.dref [i_ c.Lo.X,i_ c.Lo.Y,i_ c.Lo.Z,i_ c.Hi.X,i_ c.Hi.Y,i_ c.Hi.Z] 0) ee<|v_ (.dref [i_ c.Lo.X,i_ c.Lo.Y,i_ c.Lo.Z,i_ c.Hi.X,i_ c.Hi.Y,i_ c.Hi.Z] 1) ee<|v_ (di_ c.Lo.Y) ee<|mv_ ee<|mv_ ee ?_
     obtain ⟨f,al,a⟩:=bindE a
     refine qv (enc:=qa) al ee ee ee ee ee ee<|v_ (.dref [i_ f.Lo.X,i_ f.Lo.Y,i_ f.Lo.Z,i_ f.Hi.X,i_ f.Hi.Y,i_ f.Hi.Z] 3) ee<|v_ (.dref [i_ f.Lo.X,i_ f.Lo.Y,i_ f.Lo.Z,i_ f.Hi.X,i_ f.Hi.Y,i_ f.Hi.Z] 3) ee<|v_ (di_ f.Hi.X) ee<|mv_ ee<|mv_ ee ?_
     obtain ⟨g,am,a⟩:=bindE a
     refine qv (enc:=qa) am ee ee ee ee ee ee<|v_ (.dref [i_ g.Lo.X,i_ g.Lo.Y,i_ g.Lo.Z,i_ g.Hi.X,i_ g.Hi.Y,i_ g.Hi.Z] 3) ee<|v_ (.dref [i_ g.Lo.X,i_ g.Lo.Y,i_ g.Lo.Z,i_ g.Hi.X,i_ g.Hi.Y,i_ g.Hi.Z] 4) ee<|v_ (di_ g.Hi.Y) ee<|v_ (.d (.agg [i_ b.Lo.X,i_ c.Lo.Y,i_ f.Hi.X,i_ g.Hi.Y])) ee<|q3s (.hs 1 4 0 [({X0:=b.Lo.X,Y0:=c.Lo.Y,X1:=f.Hi.X,Y1:=g.Hi.Y} : api_Rect)].length) (.dat 4 ([({X0:=b.Lo.X,Y0:=c.Lo.Y,X1:=f.Hi.X,Y1:=g.Hi.Y} : api_Rect)].map q9)) ee ?_
     obtain ⟨ap,an,a⟩:=bindE a
     refine q5l (xs:=l.2) (ys:=[({X0:=b.Lo.X,Y0:=c.Lo.Y,X1:=f.Hi.X,Y1:=g.Hi.Y} : api_Rect)]) (enc:=q9) (.hs 1 4 0 [({X0:=b.Lo.X,Y0:=c.Lo.Y,X1:=f.Hi.X,Y1:=g.Hi.Y} : api_Rect)].length) an ee ee ee ee ee ee ee (q4a ee ee) ee ee ee ee<|as_ ee<|q6<|qc ?_
     obtain rfl:=someE a
     exact ⟨_,ee,wkA [(0,2)] [] []⟩
    refine qd<|qc ?_
    obtain rfl:=someE a
    exact ⟨_,ee,wkA [(0,0)] [] []⟩
   intro q hb
   subst hb
   refine q0<|mv_ ee<|v_ (.d (i_ (w64 (l.1 + 1)))) ee<|as_ ee<|q6<|qc ?_
   exact ⟨_,(Option.some.inj m).symm,wkA [(0,0)] [] []⟩
  refine qm ?_
  refine ⟨_,(Option.some.inj m).symm,fun hm=>?_⟩
  subst hm
  exact ⟨_,ee,wkA [(0,0)] [] []⟩
 intro p hb
 subst hb
 refine q7<|q0<|mv_ ee<|as_ ee<|q6<|qj ?_
 obtain rfl:=someE s
 exact finD (.inr ee) (v:=.hs 0 4 0 p.length) ee (qa1 ee ee) (.refl _)
theorem qrr (p : List api_Rect) (l : List api_Rect) (r : List Int) (j : qf1 p l = some r) : Pure Tryz.prog tab 91 [.sl 4 (p.map q9),.sl 4 (l.map q9)] (.sl 1 (r.map (eI .i64))):=by
 unfold qf1 at j
 refine ql Tryz.func91 ee (by kernel_rfl) (by kernel_rfl) ee<|q7<|q0<|as_ ee<|q6<|q7<|q0<|as_ ee<|q6<|q7<|q7<|q0<|as_ ee<|q6 ?_
 obtain ⟨q,u,j⟩:=bindE j
 refine qk (fun o=>o = q) (fun (o : List Int)=>⟨[(1,.d (.sl 4 (l.map q9))),(5,.hs 0 1 0 o.length)],[(0,.dat 1 (o.map (eI .i64)))],1⟩) (by simp) ?_ ?_
 ·refine qn (q8g p) (fun (m : Int × List Int)=>⟨[(0,.d (.sl 4 (p.map q9))),(1,.d (.sl 4 (l.map q9))),(5,.hs 0 1 0 m.2.length),(6,di_ m.1)],[(0,.dat 1 (m.2.map (eI .i64)))],1⟩) (0,[]) q u (wkA [] [] [0]) ?_
  intro m ae a
  unfold q8g at a
  refine q7<|q7<|q0<|mv_ ee<|mv_ ee<|q15 ee ee ee ee<|v_ (.d (.bool (decide (m.1 < (p.length : Int))))) ee<|q6 ?_
  refine qb ee a (fun _ a=>?_) (fun _ a=>?_)
  ·refine qd<|q7<|qh<|qg [(some [],[]),(some [0,1],[0,2]),(some [],[1]),(some [],[]),(some [],[]),(some [],[]),(some [],[]),(some [],[]),(some [],[]),(some [],[]),(some [],[]),(some [],[]),(some [],[]),(some [],[])] (by kernel_rfl)<|mv_ ee<|mv_ ee<|mv_ ee ?_
   obtain ⟨c,w,a⟩:=bindE a
   refine qv (enc:=q9) w ee ee ee ee ee ee<|v_ (.dref [i_ c.X0,i_ c.Y0,i_ c.X1,i_ c.Y1] 0) ee<|v_ (di_ c.X0) ee<|mv_ ee<|mv_ ee ?_
   obtain ⟨f,x,a⟩:=bindE a
   refine qv (enc:=q9) x ee ee ee ee ee ee<|v_ (.dref [i_ f.X0,i_ f.Y0,i_ f.X1,i_ f.Y1] 2) ee<|v_ (di_ f.X1) ee<|q3s (.hs 1 1 0 [c.X0,f.X1].length) (.dat 1 ([c.X0,f.X1].map (eI .i64))) ee ?_
   obtain ⟨af,y,a⟩:=bindE a
   refine q5l (xs:=m.2) (ys:=[c.X0,f.X1]) (enc:=(eI .i64)) (.hs 1 1 0 [c.X0,f.X1].length) y ee ee ee ee ee ee ee (q4a ee ee) ee ee ee ee<|as_ ee<|q6<|qc<|qr<|q0<|mv_ ee<|v_ (.d (i_ (w64 (m.1 + 1)))) ee<|as_ ee<|q6<|qc ?_
   exact ⟨_,(Option.some.inj a).symm,wkA [(0,2)] [] []⟩
  refine qm ?_
  refine ⟨_,(Option.some.inj a).symm,fun hm=>?_⟩
  subst hm
  exact ⟨_,ee,wkA [(0,0)] [] []⟩
 intro o hb
 subst hb
 refine q7<|q7<|q0<|as_ ee<|q6 ?_
 obtain ⟨s,z,j⟩:=bindE j
 refine qk (fun k=>k = s) (fun (k : List Int)=>⟨[(5,.hs 0 1 0 k.length)],[(0,.dat 1 (k.map (eI .i64)))],1⟩) (by simp) ?_ ?_
 ·refine qn (q8h l) (fun (n : Int × List Int)=>⟨[(1,.d (.sl 4 (l.map q9))),(5,.hs 0 1 0 n.2.length),(7,di_ n.1)],[(0,.dat 1 (n.2.map (eI .i64)))],1⟩) (0,o) s z (wkA [(0,0)] [] []) ?_
  intro n ag b
  unfold q8h at b
  refine q7<|q7<|q0<|mv_ ee<|mv_ ee<|q15 ee ee ee ee<|v_ (.d (.bool (decide (n.1 < (l.length : Int))))) ee<|q6 ?_
  refine qb ee b (fun _ b=>?_) (fun _ b=>?_)
  ·refine qd<|q7<|qh<|qg [(some [],[]),(some [0,1],[0,2]),(some [],[1]),(some [],[]),(some [],[]),(some [],[]),(some [],[]),(some [],[]),(some [],[]),(some [],[]),(some [],[]),(some [],[]),(some [],[]),(some [],[])] (by kernel_rfl)<|mv_ ee<|mv_ ee<|mv_ ee ?_
   obtain ⟨g,aa,b⟩:=bindE b
   refine qv (enc:=q9) aa ee ee ee ee ee ee<|v_ (.dref [i_ g.X0,i_ g.Y0,i_ g.X1,i_ g.Y1] 0) ee<|v_ (di_ g.X0) ee<|mv_ ee<|mv_ ee ?_
   obtain ⟨h,ab,b⟩:=bindE b
   refine qv (enc:=q9) ab ee ee ee ee ee ee<|v_ (.dref [i_ h.X0,i_ h.Y0,i_ h.X1,i_ h.Y1] 2) ee<|v_ (di_ h.X1) ee<|q3s (.hs 1 1 0 [g.X0,h.X1].length) (.dat 1 ([g.X0,h.X1].map (eI .i64))) ee ?_
   obtain ⟨ah,ac,b⟩:=bindE b
   refine q5l (xs:=n.2) (ys:=[g.X0,h.X1]) (enc:=(eI .i64)) (.hs 1 1 0 [g.X0,h.X1].length) ac ee ee ee ee ee ee ee (q4a ee ee) ee ee ee ee<|as_ ee<|q6<|qc<|qr<|q0<|mv_ ee<|v_ (.d (i_ (w64 (n.1 + 1)))) ee<|as_ ee<|q6<|qc ?_
   exact ⟨_,(Option.some.inj b).symm,wkA [(0,2)] [] []⟩
  refine qm ?_
  refine ⟨_,(Option.some.inj b).symm,fun hm=>?_⟩
  subst hm
  exact ⟨_,ee,wkA [(0,0)] [] []⟩
 intro k hb
 subst hb
 refine q7 ?_
 refine q7c (st':=⟨[(5,.d (.sl 1 (k.map (eI .i64))))],[],0⟩) (wkA [] [0] []) ?_ (by simp)
 refine q0<|mv_ ee ?_
 obtain ⟨t,ad,j⟩:=bindE j
 refine qu [.d (.sl 1 (k.map (eI .i64)))] (qba k t ad) ee ee ee (.inl ee)<|as_ ee<|q6<|qj ?_
 obtain rfl:=someE j
 exact finD (.inr ee) (v:=.d (.sl 1 (t.map (eI .i64)))) ee ee (.refl _)
theorem qrs (p : List api_Rect) (l : List api_Rect) (r : List Int) (j : qf2 p l = some r) : Pure Tryz.prog tab 92 [.sl 4 (p.map q9),.sl 4 (l.map q9)] (.sl 1 (r.map (eI .i64))):=by
 unfold qf2 at j
 refine ql Tryz.func92 ee (by kernel_rfl) (by kernel_rfl) ee<|q7<|q0<|as_ ee<|q6<|q7<|q0<|as_ ee<|q6<|q7<|q7<|q0<|as_ ee<|q6 ?_
 obtain ⟨q,u,j⟩:=bindE j
 refine qk (fun o=>o = q) (fun (o : List Int)=>⟨[(1,.d (.sl 4 (l.map q9))),(5,.hs 0 1 0 o.length)],[(0,.dat 1 (o.map (eI .i64)))],1⟩) (by simp) ?_ ?_
 ·refine qn (q8i p) (fun (m : Int × List Int)=>⟨[(0,.d (.sl 4 (p.map q9))),(1,.d (.sl 4 (l.map q9))),(5,.hs 0 1 0 m.2.length),(6,di_ m.1)],[(0,.dat 1 (m.2.map (eI .i64)))],1⟩) (0,[]) q u (wkA [] [] [0]) ?_
  intro m ae a
  unfold q8i at a
  refine q7<|q7<|q0<|mv_ ee<|mv_ ee<|q15 ee ee ee ee<|v_ (.d (.bool (decide (m.1 < (p.length : Int))))) ee<|q6 ?_
  refine qb ee a (fun _ a=>?_) (fun _ a=>?_)
  ·refine qd<|q7<|qh<|qg [(some [],[]),(some [0,1],[0,2]),(some [],[1]),(some [],[]),(some [],[]),(some [],[]),(some [],[]),(some [],[]),(some [],[]),(some [],[]),(some [],[]),(some [],[]),(some [],[]),(some [],[])] (by kernel_rfl)<|mv_ ee<|mv_ ee<|mv_ ee ?_
   obtain ⟨c,w,a⟩:=bindE a
   refine qv (enc:=q9) w ee ee ee ee ee ee<|v_ (.dref [i_ c.X0,i_ c.Y0,i_ c.X1,i_ c.Y1] 1) ee<|v_ (di_ c.Y0) ee<|mv_ ee<|mv_ ee ?_
   obtain ⟨f,x,a⟩:=bindE a
   refine qv (enc:=q9) x ee ee ee ee ee ee<|v_ (.dref [i_ f.X0,i_ f.Y0,i_ f.X1,i_ f.Y1] 3) ee<|v_ (di_ f.Y1) ee<|q3s (.hs 1 1 0 [c.Y0,f.Y1].length) (.dat 1 ([c.Y0,f.Y1].map (eI .i64))) ee ?_
   obtain ⟨af,y,a⟩:=bindE a
   refine q5l (xs:=m.2) (ys:=[c.Y0,f.Y1]) (enc:=(eI .i64)) (.hs 1 1 0 [c.Y0,f.Y1].length) y ee ee ee ee ee ee ee (q4a ee ee) ee ee ee ee<|as_ ee<|q6<|qc<|qr<|q0<|mv_ ee<|v_ (.d (i_ (w64 (m.1 + 1)))) ee<|as_ ee<|q6<|qc ?_
   exact ⟨_,(Option.some.inj a).symm,wkA [(0,2)] [] []⟩
  refine qm ?_
  refine ⟨_,(Option.some.inj a).symm,fun hm=>?_⟩
  subst hm
  exact ⟨_,ee,wkA [(0,0)] [] []⟩
 intro o hb
 subst hb
 refine q7<|q7<|q0<|as_ ee<|q6 ?_
 obtain ⟨s,z,j⟩:=bindE j
 refine qk (fun k=>k = s) (fun (k : List Int)=>⟨[(5,.hs 0 1 0 k.length)],[(0,.dat 1 (k.map (eI .i64)))],1⟩) (by simp) ?_ ?_
 ·refine qn (q8j l) (fun (n : Int × List Int)=>⟨[(1,.d (.sl 4 (l.map q9))),(5,.hs 0 1 0 n.2.length),(7,di_ n.1)],[(0,.dat 1 (n.2.map (eI .i64)))],1⟩) (0,o) s z (wkA [(0,0)] [] []) ?_
  intro n ag b
  unfold q8j at b
  refine q7<|q7<|q0<|mv_ ee<|mv_ ee<|q15 ee ee ee ee<|v_ (.d (.bool (decide (n.1 < (l.length : Int))))) ee<|q6 ?_
  refine qb ee b (fun _ b=>?_) (fun _ b=>?_)
  ·refine qd<|q7<|qh<|qg [(some [],[]),(some [0,1],[0,2]),(some [],[1]),(some [],[]),(some [],[]),(some [],[]),(some [],[]),(some [],[]),(some [],[]),(some [],[]),(some [],[]),(some [],[]),(some [],[]),(some [],[])] (by kernel_rfl)<|mv_ ee<|mv_ ee<|mv_ ee ?_
   obtain ⟨g,aa,b⟩:=bindE b
   refine qv (enc:=q9) aa ee ee ee ee ee ee<|v_ (.dref [i_ g.X0,i_ g.Y0,i_ g.X1,i_ g.Y1] 1) ee<|v_ (di_ g.Y0) ee<|mv_ ee<|mv_ ee ?_
   obtain ⟨h,ab,b⟩:=bindE b
   refine qv (enc:=q9) ab ee ee ee ee ee ee<|v_ (.dref [i_ h.X0,i_ h.Y0,i_ h.X1,i_ h.Y1] 3) ee<|v_ (di_ h.Y1) ee<|q3s (.hs 1 1 0 [g.Y0,h.Y1].length) (.dat 1 ([g.Y0,h.Y1].map (eI .i64))) ee ?_
   obtain ⟨ah,ac,b⟩:=bindE b
   refine q5l (xs:=n.2) (ys:=[g.Y0,h.Y1]) (enc:=(eI .i64)) (.hs 1 1 0 [g.Y0,h.Y1].length) ac ee ee ee ee ee ee ee (q4a ee ee) ee ee ee ee<|as_ ee<|q6<|qc<|qr<|q0<|mv_ ee<|v_ (.d (i_ (w64 (n.1 + 1)))) ee<|as_ ee<|q6<|qc ?_
   exact ⟨_,(Option.some.inj b).symm,wkA [(0,2)] [] []⟩
  refine qm ?_
  refine ⟨_,(Option.some.inj b).symm,fun hm=>?_⟩
  subst hm
  exact ⟨_,ee,wkA [(0,0)] [] []⟩
 intro k hb
 subst hb
 refine q7 ?_
 refine q7c (st':=⟨[(5,.d (.sl 1 (k.map (eI .i64))))],[],0⟩) (wkA [] [0] []) ?_ (by simp)
 refine q0<|mv_ ee ?_
 obtain ⟨t,ad,j⟩:=bindE j
 refine qu [.d (.sl 1 (k.map (eI .i64)))] (qba k t ad) ee ee ee (.inl ee)<|as_ ee<|q6<|qj ?_
 obtain rfl:=someE j
 exact finD (.inr ee) (v:=.d (.sl 1 (t.map (eI .i64)))) ee ee (.refl _)
theorem qja (n : List api_Rect) (c : Int) (b : Int) (r : Bool) (o : qbn n c b = some r) : Pure Tryz.prog tab 45 [.sl 4 (n.map q9),i_ c,i_ b] (.bool r):=by
 unfold qbn at o
 refine ql Tryz.func45 ee (by kernel_rfl) (by kernel_rfl) ee<|q7<|q0<|as_ ee<|q6<|q7<|q7<|q0<|as_ ee<|q6 ?_
 obtain ⟨s,as,o⟩:=bindE o
 refine qk (fun q=>.inl q = s) (fun (q : Unit)=>⟨[],[],0⟩) (by simp) ?_ ?_
 ·refine qn (q6q n c b) (fun (p : Int)=>⟨[(0,.d (.sl 4 (n.map q9))),(1,di_ c),(2,di_ b),(7,di_ p)],[],0⟩) 0 s as (wkA [] [] []) ?_
  intro p bb a
  unfold q6q at a
  refine q7<|q7<|q0<|mv_ ee<|mv_ ee<|q15 ee ee ee ee<|v_ (.d (.bool (decide (p < (n.length : Int))))) ee<|q6 ?_
  refine qb ee a (fun _ a=>?_) (fun _ a=>?_)
  ·refine qd<|q7<|qh<|q7<|q0<|mv_ ee<|mv_ ee ?_
   obtain ⟨m,au,a⟩:=bindE a
   refine qv (enc:=q9) au ee ee ee ee ee ee<|v_ (.dref [i_ m.X0,i_ m.Y0,i_ m.X1,i_ m.Y1] 0) ee<|v_ (di_ m.X0) ee<|mv_ ee<|v_ (.d (.bool (decide (m.X0≤c)))) ee ?_
   obtain ⟨av,f,a⟩:=bindE a
   refine qo 9 (fun A st=>∃ (t u w x y z aa ab : V),st = A [(29,db_ av),(28,ab),(27,aa),(26,z),(25,y),(24,x),(23,w),(22,u),(21,t)]) ?_ ?_
   ·refine qs ee ee f (fun f=>?_) (fun f=>?_)
    ·refine mv_ ee<|mv_ ee<|mv_ ee ?_
     obtain ⟨g,aw,f⟩:=bindE f
     refine qv (enc:=q9) aw ee ee ee ee ee ee<|v_ (.dref [i_ g.X0,i_ g.Y0,i_ g.X1,i_ g.Y1] 2) ee<|v_ (di_ g.X1) ee<|v_ (.d (.bool (decide (c < g.X1)))) ee<|v_ (.d (.bool (decide (c < g.X1)))) ee<|q6 ?_
     obtain rfl:=someE f
     exact ⟨_,_,_,_,_,_,_,_,ee⟩
    refine q8 ee<|q8 ee<|q8 ee<|q8 ee<|q8 ee<|q8 ee<|q8 ee<|v_ (db_ false) ee<|q6 ?_
    obtain rfl:=someE f
    exact ⟨_,_,_,_,_,_,_,_,ee⟩
   rintro _ ⟨t,u,w,x,y,z,aa,ab,rfl⟩
   obtain ⟨ax,h,a⟩:=bindE a
   refine qo 9 (fun A st=>∃ (ac ad ae af ag ah ai aj : V),st = A [(38,db_ ax),(37,aj),(36,ai),(35,ah),(34,ag),(33,af),(32,ae),(31,ad),(30,ac)]) ?_ ?_
   ·refine qs ee ee h (fun h=>?_) (fun h=>?_)
    ·refine mv_ ee<|mv_ ee ?_
     obtain ⟨j,ay,h⟩:=bindE h
     refine qv (enc:=q9) ay ee ee ee ee ee ee<|v_ (.dref [i_ j.X0,i_ j.Y0,i_ j.X1,i_ j.Y1] 1) ee<|v_ (di_ j.Y0) ee<|mv_ ee<|v_ (.d (.bool (decide (j.Y0≤b)))) ee<|v_ (.d (.bool (decide (j.Y0≤b)))) ee<|q6 ?_
     obtain rfl:=someE h
     exact ⟨_,_,_,_,_,_,_,_,ee⟩
    refine q8 ee<|q8 ee<|q8 ee<|q8 ee<|q8 ee<|q8 ee<|q8 ee<|v_ (db_ false) ee<|q6 ?_
    obtain rfl:=someE h
    exact ⟨_,_,_,_,_,_,_,_,ee⟩
   rintro _ ⟨ac,ad,ae,af,ag,ah,ai,aj,rfl⟩
   obtain ⟨az,k,a⟩:=bindE a
   refine qo 9 (fun A st=>∃ (ak al am an ao ap aq ar : V),st = A [(47,db_ az),(46,ar),(45,aq),(44,ap),(43,ao),(42,an),(41,am),(40,al),(39,ak)]) ?_ ?_
   ·refine qs ee ee k (fun k=>?_) (fun k=>?_)
    ·refine mv_ ee<|mv_ ee<|mv_ ee ?_
     obtain ⟨l,ba,k⟩:=bindE k
     refine qv (enc:=q9) ba ee ee ee ee ee ee<|v_ (.dref [i_ l.X0,i_ l.Y0,i_ l.X1,i_ l.Y1] 3) ee<|v_ (di_ l.Y1) ee<|v_ (.d (.bool (decide (b < l.Y1)))) ee<|v_ (.d (.bool (decide (b < l.Y1)))) ee<|q6 ?_
     obtain rfl:=someE k
     exact ⟨_,_,_,_,_,_,_,_,ee⟩
    refine q8 ee<|q8 ee<|q8 ee<|q8 ee<|q8 ee<|q8 ee<|q8 ee<|v_ (db_ false) ee<|q6 ?_
    obtain rfl:=someE k
    exact ⟨_,_,_,_,_,_,_,_,ee⟩
   rintro _ ⟨ak,al,am,an,ao,ap,aq,ar,rfl⟩
   refine q6 ?_
   refine qb ee a (fun _ a=>?_) (fun _ a=>?_)
   ·refine q7<|q0<|as_ ee<|q6<|qj ?_
    refine ⟨_,(Option.some.inj a).symm,fun hm=>?_⟩
    subst hm
    obtain rfl:=someE o
    exact finD (.inr ee) (v:=(db_ true)) ee ee (.refl _)
   refine qd<|qc<|qr<|q0<|mv_ ee<|v_ (.d (i_ (w64 (p + 1)))) ee<|as_ ee<|q6<|qc ?_
   exact ⟨_,(Option.some.inj a).symm,wkA [] [] []⟩
  refine qm ?_
  refine ⟨_,(Option.some.inj a).symm,fun hm=>?_⟩
  subst hm
  exact ⟨_,ee,wkA [] [] []⟩
 intro q hb
 subst hb
 refine q7<|q0<|as_ ee<|q6<|qj ?_
 obtain rfl:=someE o
 exact finD (.inr ee) (v:=(db_ false)) ee ee (.refl _)
theorem qnp (g : Int) (h : Bool) (b : Bool) (r : Bool) (a : q9t g h b = some r) : Pure Tryz.prog tab 93 [i_ g,.bool h,.bool b] (.bool r):=by
 unfold q9t at a
 refine ql Tryz.func93 ee (by kernel_rfl) (by kernel_rfl) ee<|q7<|q0<|as_ ee<|q6<|q7<|q7<|q0<|mv_ ee<|v_ (db_ (g == 1)) ee<|q6 ?_
 refine qb ee a (fun _ a=>?_) (fun _ a=>?_)
 ·refine q7<|q0<|mv_ ee ?_
  obtain ⟨j,c,a⟩:=bindE a
  refine qo 3 (fun A st=>∃ (k l : V),st = A [(12,db_ j),(11,l),(10,k)]) ?_ ?_
  ·refine qs ee ee c (fun c=>?_) (fun c=>?_)
   ·refine mv_ ee<|v_ (db_ b) ee<|q6 ?_
    obtain rfl:=someE c
    exact ⟨_,_,ee⟩
   refine q8 ee<|v_ (db_ false) ee<|q6 ?_
   obtain rfl:=someE c
   exact ⟨_,_,ee⟩
  rintro _ ⟨k,l,rfl⟩
  refine as_ ee<|q6<|qj ?_
  obtain rfl:=someE a
  exact finD (.inr ee) (v:=(db_ j)) ee ee (.refl _)
 refine qd<|q7<|q7<|q0<|mv_ ee<|v_ (db_ (g == 2)) ee<|q6 ?_
 refine qb ee a (fun _ a=>?_) (fun _ a=>?_)
 ·refine q7<|q0<|mv_ ee ?_
  obtain ⟨m,d,a⟩:=bindE a
  refine qo 3 (fun A st=>∃ (n o : V),st = A [(18,db_ m),(17,o),(16,n)]) ?_ ?_
  ·refine qs ee ee d (fun d=>?_) (fun d=>?_)
   ·refine q8 ee<|v_ (db_ true) ee<|q6 ?_
    obtain rfl:=someE d
    exact ⟨_,_,ee⟩
   refine mv_ ee<|v_ (db_ b) ee<|q6 ?_
   obtain rfl:=someE d
   exact ⟨_,_,ee⟩
  rintro _ ⟨n,o,rfl⟩
  refine as_ ee<|q6<|qj ?_
  obtain rfl:=someE a
  exact finD (.inr ee) (v:=(db_ m)) ee ee (.refl _)
 refine qd<|q7<|q0<|mv_ ee ?_
 obtain ⟨p,f,a⟩:=bindE a
 refine qo 4 (fun A st=>∃ (q s t : V),st = A [(23,db_ p),(22,t),(21,s),(20,q)]) ?_ ?_
 ·refine qs ee ee f (fun f=>?_) (fun f=>?_)
  ·refine mv_ ee<|v_ (db_ (!b)) ee<|v_ (db_ (!b)) ee<|q6 ?_
   obtain rfl:=someE f
   exact ⟨_,_,_,ee⟩
  refine q8 ee<|q8 ee<|v_ (db_ false) ee<|q6 ?_
  obtain rfl:=someE f
  exact ⟨_,_,_,ee⟩
 rintro _ ⟨q,s,t,rfl⟩
 refine as_ ee<|q6<|qj ?_
 obtain rfl:=someE a
 exact finD (.inr ee) (v:=(db_ p)) ee ee (.refl _)
theorem qnq (g : List Int) (l : List Bool) (r : List api_Span) (n : q8k g l = some r) : Pure Tryz.prog tab 94 [.sl 1 (g.map (eI .i64)),.sl 1 (l.map eB)] (.sl 2 (r.map qf)):=by
 unfold q8k at n
 refine ql Tryz.func94 ee (by kernel_rfl) (by kernel_rfl) ee<|q7<|q0<|as_ ee<|q6<|q7<|q0<|as_ ee<|q6<|q7<|q7<|q0<|as_ ee<|q6 ?_
 obtain ⟨s,aj,n⟩:=bindE n
 refine qk (fun h=>h = s) (fun (h : List api_Span)=>⟨[(5,.hs 0 2 0 h.length)],[(0,.dat 2 (h.map qf))],1⟩) (by simp) ?_ ?_
 ·refine qn (q6g g l) (fun (b : Int × List api_Span)=>⟨[(0,.d (.sl 1 (g.map (eI .i64)))),(1,.d (.sl 1 (l.map eB))),(5,.hs 0 2 0 b.2.length),(6,di_ b.1)],[(0,.dat 2 (b.2.map qf))],1⟩) (0,[]) s aj (wkA [] [] [0]) ?_
  intro b au f
  unfold q6g at f
  refine q7<|q7<|q0<|mv_ ee<|v_ (.d (i_ (w64 (b.1 + 1)))) ee<|mv_ ee<|q15 ee ee ee ee<|v_ (.d (.bool (decide ((w64 (b.1 + 1)) < (g.length : Int))))) ee<|q6 ?_
  refine qb ee f (fun _ f=>?_) (fun _ f=>?_)
  ·refine qd<|q7 ?_
   obtain ⟨ak,a,f⟩:=bindE f
   refine qk (fun m=>m = ak) (fun (m : List api_Span)=>⟨[(0,.d (.sl 1 (g.map (eI .i64)))),(1,.d (.sl 1 (l.map eB))),(5,.hs 0 2 0 m.length),(6,di_ b.1)],[(0,.dat 2 (m.map qf))],1⟩) (by simp) ?_ ?_
   ·refine q7<|q7<|q0<|mv_ ee<|mv_ ee ?_
    obtain ⟨t,al,a⟩:=bindE a
    refine qv (enc:=eB) al ee ee ee ee ee ee<|v_ (db_ t) ee<|v_ (db_ (!t)) ee<|q6 ?_
    refine qb ee a (fun _ a=>?_) (fun _ a=>?_)
    ·refine qm ?_
     obtain rfl:=someE a
     exact ⟨_,ee,wkA [(0,0)] [] []⟩
    refine qd<|q7<|q0<|mv_ ee<|v_ (di_ (b.2.length : Int)) ee<|as_ ee<|q6<|q7<|qg [(some [],[]),(some [],[]),(some [],[]),(some [],[]),(some [],[]),(some [],[]),(some [0],[]),(some [],[]),(some [],[]),(some [],[]),(some [],[]),(some [],[]),(some [],[]),(some [],[]),(some [],[])] (by kernel_rfl)<|mv_ ee<|v_ (.d (.bool (decide ((b.2.length : Int) > 0)))) ee ?_
    obtain ⟨am,c,a⟩:=bindE a
    refine qo 13 (fun A st=>∃ (u w x y z aa ab ac ad ae af ag : V),st = A [(36,db_ am),(35,ag),(34,af),(33,ae),(32,ad),(31,ac),(30,ab),(29,aa),(28,z),(27,y),(26,x),(25,w),(24,u)]) ?_ ?_
    ·refine qs ee ee c (fun c=>?_) (fun c=>?_)
     ·refine mv_ ee<|mv_ ee<|v_ (.d (i_ (w64 ((b.2.length : Int) - 1)))) ee ?_
      obtain ⟨o,ah,c⟩:=bindE c
      refine qi ah ee ee ee ee ee ee ee<|v_ (.ref 0 2 (w64 ((b.2.length : Int) - 1)).toNat 1) ee<|qp (di_ o.Hi) ah ee ee ee ee ee ee<|mv_ ee<|mv_ ee ?_
      obtain ⟨p,an,c⟩:=bindE c
      refine qv (enc:=(eI .i64)) an ee ee ee ee ee ee<|v_ (di_ p) ee<|v_ (db_ (o.Hi == p)) ee<|v_ (db_ (o.Hi == p)) ee<|q6 ?_
      obtain rfl:=someE c
      exact ⟨_,_,_,_,_,_,_,_,_,_,_,_,ee⟩
     refine q8 ee<|q8 ee<|q8 ee<|q8 ee<|q8 ee<|q8 ee<|q8 ee<|q8 ee<|q8 ee<|q8 ee<|q8 ee<|v_ (db_ false) ee<|q6 ?_
     obtain rfl:=someE c
     exact ⟨_,_,_,_,_,_,_,_,_,_,_,_,ee⟩
    rintro _ ⟨u,w,x,y,z,aa,ab,ac,ad,ae,af,ag,rfl⟩
    refine q6 ?_
    refine qb ee a (fun _ a=>?_) (fun _ a=>?_)
    ·refine q0<|mv_ ee<|mv_ ee<|v_ (.d (i_ (w64 ((b.2.length : Int) - 1)))) ee<|mv_ ee<|mv_ ee<|v_ (.d (i_ (w64 (b.1 + 1)))) ee ?_
     obtain ⟨q,ao,a⟩:=bindE a
     refine qv (enc:=(eI .i64)) ao ee ee ee ee ee ee<|v_ (di_ q) ee ?_
     obtain ⟨ap,ai,a⟩:=bindE a
     refine qi ai ee ee ee ee ee ee ee<|v_ (.ref 0 2 (w64 ((b.2.length : Int) - 1)).toNat 1) ee<|q12 (ds:=[i_ q]) ({Lo:=ap.Lo,Hi:=q} : api_Span) ai ee ee ee ee ee ee ee ee (leb ee) ee<|q6<|qc ?_
     obtain rfl:=someE a
     exact ⟨_,ee,wkE [(0,0)] [] [] ee ⟨⟨_,ee,.d (.refl _)⟩,⟨_,ee,.d (.refl _)⟩,⟨_,ee,q10 (by simp) ee (by decide) (ltd ee)⟩,⟨_,ee,.d (.refl _)⟩,trivial⟩ ⟨⟨ltd ee,.inr ⟨by decide,_,ee,.dat _ _⟩⟩,trivial⟩⟩
    refine qg [(some [],[]),(some [0,1],[0,2]),(some [],[1]),(some [],[]),(some [],[]),(some [],[]),(some [],[]),(some [],[]),(some [],[]),(some [],[]),(some [],[]),(some [],[]),(some [],[]),(some [],[])] (by kernel_rfl)<|mv_ ee<|mv_ ee<|mv_ ee ?_
    obtain ⟨j,aq,a⟩:=bindE a
    refine qv (enc:=(eI .i64)) aq ee ee ee ee ee ee<|v_ (di_ j) ee<|mv_ ee<|mv_ ee<|v_ (.d (i_ (w64 (b.1 + 1)))) ee ?_
    obtain ⟨k,ar,a⟩:=bindE a
    refine qv (enc:=(eI .i64)) ar ee ee ee ee ee ee<|v_ (di_ k) ee<|v_ (.d (.agg [i_ j,i_ k])) ee<|q3s (.hs 1 2 0 [({Lo:=j,Hi:=k} : api_Span)].length) (.dat 2 ([({Lo:=j,Hi:=k} : api_Span)].map qf)) ee ?_
    obtain ⟨av,as,a⟩:=bindE a
    refine q5l (xs:=b.2) (ys:=[({Lo:=j,Hi:=k} : api_Span)]) (enc:=qf) (.hs 1 2 0 [({Lo:=j,Hi:=k} : api_Span)].length) as ee ee ee ee ee ee ee (q4a ee ee) ee ee ee ee<|as_ ee<|q6<|qc ?_
    obtain rfl:=someE a
    exact ⟨_,ee,wkA [(0,2)] [] []⟩
   intro m hb
   subst hb
   refine q0<|mv_ ee<|v_ (.d (i_ (w64 (b.1 + 1)))) ee<|as_ ee<|q6<|qc ?_
   exact ⟨_,(Option.some.inj f).symm,wkA [(0,0)] [] []⟩
  refine qm ?_
  refine ⟨_,(Option.some.inj f).symm,fun hm=>?_⟩
  subst hm
  exact ⟨_,ee,wkA [(0,0)] [] []⟩
 intro h hb
 subst hb
 refine q7<|q0<|mv_ ee<|as_ ee<|q6<|qj ?_
 obtain rfl:=someE n
 exact finD (.inr ee) (v:=.hs 0 2 0 h.length) ee (qa1 ee ee) (.refl _)
theorem qon (c : List api_Span) (f : List api_Span) (r : Bool) (b : qam c f = some r) : Pure Tryz.prog tab 95 [.sl 2 (c.map qf),.sl 2 (f.map qf)] (.bool r):=by
 unfold qam at b
 refine ql Tryz.func95 ee (by kernel_rfl) (by kernel_rfl) ee<|q7<|q0<|as_ ee<|q6<|q7<|q7<|q0<|mv_ ee<|q15 ee ee ee ee<|mv_ ee<|q15 ee ee ee ee<|v_ (.d (.bool ((c.length : Int) != (f.length : Int)))) ee<|q6 ?_
 refine qb ee b (fun _ b=>?_) (fun _ b=>?_)
 ·refine q7<|q0<|as_ ee<|q6<|qj ?_
  obtain rfl:=someE b
  exact finD (.inr ee) (v:=(db_ false)) ee ee (.refl _)
 refine qd<|q7<|q7<|q0<|as_ ee<|q6 ?_
 obtain ⟨l,m,b⟩:=bindE b
 refine qk (fun k=>.inl k = l) (fun (k : Unit)=>⟨[],[],0⟩) (by simp) ?_ ?_
 ·refine qn (qaz c f) (fun (g : Int)=>⟨[(0,.d (.sl 2 (c.map qf))),(1,.d (.sl 2 (f.map qf))),(5,di_ g)],[],0⟩) 0 l m (wkA [] [] []) ?_
  intro g p a
  unfold qaz at a
  refine q7<|q7<|q0<|mv_ ee<|mv_ ee<|q15 ee ee ee ee<|v_ (.d (.bool (decide (g < (c.length : Int))))) ee<|q6 ?_
  refine qb ee a (fun _ a=>?_) (fun _ a=>?_)
  ·refine qd<|q7<|qh<|q7<|qg [(some [],[]),(some [],[]),(some [],[]),(some [],[]),(some [],[]),(some [],[]),(some [],[]),(some [],[]),(some [],[])] (by kernel_rfl)<|mv_ ee<|mv_ ee ?_
   obtain ⟨h,n,a⟩:=bindE a
   refine qv (enc:=qf) n ee ee ee ee ee ee<|v_ (.d (.agg [i_ h.Lo,i_ h.Hi])) ee<|mv_ ee<|mv_ ee ?_
   obtain ⟨j,o,a⟩:=bindE a
   refine qv (enc:=qf) o ee ee ee ee ee ee<|v_ (.d (.agg [i_ j.Lo,i_ j.Hi])) ee<|v_ (.d (.bool (!((h.Lo == j.Lo) && ((h.Hi == j.Hi) && true))))) ee<|q6 ?_
   refine qb ee a (fun _ a=>?_) (fun _ a=>?_)
   ·refine q7<|q0<|as_ ee<|q6<|qj ?_
    refine ⟨_,(Option.some.inj a).symm,fun hm=>?_⟩
    subst hm
    obtain rfl:=someE b
    exact finD (.inr ee) (v:=(db_ false)) ee ee (.refl _)
   refine qd<|qc<|qr<|q0<|mv_ ee<|v_ (.d (i_ (w64 (g + 1)))) ee<|as_ ee<|q6<|qc ?_
   exact ⟨_,(Option.some.inj a).symm,wkA [] [] []⟩
  refine qm ?_
  refine ⟨_,(Option.some.inj a).symm,fun hm=>?_⟩
  subst hm
  exact ⟨_,ee,wkA [] [] []⟩
 intro k hb
 subst hb
 refine q7<|q0<|as_ ee<|q6<|qj ?_
 obtain rfl:=someE b
 exact finD (.inr ee) (v:=(db_ true)) ee ee (.refl _)
theorem qbb (j : Int) (c : List api_Rect) (f : List api_Rect) (r : List api_Rect) (o : q4s j c f = some r) : Pure Tryz.prog tab 67 [i_ j,.sl 4 (c.map q9),.sl 4 (f.map q9)] (.sl 4 (r.map q9)):=by
 unfold q4s at o
 refine ql Tryz.func67 ee (by kernel_rfl) (by kernel_rfl) ee<|q7<|q0<|as_ ee<|q6<|q7<|q0<|mv_ ee<|mv_ ee ?_
 obtain ⟨k,h2,o⟩:=bindE o
 refine qu [.d (.sl 4 (c.map q9)),.d (.sl 4 (f.map q9))] (qrr c f k h2) ee ee ee (.inl ee)<|mv_ ee<|mv_ ee ?_
 obtain ⟨l,h4,o⟩:=bindE o
 refine qu [.d (.sl 4 (c.map q9)),.d (.sl 4 (f.map q9))] (qrs c f l h4) ee ee ee (.inl ee)<|as_ ee<|as_ ee<|q6<|q7<|q0<|as_ ee<|q6<|q7<|q0<|as_ ee<|q6<|q7<|q0<|as_ ee<|q6<|q7<|q7<|q0<|as_ ee<|q6 ?_
 obtain ⟨an,az,o⟩:=bindE o
 refine qk (fun aa=>aa = an) (fun (aa : List api_Rect)=>⟨[(9,.hs 0 4 0 aa.length)],[(0,.dat 4 (aa.map q9))],1⟩) (by simp) ?_ ?_
 ·refine qn (q5e k l c f j) (fun (a : List api_Span × Int × Int × List api_Rect)=>⟨[(0,di_ j),(1,.d (.sl 4 (c.map q9))),(2,.d (.sl 4 (f.map q9))),(7,.d (.sl 1 (k.map (eI .i64)))),(8,.d (.sl 1 (l.map (eI .i64)))),(9,.hs 0 4 0 a.2.2.2.length),(10,.d (.sl 2 (a.1.map qf))),(11,di_ a.2.1),(12,di_ a.2.2.1)],[(0,.dat 4 (a.2.2.2.map q9))],1⟩) ([],0,0,[]) an az (wkA [] [] [0]) ?_
  intro a bw p
  unfold q5e at p
  refine q7<|q7<|q0<|mv_ ee<|v_ (.d (i_ (w64 (a.2.2.1 + 1)))) ee<|mv_ ee<|q15 ee ee ee ee<|v_ (.d (.bool (decide ((w64 (a.2.2.1 + 1)) < (k.length : Int))))) ee<|q6 ?_
  refine qb ee p (fun _ p=>?_) (fun _ p=>?_)
  ·refine qd<|q7 ?_
   obtain ⟨ba,h,p⟩:=bindE p
   refine qk (fun u=>u = ba) (fun (u : List api_Span × Int × List api_Rect)=>⟨[(0,di_ j),(1,.d (.sl 4 (c.map q9))),(2,.d (.sl 4 (f.map q9))),(7,.d (.sl 1 (k.map (eI .i64)))),(8,.d (.sl 1 (l.map (eI .i64)))),(9,.hs 0 4 0 u.2.2.length),(10,.d (.sl 2 (u.1.map qf))),(11,di_ u.2.1),(12,di_ a.2.2.1)],[(0,.dat 4 (u.2.2.map q9))],1⟩) (by simp) ?_ ?_
   ·refine q7<|q0<|as_ ee<|q6<|q7<|q7<|q0<|as_ ee<|q6 ?_
    obtain ⟨ao,bb,h⟩:=bindE h
    refine qk (fun q=>q = ao) (fun (q : List Bool)=>⟨[(0,di_ j),(1,.d (.sl 4 (c.map q9))),(2,.d (.sl 4 (f.map q9))),(7,.d (.sl 1 (k.map (eI .i64)))),(8,.d (.sl 1 (l.map (eI .i64)))),(9,.hs 0 4 0 a.2.2.2.length),(10,.d (.sl 2 (a.1.map qf))),(11,di_ a.2.1),(12,di_ a.2.2.1),(13,.hs 1 1 0 q.length)],[(0,.dat 4 (a.2.2.2.map q9)),(1,.dat 1 (q.map eB))],2⟩) (by simp) ?_ ?_
    ·refine qn (q5x l k a c f j) (fun (w : Int × List Bool)=>⟨[(0,di_ j),(1,.d (.sl 4 (c.map q9))),(2,.d (.sl 4 (f.map q9))),(7,.d (.sl 1 (k.map (eI .i64)))),(8,.d (.sl 1 (l.map (eI .i64)))),(9,.hs 0 4 0 a.2.2.2.length),(10,.d (.sl 2 (a.1.map qf))),(11,di_ a.2.1),(12,di_ a.2.2.1),(13,.hs 1 1 0 w.2.length),(14,di_ w.1)],[(0,.dat 4 (a.2.2.2.map q9)),(1,.dat 1 (w.2.map eB))],2⟩) (0,[]) ao bb (wkA [(0,0)] [] [1]) ?_
     intro w bx b
     unfold q5x at b
     refine q7<|q7<|q0<|mv_ ee<|mv_ ee<|q15 ee ee ee ee<|v_ (.d (.bool (decide (w.1 < (l.length : Int))))) ee<|q6 ?_
     refine qb ee b (fun _ b=>?_) (fun _ b=>?_)
     ·refine qd<|q7<|qh<|qg [(some [],[]),(some [1,2],[1,3]),(some [],[2]),(some [],[]),(some [],[]),(some [],[]),(some [],[]),(some [],[]),(some [],[]),(some [],[]),(some [],[]),(some [],[]),(some [],[]),(some [],[]),(some [],[]),(some [],[]),(some [],[]),(some [],[]),(some [],[]),(some [],[]),(some [],[]),(some [],[]),(some [],[]),(some [],[]),(some [],[]),(some [],[])] (by kernel_rfl)<|mv_ ee<|mv_ ee<|mv_ ee<|mv_ ee<|mv_ ee ?_
      obtain ⟨af,bc,b⟩:=bindE b
      refine qv (enc:=(eI .i64)) bc ee ee ee ee ee ee<|v_ (di_ af) ee<|mv_ ee<|mv_ ee ?_
      obtain ⟨ag,bd,b⟩:=bindE b
      refine qv (enc:=(eI .i64)) bd ee ee ee ee ee ee<|v_ (di_ ag) ee ?_
      obtain ⟨ah,be,b⟩:=bindE b
      refine qu [.d (.sl 4 (c.map q9)),di_ af,di_ ag] (qja c af ag ah be) ee ee ee (.inl ee)<|mv_ ee<|mv_ ee<|mv_ ee ?_
      obtain ⟨ai,bf,b⟩:=bindE b
      refine qv (enc:=(eI .i64)) bf ee ee ee ee ee ee<|v_ (di_ ai) ee<|mv_ ee<|mv_ ee ?_
      obtain ⟨aj,bg,b⟩:=bindE b
      refine qv (enc:=(eI .i64)) bg ee ee ee ee ee ee<|v_ (di_ aj) ee ?_
      obtain ⟨ak,bh,b⟩:=bindE b
      refine qu [.d (.sl 4 (f.map q9)),di_ ai,di_ aj] (qja f ai aj ak bh) ee ee ee (.inl ee) ?_
      obtain ⟨ad,bi,b⟩:=bindE b
      refine qu [di_ j,db_ ah,db_ ak] (qnp j ah ak ad bi) ee ee ee (.inl ee)<|q3s (.hs 2 1 0 [ad].length) (.dat 1 ([ad].map eB)) ee ?_
      obtain ⟨bz,bj,b⟩:=bindE b
      refine q5l (xs:=w.2) (ys:=[ad]) (enc:=eB) (.hs 2 1 0 [ad].length) bj ee ee ee ee ee ee ee (q4a ee ee) ee ee ee ee<|as_ ee<|q6<|qc<|qr<|q0<|mv_ ee<|v_ (.d (i_ (w64 (w.1 + 1)))) ee<|as_ ee<|q6<|qc ?_
      exact ⟨_,(Option.some.inj b).symm,wkA [(0,0),(1,3)] [] []⟩
     refine qm ?_
     refine ⟨_,(Option.some.inj b).symm,fun hm=>?_⟩
     subst hm
     exact ⟨_,ee,wkA [(0,0),(1,1)] [] []⟩
    intro q hb
    subst hb
    refine q7 ?_
    refine q7c (st':=⟨[(0,di_ j),(1,.d (.sl 4 (c.map q9))),(2,.d (.sl 4 (f.map q9))),(7,.d (.sl 1 (k.map (eI .i64)))),(8,.d (.sl 1 (l.map (eI .i64)))),(9,.hs 0 4 0 a.2.2.2.length),(10,.d (.sl 2 (a.1.map qf))),(11,di_ a.2.1),(12,di_ a.2.2.1),(13,.d (.sl 1 (q.map eB)))],[(0,.dat 4 (a.2.2.2.map q9))],1⟩) (wkA [(0,0)] [1] []) ?_ (by simp)
    refine q0<|mv_ ee<|mv_ ee ?_
    obtain ⟨x,bk,h⟩:=bindE h
    refine qu [.d (.sl 1 (l.map (eI .i64))),.d (.sl 1 (q.map eB))] (qnq l q x bk) ee ee ee (.inl ee)<|as_ ee<|q6<|q7<|q7<|q0<|mv_ ee<|v_ (.d (.bool (decide (a.2.2.1 > 0)))) ee ?_
    obtain ⟨bl,y,h⟩:=bindE h
    refine qo 5 (fun A st=>∃ (ap aq ar as : V),st = A [(71,db_ bl),(70,as),(69,ar),(68,aq),(67,ap)]) ?_ ?_
    ·refine qs ee ee y (fun y=>?_) (fun y=>?_)
     ·refine mv_ ee<|mv_ ee ?_
      obtain ⟨au,bm,y⟩:=bindE y
      refine qu [.d (.sl 2 (x.map qf)),.d (.sl 2 (a.1.map qf))] (qon x a.1 au bm) ee ee ee (.inl ee)<|v_ (db_ au) ee<|q6 ?_
      obtain rfl:=someE y
      exact ⟨_,_,_,_,ee⟩
     refine q8 ee<|q8 ee<|q8 ee<|v_ (db_ false) ee<|q6 ?_
     obtain rfl:=someE y
     exact ⟨_,_,_,_,ee⟩
    rintro _ ⟨ap,aq,ar,as,rfl⟩
    refine q6 ?_
    refine qb ee h (fun _ h=>?_) (fun _ h=>?_)
    ·refine q7<|q7<|q0<|mv_ ee<|as_ ee<|q6 ?_
     obtain ⟨av,bn,h⟩:=bindE h
     refine qk (fun ae=>ae = av) (fun (ae : List api_Rect)=>⟨[(0,di_ j),(1,.d (.sl 4 (c.map q9))),(2,.d (.sl 4 (f.map q9))),(7,.d (.sl 1 (k.map (eI .i64)))),(8,.d (.sl 1 (l.map (eI .i64)))),(9,.hs 0 4 0 ae.length),(10,.d (.sl 2 (a.1.map qf))),(11,di_ a.2.1),(12,di_ a.2.2.1)],[(0,.dat 4 (ae.map q9))],1⟩) (by simp) ?_ ?_
     ·refine qn (q5y k a) (fun (n : Int × List api_Rect)=>⟨[(0,di_ j),(1,.d (.sl 4 (c.map q9))),(2,.d (.sl 4 (f.map q9))),(7,.d (.sl 1 (k.map (eI .i64)))),(8,.d (.sl 1 (l.map (eI .i64)))),(9,.hs 0 4 0 n.2.length),(10,.d (.sl 2 (a.1.map qf))),(11,di_ a.2.1),(12,di_ a.2.2.1),(16,di_ n.1)],[(0,.dat 4 (n.2.map q9))],1⟩) (a.2.1,a.2.2.2) av bn (wkA [(0,0)] [] []) ?_
      intro n ca m
      unfold q5y at m
      refine q7<|q7<|q0<|mv_ ee<|mv_ ee<|v_ (di_ (n.2.length : Int)) ee<|v_ (.d (.bool (decide (n.1 < (n.2.length : Int))))) ee<|q6 ?_
      refine qb ee m (fun _ m=>?_) (fun _ m=>?_)
      ·refine qd<|q7<|qh<|q0<|mv_ ee<|mv_ ee<|mv_ ee<|mv_ ee<|v_ (.d (i_ (w64 (a.2.2.1 + 1)))) ee ?_
       obtain ⟨al,bo,m⟩:=bindE m
       refine qv (enc:=(eI .i64)) bo ee ee ee ee ee ee<|v_ (di_ al) ee ?_
       obtain ⟨am,aw,m⟩:=bindE m
       refine qi aw ee ee ee ee ee ee ee<|v_ (.ref 0 4 n.1.toNat 2) ee<|q12 (ds:=[i_ al]) ({X0:=am.X0,Y0:=am.Y0,X1:=al,Y1:=am.Y1} : api_Rect) aw ee ee ee ee ee ee ee ee (leb ee) ee<|q6<|qc<|qr<|q0<|mv_ ee<|v_ (.d (i_ (w64 (n.1 + 1)))) ee<|as_ ee<|q6<|qc ?_
       exact ⟨_,(Option.some.inj m).symm,wkE [(0,0)] [] [] ee ⟨⟨_,ee,.d (.refl _)⟩,⟨_,ee,.d (.refl _)⟩,⟨_,ee,.d (.refl _)⟩,⟨_,ee,.d (.refl _)⟩,⟨_,ee,.d (.refl _)⟩,⟨_,ee,q10 (by simp) ee (by decide) (ltd ee)⟩,⟨_,ee,.d (.refl _)⟩,⟨_,ee,.d (.refl _)⟩,⟨_,ee,.d (.refl _)⟩,⟨_,ee,.d (.refl _)⟩,trivial⟩ ⟨⟨ltd ee,.inr ⟨by decide,_,ee,.dat _ _⟩⟩,trivial⟩⟩
      refine qm ?_
      refine ⟨_,(Option.some.inj m).symm,fun hm=>?_⟩
      subst hm
      exact ⟨_,ee,wkA [(0,0)] [] []⟩
     intro ae hb
     subst hb
     refine qm ?_
     obtain rfl:=someE h
     exact ⟨_,ee,wkA [(0,0)] [] []⟩
    refine qd<|q7<|q0<|mv_ ee<|v_ (di_ (a.2.2.2.length : Int)) ee<|mv_ ee<|as_ ee<|as_ ee<|q6<|q7<|q0<|as_ ee<|q6 ?_
    obtain ⟨bp,bq,h⟩:=bindE h
    refine qh<|qn (q6k x k a) (fun (z : Int × List api_Rect)=>⟨[(0,di_ j),(1,.d (.sl 4 (c.map q9))),(2,.d (.sl 4 (f.map q9))),(7,.d (.sl 1 (k.map (eI .i64)))),(8,.d (.sl 1 (l.map (eI .i64)))),(9,.hs 0 4 0 z.2.length),(10,.d (.sl 2 (x.map qf))),(11,di_ (a.2.2.2.length : Int)),(12,di_ a.2.2.1),(15,.d (.sl 2 (x.map qf))),(17,di_ z.1)],[(0,.dat 4 (z.2.map q9))],1⟩) (0,a.2.2.2) bp bq (wkA [(0,0)] [] []) ?_
    intro z cb g
    unfold q6k at g
    refine q7<|q7<|q0<|mv_ ee<|mv_ ee<|q15 ee ee ee ee<|v_ (.d (.bool (decide (z.1 < (x.length : Int))))) ee<|q6 ?_
    refine qb ee g (fun _ g=>?_) (fun _ g=>?_)
    ·refine qd<|q7<|qh<|qg [(some [],[]),(some [0,1],[0,2]),(some [],[1]),(some [],[]),(some [],[]),(some [],[]),(some [],[]),(some [],[]),(some [],[]),(some [],[]),(some [],[]),(some [],[]),(some [],[]),(some [],[]),(some [],[]),(some [],[]),(some [],[]),(some [],[]),(some [],[]),(some [],[]),(some [],[]),(some [],[]),(some [],[]),(some [],[])] (by kernel_rfl)<|mv_ ee<|mv_ ee<|mv_ ee ?_
     obtain ⟨ab,br,g⟩:=bindE g
     refine qv (enc:=(eI .i64)) br ee ee ee ee ee ee<|v_ (di_ ab) ee<|mv_ ee<|mv_ ee ?_
     obtain ⟨s,bs,g⟩:=bindE g
     refine qv (enc:=qf) bs ee ee ee ee ee ee<|v_ (.dref [i_ s.Lo,i_ s.Hi] 0) ee<|v_ (di_ s.Lo) ee<|mv_ ee<|mv_ ee<|v_ (.d (i_ (w64 (a.2.2.1 + 1)))) ee ?_
     obtain ⟨ac,bt,g⟩:=bindE g
     refine qv (enc:=(eI .i64)) bt ee ee ee ee ee ee<|v_ (di_ ac) ee<|mv_ ee<|mv_ ee ?_
     obtain ⟨t,bu,g⟩:=bindE g
     refine qv (enc:=qf) bu ee ee ee ee ee ee<|v_ (.dref [i_ t.Lo,i_ t.Hi] 1) ee<|v_ (di_ t.Hi) ee<|v_ (.d (.agg [i_ ab,i_ s.Lo,i_ ac,i_ t.Hi])) ee<|q3s (.hs 1 4 0 [({X0:=ab,Y0:=s.Lo,X1:=ac,Y1:=t.Hi} : api_Rect)].length) (.dat 4 ([({X0:=ab,Y0:=s.Lo,X1:=ac,Y1:=t.Hi} : api_Rect)].map q9)) ee ?_
     obtain ⟨cc,bv,g⟩:=bindE g
     refine q5l (xs:=z.2) (ys:=[({X0:=ab,Y0:=s.Lo,X1:=ac,Y1:=t.Hi} : api_Rect)]) (enc:=q9) (.hs 1 4 0 [({X0:=ab,Y0:=s.Lo,X1:=ac,Y1:=t.Hi} : api_Rect)].length) bv ee ee ee ee ee ee ee (q4a ee ee) ee ee ee ee<|as_ ee<|q6<|qc<|qr<|q0<|mv_ ee<|v_ (.d (i_ (w64 (z.1 + 1)))) ee<|as_ ee<|q6<|qc ?_
     exact ⟨_,(Option.some.inj g).symm,wkA [(0,2)] [] []⟩
    refine qm ?_
    refine ⟨_,(Option.some.inj g).symm,fun hm=>?_⟩
    subst hm
    obtain rfl:=someE h
    exact ⟨_,ee,wkA [(0,0)] [] []⟩
   intro u hb
   subst hb
   refine q0<|mv_ ee<|v_ (.d (i_ (w64 (a.2.2.1 + 1)))) ee<|as_ ee<|q6<|qc ?_
   exact ⟨_,(Option.some.inj p).symm,wkA [(0,0)] [] []⟩
  refine qm ?_
  refine ⟨_,(Option.some.inj p).symm,fun hm=>?_⟩
  subst hm
  exact ⟨_,ee,wkA [(0,0)] [] []⟩
 intro aa hb
 subst hb
 refine q7<|q0<|mv_ ee<|as_ ee<|q6<|qj ?_
 obtain rfl:=someE o
 exact finD (.inr ee) (v:=.hs 0 4 0 aa.length) ee (qa1 ee ee) (.refl _)
theorem qib (g : List api_Rect) (h : List api_Rect) (r : Bool) (b : q6l g h = some r) : Pure Tryz.prog tab 36 [.sl 4 (g.map q9),.sl 4 (h.map q9)] (.bool r):=by
 unfold q6l at b
 refine ql Tryz.func36 ee (by kernel_rfl) (by kernel_rfl) ee<|q7<|q0<|as_ ee<|q6<|q7<|q7<|q0<|mv_ ee<|q15 ee ee ee ee<|mv_ ee<|q15 ee ee ee ee<|v_ (.d (.bool ((g.length : Int) != (h.length : Int)))) ee<|q6 ?_
 refine qb ee b (fun _ b=>?_) (fun _ b=>?_)
 ·refine q7<|q0<|as_ ee<|q6<|qj ?_
  obtain rfl:=someE b
  exact finD (.inr ee) (v:=(db_ false)) ee ee (.refl _)
 refine qd<|q7<|q7<|q0<|as_ ee<|q6 ?_
 obtain ⟨l,m,b⟩:=bindE b
 refine qk (fun k=>.inl k = l) (fun (k : Unit)=>⟨[],[],0⟩) (by simp) ?_ ?_
 ·refine qn (q7d g h) (fun (j : Int)=>⟨[(0,.d (.sl 4 (g.map q9))),(1,.d (.sl 4 (h.map q9))),(5,di_ j)],[],0⟩) 0 l m (wkA [] [] []) ?_
  intro j p a
  unfold q7d at a
  refine q7<|q7<|q0<|mv_ ee<|mv_ ee<|q15 ee ee ee ee<|v_ (.d (.bool (decide (j < (g.length : Int))))) ee<|q6 ?_
  refine qb ee a (fun _ a=>?_) (fun _ a=>?_)
  ·refine qd<|q7<|qh<|q7<|qg [(some [],[]),(some [],[]),(some [],[]),(some [],[]),(some [],[]),(some [],[]),(some [],[]),(some [],[]),(some [],[])] (by kernel_rfl)<|mv_ ee<|mv_ ee ?_
   obtain ⟨c,n,a⟩:=bindE a
   refine qv (enc:=q9) n ee ee ee ee ee ee<|v_ (.d (.agg [i_ c.X0,i_ c.Y0,i_ c.X1,i_ c.Y1])) ee<|mv_ ee<|mv_ ee ?_
   obtain ⟨f,o,a⟩:=bindE a
   refine qv (enc:=q9) o ee ee ee ee ee ee<|v_ (.d (.agg [i_ f.X0,i_ f.Y0,i_ f.X1,i_ f.Y1])) ee<|v_ (.d (.bool (!((c.X0 == f.X0) && ((c.Y0 == f.Y0) && ((c.X1 == f.X1) && ((c.Y1 == f.Y1) && true))))))) ee<|q6 ?_
   refine qb ee a (fun _ a=>?_) (fun _ a=>?_)
   ·refine q7<|q0<|as_ ee<|q6<|qj ?_
    refine ⟨_,(Option.some.inj a).symm,fun hm=>?_⟩
    subst hm
    obtain rfl:=someE b
    exact finD (.inr ee) (v:=(db_ false)) ee ee (.refl _)
   refine qd<|qc<|qr<|q0<|mv_ ee<|v_ (.d (i_ (w64 (j + 1)))) ee<|as_ ee<|q6<|qc ?_
   exact ⟨_,(Option.some.inj a).symm,wkA [] [] []⟩
  refine qm ?_
  refine ⟨_,(Option.some.inj a).symm,fun hm=>?_⟩
  subst hm
  exact ⟨_,ee,wkA [] [] []⟩
 intro k hb
 subst hb
 refine q7<|q0<|as_ ee<|q6<|qj ?_
 obtain rfl:=someE b
 exact finD (.inr ee) (v:=(db_ true)) ee ee (.refl _)
theorem qe9 (o : Int) (f : List api_Box) (g : List api_Box) (r : List api_Box × Bool) (x : q6r o f g = some r) : Pure Tryz.prog tab 55 [i_ o,.sl 6 (f.map qa),.sl 6 (g.map qa)] (.tup [.sl 6 (r.1.map qa),.bool r.2]):=by
 unfold q6r at x
 refine ql Tryz.func55 ee (by kernel_rfl) (by kernel_rfl) ee<|q7<|q0<|as_ ee<|as_ ee<|q6<|q7<|q0<|mv_ ee<|mv_ ee ?_
 obtain ⟨p,h2,x⟩:=bindE x
 refine qu [.d (.sl 6 (f.map qa)),.d (.sl 6 (g.map qa))] (qom f g p h2) ee ee ee (.inl ee)<|as_ ee<|q6<|q7<|q0<|as_ ee<|q6<|q7<|q0<|as_ ee<|q6<|q7<|q0<|as_ ee<|q6<|q7<|q7<|q0<|as_ ee<|q6 ?_
 obtain ⟨aq,bu,x⟩:=bindE x
 refine qk (fun t=>.inl t = aq) (fun (t : List api_Box)=>⟨[(9,.hs 0 6 0 t.length)],[(0,.dat 6 (t.map qa))],1⟩) (by simp) ?_ ?_
 ·refine qn (q4z p f g o) (fun (a : List api_Rect × Int × Int × List api_Box)=>⟨[(0,di_ o),(1,.d (.sl 6 (f.map qa))),(2,.d (.sl 6 (g.map qa))),(8,.d (.sl 1 (p.map (eI .i64)))),(9,.hs 0 6 0 a.2.2.2.length),(10,.d (.sl 4 (a.1.map q9))),(11,di_ a.2.1),(12,di_ a.2.2.1)],[(0,.dat 6 (a.2.2.2.map qa))],1⟩) ([],0,0,[]) aq bu (wkA [] [] [0]) ?_
  intro a cx u
  unfold q4z at u
  refine q7<|q7<|q0<|mv_ ee<|v_ (.d (i_ (w64 (a.2.2.1 + 1)))) ee<|mv_ ee<|q15 ee ee ee ee<|v_ (.d (.bool (decide ((w64 (a.2.2.1 + 1)) < (p.length : Int))))) ee<|q6 ?_
  refine qb ee u (fun _ u=>?_) (fun _ u=>?_)
  ·refine qd<|q7 ?_
   obtain ⟨bv,b,u⟩:=bindE u
   refine qk (fun y=>.inl y = bv) (fun (y : List api_Rect × Int × List api_Box)=>⟨[(0,di_ o),(1,.d (.sl 6 (f.map qa))),(2,.d (.sl 6 (g.map qa))),(8,.d (.sl 1 (p.map (eI .i64)))),(9,.hs 0 6 0 y.2.2.length),(10,.d (.sl 4 (y.1.map q9))),(11,di_ y.2.1),(12,di_ a.2.2.1)],[(0,.dat 6 (y.2.2.map qa))],1⟩) (by simp) ?_ ?_
   ·refine q7<|qg [(some [],[]),(some [],[]),(some [],[]),(some [],[]),(some [],[]),(some [],[]),(some [],[]),(some [],[]),(some [],[]),(some [],[]),(some [],[]),(some [],[]),(some [],[]),(some [],[]),(some [],[])] (by kernel_rfl)<|mv_ ee<|mv_ ee<|mv_ ee<|mv_ ee ?_
    obtain ⟨ae,bw,b⟩:=bindE b
    refine qv (enc:=(eI .i64)) bw ee ee ee ee ee ee<|v_ (di_ ae) ee ?_
    obtain ⟨af,bx,b⟩:=bindE b
    refine qu [.d (.sl 6 (f.map qa)),di_ ae] (qcg f ae af bx) ee ee ee (.inl ee)<|mv_ ee<|mv_ ee<|mv_ ee ?_
    obtain ⟨ag,bz,b⟩:=bindE b
    refine qv (enc:=(eI .i64)) bz ee ee ee ee ee ee<|v_ (di_ ag) ee ?_
    obtain ⟨ah,ca,b⟩:=bindE b
    refine qu [.d (.sl 6 (g.map qa)),di_ ag] (qcg g ag ah ca) ee ee ee (.inl ee) ?_
    obtain ⟨w,cb,b⟩:=bindE b
    refine qu [di_ o,.d (.sl 4 (af.map q9)),.d (.sl 4 (ah.map q9))] (qbb o af ah w cb) ee ee ee (.inl ee)<|as_ ee<|q6<|q7<|q7<|q0<|mv_ ee<|q15 ee ee ee ee<|v_ (.d (.bool (decide ((w.length : Int) > 400)))) ee ?_
    obtain ⟨cc,h,b⟩:=bindE b
    refine qo 11 (fun A st=>∃ (ar as au av aw ax ay az ba bb : V),st = A [(53,db_ cc),(52,bb),(51,ba),(50,az),(49,ay),(48,ax),(47,aw),(46,av),(45,au),(44,as),(43,ar)]) ?_ ?_
    ·refine qs ee ee h (fun h=>?_) (fun h=>?_)
     ·refine q8 ee<|q8 ee<|q8 ee<|q8 ee<|q8 ee<|q8 ee<|q8 ee<|q8 ee<|q8 ee<|v_ (db_ true) ee<|q6 ?_
      obtain rfl:=someE h
      exact ⟨_,_,_,_,_,_,_,_,_,_,ee⟩
     refine mv_ ee<|mv_ ee<|mv_ ee ?_
     obtain ⟨ai,cd,h⟩:=bindE h
     refine qv (enc:=(eI .i64)) cd ee ee ee ee ee ee<|v_ (di_ ai) ee ?_
     obtain ⟨aj,ce,h⟩:=bindE h
     refine qu [.d (.sl 6 (f.map qa)),di_ ai] (qcg f ai aj ce) ee ee ee (.inl ee) ?_
     obtain ⟨ak,cf,h⟩:=bindE h
     refine qu [di_ 2,.d (.sl 4 (aj.map q9)),.d (.nilsl)] (qbm (.cons (.refl _) (.cons (.refl _) (.cons (.nil _) .nil))) (qbb 2 aj [] ak cf)) ee ee ee (.inl ee)<|q15 ee ee ee ee<|v_ (.d (.bool (decide ((ak.length : Int) > 400)))) ee<|v_ (.d (.bool (decide ((ak.length : Int) > 400)))) ee<|q6 ?_
     obtain rfl:=someE h
     exact ⟨_,_,_,_,_,_,_,_,_,_,ee⟩
    rintro _ ⟨ar,as,au,av,aw,ax,ay,az,ba,bb,rfl⟩
    obtain ⟨cg,j,b⟩:=bindE b
    refine qo 11 (fun A st=>∃ (bc bd be bf bg bh bi bj bk bl : V),st = A [(64,db_ cg),(63,bl),(62,bk),(61,bj),(60,bi),(59,bh),(58,bg),(57,bf),(56,be),(55,bd),(54,bc)]) ?_ ?_
    ·refine qs ee ee j (fun j=>?_) (fun j=>?_)
     ·refine q8 ee<|q8 ee<|q8 ee<|q8 ee<|q8 ee<|q8 ee<|q8 ee<|q8 ee<|q8 ee<|v_ (db_ true) ee<|q6 ?_
      obtain rfl:=someE j
      exact ⟨_,_,_,_,_,_,_,_,_,_,ee⟩
     refine mv_ ee<|mv_ ee<|mv_ ee ?_
     obtain ⟨al,ch,j⟩:=bindE j
     refine qv (enc:=(eI .i64)) ch ee ee ee ee ee ee<|v_ (di_ al) ee ?_
     obtain ⟨am,ci,j⟩:=bindE j
     refine qu [.d (.sl 6 (g.map qa)),di_ al] (qcg g al am ci) ee ee ee (.inl ee) ?_
     obtain ⟨an,cj,j⟩:=bindE j
     refine qu [di_ 2,.d (.sl 4 (am.map q9)),.d (.nilsl)] (qbm (.cons (.refl _) (.cons (.refl _) (.cons (.nil _) .nil))) (qbb 2 am [] an cj)) ee ee ee (.inl ee)<|q15 ee ee ee ee<|v_ (.d (.bool (decide ((an.length : Int) > 400)))) ee<|v_ (.d (.bool (decide ((an.length : Int) > 400)))) ee<|q6 ?_
     obtain rfl:=someE j
     exact ⟨_,_,_,_,_,_,_,_,_,_,ee⟩
    rintro _ ⟨bc,bd,be,bf,bg,bh,bi,bj,bk,bl,rfl⟩
    refine q6 ?_
    refine qb ee b (fun _ b=>?_) (fun _ b=>?_)
    ·refine q7<|q0<|as_ ee<|as_ ee<|q6<|qj ?_
     obtain rfl:=someE b
     refine ⟨_,(Option.some.inj u).symm,fun hm=>?_⟩
     subst hm
     obtain rfl:=someE x
     exact finD (.inr ee) (v:=.d (.tup [.nilsl,.bool false])) ee ee (q6j (.cons (.nil _) (.cons (.refl _) .nil)))
    refine qd<|q7<|q7<|q0<|mv_ ee<|v_ (.d (.bool (decide (a.2.2.1 > 0)))) ee ?_
    obtain ⟨ck,z,b⟩:=bindE b
    refine qo 5 (fun A st=>∃ (bm bn bo bp : V),st = A [(71,db_ ck),(70,bp),(69,bo),(68,bn),(67,bm)]) ?_ ?_
    ·refine qs ee ee z (fun z=>?_) (fun z=>?_)
     ·refine mv_ ee<|mv_ ee ?_
      obtain ⟨bq,cl,z⟩:=bindE z
      refine qu [.d (.sl 4 (w.map q9)),.d (.sl 4 (a.1.map q9))] (qib w a.1 bq cl) ee ee ee (.inl ee)<|v_ (db_ bq) ee<|q6 ?_
      obtain rfl:=someE z
      exact ⟨_,_,_,_,ee⟩
     refine q8 ee<|q8 ee<|q8 ee<|v_ (db_ false) ee<|q6 ?_
     obtain rfl:=someE z
     exact ⟨_,_,_,_,ee⟩
    rintro _ ⟨bm,bn,bo,bp,rfl⟩
    refine q6 ?_
    refine qb ee b (fun _ b=>?_) (fun _ b=>?_)
    ·refine q7<|q7<|q0<|mv_ ee<|as_ ee<|q6 ?_
     obtain ⟨br,cm,b⟩:=bindE b
     refine qk (fun ad=>ad = br) (fun (ad : List api_Box)=>⟨[(0,di_ o),(1,.d (.sl 6 (f.map qa))),(2,.d (.sl 6 (g.map qa))),(8,.d (.sl 1 (p.map (eI .i64)))),(9,.hs 0 6 0 ad.length),(10,.d (.sl 4 (a.1.map q9))),(11,di_ a.2.1),(12,di_ a.2.2.1)],[(0,.dat 6 (ad.map qa))],1⟩) (by simp) ?_ ?_
     ·refine qn (q5z p a) (fun (q : Int × List api_Box)=>⟨[(0,di_ o),(1,.d (.sl 6 (f.map qa))),(2,.d (.sl 6 (g.map qa))),(8,.d (.sl 1 (p.map (eI .i64)))),(9,.hs 0 6 0 q.2.length),(10,.d (.sl 4 (a.1.map q9))),(11,di_ a.2.1),(12,di_ a.2.2.1),(14,di_ q.1)],[(0,.dat 6 (q.2.map qa))],1⟩) (a.2.1,a.2.2.2) br cm (wkA [(0,0)] [] []) ?_
      intro q cy s
      unfold q5z at s
      refine q7<|q7<|q0<|mv_ ee<|mv_ ee<|v_ (di_ (q.2.length : Int)) ee<|v_ (.d (.bool (decide (q.1 < (q.2.length : Int))))) ee<|q6 ?_
      refine qb ee s (fun _ s=>?_) (fun _ s=>?_)
      ·refine qd<|q7<|qh<|q0<|mv_ ee<|mv_ ee<|mv_ ee<|mv_ ee<|v_ (.d (i_ (w64 (a.2.2.1 + 1)))) ee ?_
       obtain ⟨ao,cn,s⟩:=bindE s
       refine qv (enc:=(eI .i64)) cn ee ee ee ee ee ee<|v_ (di_ ao) ee ?_
       obtain ⟨ap,bs,s⟩:=bindE s
       refine qi bs ee ee ee ee ee ee ee<|v_ (.ref 0 6 q.1.toNat 3) ee<|v_ (.ref 0 6 q.1.toNat 5) ee<|q12 (ds:=[i_ ao]) ({Lo:=ap.Lo,Hi:=({X:=ap.Hi.X,Y:=ap.Hi.Y,Z:=ao} : qz)} : api_Box) bs ee ee ee ee ee ee ee ee (leb ee) ee<|q6<|qc<|qr<|q0<|mv_ ee<|v_ (.d (i_ (w64 (q.1 + 1)))) ee<|as_ ee<|q6<|qc ?_
       exact ⟨_,(Option.some.inj s).symm,wkE [(0,0)] [] [] ee ⟨⟨_,ee,.d (.refl _)⟩,⟨_,ee,.d (.refl _)⟩,⟨_,ee,.d (.refl _)⟩,⟨_,ee,.d (.refl _)⟩,⟨_,ee,q10 (by simp) ee (by decide) (ltd ee)⟩,⟨_,ee,.d (.refl _)⟩,⟨_,ee,.d (.refl _)⟩,⟨_,ee,.d (.refl _)⟩,⟨_,ee,.d (.refl _)⟩,trivial⟩ ⟨⟨ltd ee,.inr ⟨by decide,_,ee,.dat _ _⟩⟩,trivial⟩⟩
      refine qm ?_
      refine ⟨_,(Option.some.inj s).symm,fun hm=>?_⟩
      subst hm
      exact ⟨_,ee,wkA [(0,0)] [] []⟩
     intro ad hb
     subst hb
     refine qm ?_
     obtain rfl:=someE b
     exact ⟨_,ee,wkA [(0,0)] [] []⟩
    refine qd<|q7<|q0<|mv_ ee<|v_ (di_ (a.2.2.2.length : Int)) ee<|mv_ ee<|as_ ee<|as_ ee<|q6<|q7<|q0<|as_ ee<|q6 ?_
    obtain ⟨co,cp,b⟩:=bindE b
    refine qh<|qn (q6m w p a) (fun (aa : Int × List api_Box)=>⟨[(0,di_ o),(1,.d (.sl 6 (f.map qa))),(2,.d (.sl 6 (g.map qa))),(8,.d (.sl 1 (p.map (eI .i64)))),(9,.hs 0 6 0 aa.2.length),(10,.d (.sl 4 (w.map q9))),(11,di_ (a.2.2.2.length : Int)),(12,di_ a.2.2.1),(13,.d (.sl 4 (w.map q9))),(15,di_ aa.1)],[(0,.dat 6 (aa.2.map qa))],1⟩) (0,a.2.2.2) co cp (wkA [(0,0)] [] []) ?_
    intro aa cz c
    unfold q6m at c
    refine q7<|q7<|q0<|mv_ ee<|mv_ ee<|q15 ee ee ee ee<|v_ (.d (.bool (decide (aa.1 < (w.length : Int))))) ee<|q6 ?_
    refine qb ee c (fun _ c=>?_) (fun _ c=>?_)
    ·refine qd<|q7<|qh<|qg [(some [],[]),(some [0,1],[0,2]),(some [],[1]),(some [],[]),(some [],[]),(some [],[]),(some [],[]),(some [],[]),(some [],[]),(some [],[]),(some [],[]),(some [],[]),(some [],[]),(some [],[]),(some [],[]),(some [],[]),(some [],[]),(some [],[]),(some [],[]),(some [],[]),(some [],[]),(some [],[]),(some [],[]),(some [],[]),(some [],[]),(some [],[]),(some [],[]),(some [],[]),(some [],[]),(some [],[]),(some [],[]),(some [],[]),(some [],[]),(some [],[]),(some [],[]),(some [],[])] (by kernel_rfl)<|mv_ ee<|mv_ ee<|mv_ ee ?_
     obtain ⟨k,cq,c⟩:=bindE c
     refine qv (enc:=q9) cq ee ee ee ee ee ee<|v_ (.dref [i_ k.X0,i_ k.Y0,i_ k.X1,i_ k.Y1] 0) ee<|v_ (di_ k.X0) ee<|mv_ ee<|mv_ ee ?_
     obtain ⟨l,cr,c⟩:=bindE c
     refine qv (enc:=q9) cr ee ee ee ee ee ee<|v_ (.dref [i_ l.X0,i_ l.Y0,i_ l.X1,i_ l.Y1] 1) ee<|v_ (di_ l.Y0) ee<|mv_ ee<|mv_ ee ?_
     obtain ⟨ab,cs,c⟩:=bindE c
     refine qv (enc:=(eI .i64)) cs ee ee ee ee ee ee<|v_ (di_ ab) ee<|v_ (.d (.agg [i_ k.X0,i_ l.Y0,i_ ab])) ee<|mv_ ee<|mv_ ee ?_
     obtain ⟨m,ct,c⟩:=bindE c
     refine qv (enc:=q9) ct ee ee ee ee ee ee<|v_ (.dref [i_ m.X0,i_ m.Y0,i_ m.X1,i_ m.Y1] 2) ee<|v_ (di_ m.X1) ee<|mv_ ee<|mv_ ee ?_
     obtain ⟨n,cu,c⟩:=bindE c
     refine qv (enc:=q9) cu ee ee ee ee ee ee<|v_ (.dref [i_ n.X0,i_ n.Y0,i_ n.X1,i_ n.Y1] 3) ee<|v_ (di_ n.Y1) ee<|mv_ ee<|mv_ ee<|v_ (.d (i_ (w64 (a.2.2.1 + 1)))) ee ?_
     obtain ⟨ac,cv,c⟩:=bindE c
     refine qv (enc:=(eI .i64)) cv ee ee ee ee ee ee<|v_ (di_ ac) ee<|v_ (.d (.agg [i_ m.X1,i_ n.Y1,i_ ac])) ee<|v_ (.d (.agg [i_ k.X0,i_ l.Y0,i_ ab,i_ m.X1,i_ n.Y1,i_ ac])) ee<|q3s (.hs 1 6 0 [({Lo:=({X:=k.X0,Y:=l.Y0,Z:=ab} : qz),Hi:=({X:=m.X1,Y:=n.Y1,Z:=ac} : qz)} : api_Box)].length) (.dat 6 ([({Lo:=({X:=k.X0,Y:=l.Y0,Z:=ab} : qz),Hi:=({X:=m.X1,Y:=n.Y1,Z:=ac} : qz)} : api_Box)].map qa)) ee ?_
     obtain ⟨da,cw,c⟩:=bindE c
     refine q5l (xs:=aa.2) (ys:=[({Lo:=({X:=k.X0,Y:=l.Y0,Z:=ab} : qz),Hi:=({X:=m.X1,Y:=n.Y1,Z:=ac} : qz)} : api_Box)]) (enc:=qa) (.hs 1 6 0 [({Lo:=({X:=k.X0,Y:=l.Y0,Z:=ab} : qz),Hi:=({X:=m.X1,Y:=n.Y1,Z:=ac} : qz)} : api_Box)].length) cw ee ee ee ee ee ee ee (q4a ee ee) ee ee ee ee<|as_ ee<|q6<|qc<|qr<|q0<|mv_ ee<|v_ (.d (i_ (w64 (aa.1 + 1)))) ee<|as_ ee<|q6<|qc ?_
     exact ⟨_,(Option.some.inj c).symm,wkA [(0,2)] [] []⟩
    refine qm ?_
    refine ⟨_,(Option.some.inj c).symm,fun hm=>?_⟩
    subst hm
    obtain rfl:=someE b
    exact ⟨_,ee,wkA [(0,0)] [] []⟩
   intro y hb
   subst hb
   refine q0<|mv_ ee<|v_ (.d (i_ (w64 (a.2.2.1 + 1)))) ee<|as_ ee<|q6<|qc ?_
   exact ⟨_,(Option.some.inj u).symm,wkA [(0,0)] [] []⟩
  refine qm ?_
  refine ⟨_,(Option.some.inj u).symm,fun hm=>?_⟩
  subst hm
  exact ⟨_,ee,wkA [(0,0)] [] []⟩
 intro t hb
 subst hb
 refine q7<|q0<|mv_ ee<|mv_ ee<|v_ (di_ (t.length : Int)) ee<|v_ (.d (.bool (decide ((t.length : Int)≤400)))) ee<|as_ ee<|as_ ee<|q6<|qj ?_
 obtain rfl:=someE x
 exact finD (.inr ee) (v:=.tup [.hs 0 6 0 t.length,.d (.bool (decide ((t.length : Int)≤400)))]) ee (qmg (qal (qa1 ee ee) (qal ee ee))) (.refl _)
theorem qoo (f : List api_Box) (r : List api_Box × Int) (a : qbv f = some r) : Pure Tryz.prog tab 15 [.sl 6 (f.map qa)] (.tup [.sl 6 (r.1.map qa),i_ r.2]):=by
 unfold qbv at a
 refine ql Tryz.func15 ee (by kernel_rfl) (by kernel_rfl) ee<|q7<|q0<|as_ ee<|as_ ee<|q6<|q7<|q7<|q0<|mv_ ee<|q15 ee ee ee ee<|v_ (.d (.bool (decide ((f.length : Int) > 400)))) ee<|q6 ?_
 refine qb ee a (fun _ a=>?_) (fun _ a=>?_)
 ·refine q7<|q0<|as_ ee<|as_ ee<|q6<|qj ?_
  obtain rfl:=someE a
  exact finD (.inr ee) (v:=.d (.tup [.nilsl,i_ 4])) ee ee (q6j (.cons (.nil _) (.cons (.refl _) .nil)))
 refine qd<|q7<|q7<|q0<|as_ ee<|q6 ?_
 obtain ⟨k,m,a⟩:=bindE a
 refine qk (fun j=>.inl j = k) (fun (j : Unit)=>⟨[(0,.d (.sl 6 (f.map qa)))],[],0⟩) (by simp) ?_ ?_
 ·refine qn (q7v f) (fun (h : Int)=>⟨[(0,.d (.sl 6 (f.map qa))),(4,di_ h)],[],0⟩) 0 k m (wkA [] [] []) ?_
  intro h q b
  unfold q7v at b
  refine q7<|q7<|q0<|mv_ ee<|mv_ ee<|q15 ee ee ee ee<|v_ (.d (.bool (decide (h < (f.length : Int))))) ee<|q6 ?_
  refine qb ee b (fun _ b=>?_) (fun _ b=>?_)
  ·refine qd<|q7<|qh<|q7<|q0<|mv_ ee<|mv_ ee ?_
   obtain ⟨c,n,b⟩:=bindE b
   refine qv (enc:=qa) n ee ee ee ee ee ee<|v_ (.d (.agg [i_ c.Lo.X,i_ c.Lo.Y,i_ c.Lo.Z,i_ c.Hi.X,i_ c.Hi.Y,i_ c.Hi.Z])) ee ?_
   obtain ⟨l,o,b⟩:=bindE b
   refine qu [.d (.agg [i_ c.Lo.X,i_ c.Lo.Y,i_ c.Lo.Z,i_ c.Hi.X,i_ c.Hi.Y,i_ c.Hi.Z])] (qfz c l o) ee ee ee (.inl ee)<|v_ (db_ (!l)) ee<|q6 ?_
   refine qb ee b (fun _ b=>?_) (fun _ b=>?_)
   ·refine q7<|q0<|as_ ee<|as_ ee<|q6<|qj ?_
    refine ⟨_,(Option.some.inj b).symm,fun hm=>?_⟩
    subst hm
    obtain rfl:=someE a
    exact finD (.inr ee) (v:=.d (.tup [.nilsl,i_ 8])) ee ee (q6j (.cons (.nil _) (.cons (.refl _) .nil)))
   refine qd<|qc<|qr<|q0<|mv_ ee<|v_ (.d (i_ (w64 (h + 1)))) ee<|as_ ee<|q6<|qc ?_
   exact ⟨_,(Option.some.inj b).symm,wkA [] [] []⟩
  refine qm ?_
  refine ⟨_,(Option.some.inj b).symm,fun hm=>?_⟩
  subst hm
  exact ⟨_,ee,wkA [] [] []⟩
 intro j hb
 subst hb
 refine q7<|q0<|mv_ ee ?_
 obtain ⟨g,p,a⟩:=bindE a
 refine qu [di_ 2,.d (.sl 6 (f.map qa)),.d (.nilsl)] (qbm (.cons (.refl _) (.cons (.refl _) (.cons (.nil _) .nil))) (qe9 2 f [] g p)) ee ee ee (.inl ee)<|mv_ ee<|v_ (.d (.sl 6 (g.1.map qa))) ee<|v_ (db_ g.2) ee<|as_ ee<|as_ ee<|q6<|q7<|q7<|q0<|mv_ ee<|v_ (db_ (!g.2)) ee<|q6 ?_
 refine qb ee a (fun _ a=>?_) (fun _ a=>?_)
 ·refine q7<|q0<|as_ ee<|as_ ee<|q6<|qj ?_
  obtain rfl:=someE a
  exact finD (.inr ee) (v:=.d (.tup [.nilsl,i_ 4])) ee ee (q6j (.cons (.nil _) (.cons (.refl _) .nil)))
 refine qd<|q7<|q0<|mv_ ee<|as_ ee<|as_ ee<|q6<|qj ?_
 obtain rfl:=someE a
 exact finD (.inr ee) (v:=.d (.tup [.sl 6 (g.1.map qa),i_ 0])) ee ee (.refl _)
theorem q8b (f : List api_Box) (j : api_Box→Option Bool) (p1F : FuncId) (p1C : List DV) (p1Ok : ∀ (c : api_Box) (r : Bool),j c = some r→Pure Tryz.prog tab p1F ([.agg [i_ c.Lo.X,i_ c.Lo.Y,i_ c.Lo.Z,i_ c.Hi.X,i_ c.Hi.Y,i_ c.Hi.Z]] ++ p1C) (.bool r)) (r : Int) (g : q3o f j = some r) : Pure Tryz.prog tab 86 [.sl 6 (f.map qa),.fn p1F p1C] (i_ r):=by
 unfold q3o at g
 refine ql Tryz.func86 ee (by kernel_rfl) (by kernel_rfl) ee<|q7<|q0<|as_ ee<|q6<|q7<|q7<|q0<|mv_ ee<|q15 ee ee ee ee<|mv_ ee<|q6 ?_
 obtain ⟨l,m,g⟩:=bindE g
 refine qk (fun k=>.inl k = l) (fun (k : Unit)=>⟨[],[],0⟩) (by simp) ?_ ?_
 ·refine qn (qw f j) (fun (h : Int)=>⟨[(0,.d (.sl 6 (f.map qa))),(1,.d (.fn p1F p1C)),(7,di_ (f.length : Int)),(8,di_ h)],[],0⟩) 0 l m (wkA [] [] []) ?_
  intro h q a
  unfold qw at a
  refine q7<|q0<|v_ (.d (.bool (decide (h < (f.length : Int))))) ee<|q6<|q7 ?_
  refine qb ee a (fun _ a=>?_) (fun _ a=>?_)
  ·refine qd<|q7<|qh<|q7<|q0<|mv_ ee<|as_ ee<|q6<|q7<|q0<|mv_ ee<|mv_ ee<|mv_ ee ?_
   obtain ⟨b,n,a⟩:=bindE a
   refine qv (enc:=qa) n ee ee ee ee ee ee<|v_ (.d (.agg [i_ b.Lo.X,i_ b.Lo.Y,i_ b.Lo.Z,i_ b.Hi.X,i_ b.Hi.Y,i_ b.Hi.Z])) ee ?_
   obtain ⟨o,p,a⟩:=bindE a
   refine q66 [.d (.agg [i_ b.Lo.X,i_ b.Lo.Y,i_ b.Lo.Z,i_ b.Hi.X,i_ b.Hi.Y,i_ b.Hi.Z])] (p1Ok b o p) ee ee ee (.inl ee)<|q6 ?_
   refine qb ee a (fun _ a=>?_) (fun _ a=>?_)
   ·refine q7<|q0<|mv_ ee<|as_ ee<|q6<|qj ?_
    refine ⟨_,(Option.some.inj a).symm,fun hm=>?_⟩
    subst hm
    obtain rfl:=someE g
    exact finD (.inr ee) (v:=(di_ h)) ee ee (.refl _)
   refine qd<|qc<|qr<|q0<|v_ (.d (i_ (w64 (h + 1)))) ee<|mv_ ee<|q6<|qc ?_
   exact ⟨_,(Option.some.inj a).symm,wkA [] [] []⟩
  refine qm ?_
  refine ⟨_,(Option.some.inj a).symm,fun hm=>?_⟩
  subst hm
  exact ⟨_,ee,wkA [] [] []⟩
 intro k hb
 subst hb
 refine q7<|q0<|as_ ee<|q6<|qj ?_
 obtain rfl:=someE g
 exact finD (.inr ee) (v:=(di_ (-1))) ee ee (.refl _)
theorem q5b (b : List api_Box) (f : api_Box→Option Bool) (p1F : FuncId) (p1C : List DV) (p1Ok : ∀ (a : api_Box) (r : Bool),f a = some r→Pure Tryz.prog tab p1F ([.agg [i_ a.Lo.X,i_ a.Lo.Y,i_ a.Lo.Z,i_ a.Hi.X,i_ a.Hi.Y,i_ a.Hi.Z]] ++ p1C) (.bool r)) (r : Bool) (c : q1k b f = some r) : Pure Tryz.prog tab 57 [.sl 6 (b.map qa),.fn p1F p1C] (.bool r):=by
 unfold q1k at c
 refine ql Tryz.func57 ee (by kernel_rfl) (by kernel_rfl) ee<|q7<|q0<|as_ ee<|q6<|q7<|q0<|mv_ ee<|mv_ ee ?_
 obtain ⟨g,h,c⟩:=bindE c
 refine qu [.d (.sl 6 (b.map qa)),.d (.fn p1F p1C)] (q8b b f p1F p1C p1Ok g h) ee ee ee (.inl ee)<|v_ (.d (.bool (decide (g ≥ 0)))) ee<|as_ ee<|q6<|qj ?_
 obtain rfl:=someE c
 exact finD (.inr ee) (v:=.d (.bool (decide (g ≥ 0)))) ee ee (.refl _)
theorem qic (a : api_Box) (r : Bool) (b : q5f a = some r) : Pure Tryz.prog tab 58 [.agg [i_ a.Lo.X,i_ a.Lo.Y,i_ a.Lo.Z,i_ a.Hi.X,i_ a.Hi.Y,i_ a.Hi.Z]] (.bool r):=by
 unfold q5f at b
 refine ql Tryz.func58 ee (by kernel_rfl) (by kernel_rfl) ee<|q7<|q0<|q3s (.ref 0 6 0 0) (.dat 6 [[i_ a.Lo.X,i_ a.Lo.Y,i_ a.Lo.Z,i_ a.Hi.X,i_ a.Hi.Y,i_ a.Hi.Z]]) ee<|as_ ee<|q6<|q7<|q0<|v_ (.d (.agg [i_ a.Lo.X,i_ a.Lo.Y,i_ a.Lo.Z,i_ a.Hi.X,i_ a.Hi.Y,i_ a.Hi.Z])) ee ?_
 obtain ⟨c,f,b⟩:=bindE b
 refine qu [.d (.agg [i_ a.Lo.X,i_ a.Lo.Y,i_ a.Lo.Z,i_ a.Hi.X,i_ a.Hi.Y,i_ a.Hi.Z])] (qdb a c f) ee ee ee (.inl ee)<|v_ (db_ (!c)) ee<|as_ ee<|q6<|qj ?_
 obtain rfl:=someE b
 exact finD (.inr ee) (v:=(db_ (!c))) ee ee (.refl _)
theorem q6b (g : List api_Box) (h : List api_Box) (r : Bool) (f : q40 g h = some r) : Pure Tryz.prog tab 59 [.sl 6 (g.map qa),.sl 6 (h.map qa)] (.bool r):=by
 unfold q40 at f
 refine ql Tryz.func59 ee (by kernel_rfl) (by kernel_rfl) ee<|q7<|q0<|as_ ee<|q6<|q7<|q7<|q0<|mv_ ee<|q15 ee ee ee ee<|mv_ ee<|q15 ee ee ee ee<|v_ (.d (.bool ((g.length : Int) != (h.length : Int)))) ee<|q6 ?_
 refine qb ee f (fun _ f=>?_) (fun _ f=>?_)
 ·refine q7<|q0<|as_ ee<|q6<|qj ?_
  obtain rfl:=someE f
  exact finD (.inr ee) (v:=(db_ false)) ee ee (.refl _)
 refine qd<|q7<|q7<|q0<|mv_ ee<|q15 ee ee ee ee<|mv_ ee<|q6 ?_
 obtain ⟨l,m,f⟩:=bindE f
 refine qk (fun k=>.inl k = l) (fun (k : Unit)=>⟨[],[],0⟩) (by simp) ?_ ?_
 ·refine qn (q4v g h) (fun (j : Int)=>⟨[(0,.d (.sl 6 (g.map qa))),(1,.d (.sl 6 (h.map qa))),(12,di_ (g.length : Int)),(13,di_ j)],[],0⟩) 0 l m (wkA [] [] []) ?_
  intro j p a
  unfold q4v at a
  refine q7<|q0<|v_ (.d (.bool (decide (j < (g.length : Int))))) ee<|q6<|q7 ?_
  refine qb ee a (fun _ a=>?_) (fun _ a=>?_)
  ·refine qd<|q7<|qh<|q7<|q0<|mv_ ee<|as_ ee<|q6<|q7<|qg [(some [],[]),(some [],[]),(some [],[]),(some [],[]),(some [],[]),(some [],[]),(some [],[]),(some [],[]),(some [],[])] (by kernel_rfl)<|mv_ ee<|mv_ ee ?_
   obtain ⟨b,n,a⟩:=bindE a
   refine qv (enc:=qa) n ee ee ee ee ee ee<|v_ (.d (.agg [i_ b.Lo.X,i_ b.Lo.Y,i_ b.Lo.Z,i_ b.Hi.X,i_ b.Hi.Y,i_ b.Hi.Z])) ee<|mv_ ee<|mv_ ee ?_
   obtain ⟨c,o,a⟩:=bindE a
   refine qv (enc:=qa) o ee ee ee ee ee ee<|v_ (.d (.agg [i_ c.Lo.X,i_ c.Lo.Y,i_ c.Lo.Z,i_ c.Hi.X,i_ c.Hi.Y,i_ c.Hi.Z])) ee<|v_ (.d (.bool (!((b.Lo.X == c.Lo.X) && ((b.Lo.Y == c.Lo.Y) && ((b.Lo.Z == c.Lo.Z) && ((b.Hi.X == c.Hi.X) && ((b.Hi.Y == c.Hi.Y) && ((b.Hi.Z == c.Hi.Z) && true))))))))) ee<|q6 ?_
   refine qb ee a (fun _ a=>?_) (fun _ a=>?_)
   ·refine q7<|q0<|as_ ee<|q6<|qj ?_
    refine ⟨_,(Option.some.inj a).symm,fun hm=>?_⟩
    subst hm
    obtain rfl:=someE f
    exact finD (.inr ee) (v:=(db_ false)) ee ee (.refl _)
   refine qd<|qc<|qr<|q0<|v_ (.d (i_ (w64 (j + 1)))) ee<|mv_ ee<|q6<|qc ?_
   exact ⟨_,(Option.some.inj a).symm,wkA [] [] []⟩
  refine qm ?_
  refine ⟨_,(Option.some.inj a).symm,fun hm=>?_⟩
  subst hm
  exact ⟨_,ee,wkA [] [] []⟩
 intro k hb
 subst hb
 refine q7<|q0<|as_ ee<|q6<|qj ?_
 obtain rfl:=someE f
 exact finD (.inr ee) (v:=(db_ true)) ee ee (.refl _)
theorem qdc (b : List api_Box) (r : Int) (a : q7w b = some r) : Pure Tryz.prog tab 18 [.sl 6 (b.map qa)] (i_ r):=by
 unfold q7w at a
 refine ql Tryz.func18 ee (by kernel_rfl) (by kernel_rfl) ee<|q7<|q0<|as_ ee<|q6<|q7<|q7<|q0<|mv_ ee<|q15 ee ee ee ee<|v_ (.d (.bool (decide ((b.length : Int) > 400)))) ee<|q6 ?_
 refine qb ee a (fun _ a=>?_) (fun _ a=>?_)
 ·refine q7<|q0<|as_ ee<|q6<|qj ?_
  obtain rfl:=someE a
  exact finD (.inr ee) (v:=(di_ 4)) ee ee (.refl _)
 refine qd<|q7<|q7<|q0<|mv_ ee ?_
 obtain ⟨o,p,a⟩:=bindE a
 refine qu [.d (.sl 6 (b.map qa)),.d (.fn 58 [])] (q5b b (fun g=>q5f g) 58 [] (fun g r hr=>qic g r hr) o p) ee ee ee (.inl ee)<|q6 ?_
 refine qb ee a (fun _ a=>?_) (fun _ a=>?_)
 ·refine q7<|q0<|as_ ee<|q6<|qj ?_
  obtain rfl:=someE a
  exact finD (.inr ee) (v:=(di_ 8)) ee ee (.refl _)
 refine qd<|q7<|q7<|q0<|v_ (.d (.agg [.nilf])) ee<|mv_ ee<|qqy (es:=1) ([b].map qq) ee ee ee ee ee ?_
 obtain ⟨f,q,a⟩:=bindE a
 refine qu [.d (.agg [.nilf]),.d (.sl 1 ([b].map qq))] (q95 b f q) ee ee ee (.inl ee)<|mv_ ee<|v_ (.d (.sl 6 (f.1.map qa))) ee<|v_ (di_ f.2) ee<|as_ ee<|as_ ee<|q6<|q7<|q0<|mv_ ee<|v_ (db_ (f.2 != 0)) ee ?_
 obtain ⟨s,c,a⟩:=bindE a
 refine qo 6 (fun A st=>∃ (j k l m n : V),st = A [(24,db_ s),(23,n),(22,m),(21,l),(20,k),(19,j)]) ?_ ?_
 ·refine qs ee ee c (fun c=>?_) (fun c=>?_)
  ·refine q8 ee<|q8 ee<|q8 ee<|q8 ee<|v_ (db_ true) ee<|q6 ?_
   obtain rfl:=someE c
   exact ⟨_,_,_,_,_,ee⟩
  refine mv_ ee<|mv_ ee ?_
  obtain ⟨h,t,c⟩:=bindE c
  refine qu [.d (.sl 6 (f.1.map qa)),.d (.sl 6 (b.map qa))] (q6b f.1 b h t) ee ee ee (.inl ee)<|v_ (db_ (!h)) ee<|v_ (db_ (!h)) ee<|q6 ?_
  obtain rfl:=someE c
  exact ⟨_,_,_,_,_,ee⟩
 rintro _ ⟨j,k,l,m,n,rfl⟩
 refine q6 ?_
 refine qb ee a (fun _ a=>?_) (fun _ a=>?_)
 ·refine q7<|q0<|as_ ee<|q6<|qj ?_
  obtain rfl:=someE a
  exact finD (.inr ee) (v:=(di_ 8)) ee ee (.refl _)
 refine qd<|q7<|q0<|as_ ee<|q6<|qj ?_
 obtain rfl:=someE a
 exact finD (.inr ee) (v:=(di_ 0)) ee ee (.refl _)
theorem qli (a : api_Box) (r : Int × Int × Int) (b : qbe a = some r) : Pure Tryz.prog tab 56 [.agg [i_ a.Lo.X,i_ a.Lo.Y,i_ a.Lo.Z,i_ a.Hi.X,i_ a.Hi.Y,i_ a.Hi.Z]] (.tup [i_ r.1,i_ r.2.1,i_ r.2.2]):=by
 unfold qbe at b
 refine ql Tryz.func56 ee (by kernel_rfl) (by kernel_rfl) ee<|q7<|q0<|q3s (.ref 0 6 0 0) (.dat 6 [[i_ a.Lo.X,i_ a.Lo.Y,i_ a.Lo.Z,i_ a.Hi.X,i_ a.Hi.Y,i_ a.Hi.Z]]) ee<|as_ ee<|as_ ee<|as_ ee<|q6<|q7<|qg [(some [],[]),(some [],[]),(some [],[]),(some [],[]),(some [0],[]),(some [],[]),(some [],[]),(some [0],[]),(some [],[]),(some [],[]),(some [],[]),(some [0],[]),(some [],[]),(some [],[]),(some [0],[]),(some [],[]),(some [],[]),(some [],[]),(some [0],[]),(some [],[]),(some [],[]),(some [0],[]),(some [],[]),(some [],[])] (by kernel_rfl)<|v_ (.ref 0 6 0 3) ee<|v_ (.ref 0 6 0 3) ee<|v_ (di_ a.Hi.X) ee<|v_ (.ref 0 6 0 0) ee<|v_ (.ref 0 6 0 0) ee<|v_ (di_ a.Lo.X) ee<|v_ (.d (i_ (w64 (a.Hi.X - a.Lo.X)))) ee<|v_ (.ref 0 6 0 3) ee<|v_ (.ref 0 6 0 4) ee<|v_ (di_ a.Hi.Y) ee<|v_ (.ref 0 6 0 0) ee<|v_ (.ref 0 6 0 1) ee<|v_ (di_ a.Lo.Y) ee<|v_ (.d (i_ (w64 (a.Hi.Y - a.Lo.Y)))) ee<|v_ (.ref 0 6 0 3) ee<|v_ (.ref 0 6 0 5) ee<|v_ (di_ a.Hi.Z) ee<|v_ (.ref 0 6 0 0) ee<|v_ (.ref 0 6 0 2) ee<|v_ (di_ a.Lo.Z) ee<|v_ (.d (i_ (w64 (a.Hi.Z - a.Lo.Z)))) ee<|as_ ee<|as_ ee<|as_ ee<|q6<|qj ?_
 obtain rfl:=someE b
 exact finD (.inr ee) (v:=.d (.tup [i_ (w64 (a.Hi.X - a.Lo.X)),i_ (w64 (a.Hi.Y - a.Lo.Y)),i_ (w64 (a.Hi.Z - a.Lo.Z))])) ee ee (.refl _)
theorem qjb (g : List api_Box) (r : Int × Int) (c : q8l g = some r) : Pure Tryz.prog tab 16 [.sl 6 (g.map qa)] (.tup [i_ r.1,i_ r.2]):=by
 unfold q8l at c
 refine ql Tryz.func16 ee (by kernel_rfl) (by kernel_rfl) ee<|q7<|q0<|as_ ee<|as_ ee<|q6<|q7<|q7<|q0<|mv_ ee ?_
 obtain ⟨k,m,c⟩:=bindE c
 refine qu [.d (.sl 6 (g.map qa))] (qdc g k m) ee ee ee (.inl ee)<|as_ ee<|q6<|q7<|q0<|mv_ ee<|v_ (db_ (k != 0)) ee<|q6 ?_
 refine qb ee c (fun _ c=>?_) (fun _ c=>?_)
 ·refine q7<|q0<|mv_ ee<|as_ ee<|as_ ee<|q6<|qj ?_
  obtain rfl:=someE c
  exact finD (.inr ee) (v:=.d (.tup [i_ 0,i_ k])) ee ee (.refl _)
 refine qd<|q7<|q0<|as_ ee<|q6<|q7<|q7<|q0<|mv_ ee<|q15 ee ee ee ee<|mv_ ee<|q6 ?_
 obtain ⟨l,n,c⟩:=bindE c
 refine qk (fun j=>j = l) (fun (j : Int)=>⟨[(5,di_ j)],[],0⟩) (by simp) ?_ ?_
 ·refine qn (q5r g) (fun (h : Int × Int)=>⟨[(5,di_ h.1),(16,.d (.sl 6 (g.map qa))),(17,di_ (g.length : Int)),(18,di_ h.2)],[],0⟩) (0,0) l n (wkA [] [] []) ?_
  intro h q f
  unfold q5r at f
  refine q7<|q0<|v_ (.d (.bool (decide (h.2 < (g.length : Int))))) ee<|q6<|q7 ?_
  refine qb ee f (fun _ f=>?_) (fun _ f=>?_)
  ·refine qd<|q7<|qh<|q7<|q0 ?_
   obtain ⟨a,o,f⟩:=bindE f
   refine qv (enc:=qa) o ee ee ee ee ee ee<|v_ (.d (.agg [i_ a.Lo.X,i_ a.Lo.Y,i_ a.Lo.Z,i_ a.Hi.X,i_ a.Hi.Y,i_ a.Hi.Z])) ee<|q2d ee ee<|q3r 0 (.dat 6 [[i_ a.Lo.X,i_ a.Lo.Y,i_ a.Lo.Z,i_ a.Hi.X,i_ a.Hi.Y,i_ a.Hi.Z]]) ee<|q6<|q7<|q0<|v_ (.d (.agg [i_ a.Lo.X,i_ a.Lo.Y,i_ a.Lo.Z,i_ a.Hi.X,i_ a.Hi.Y,i_ a.Hi.Z])) ee ?_
   obtain ⟨b,p,f⟩:=bindE f
   refine qu [.d (.agg [i_ a.Lo.X,i_ a.Lo.Y,i_ a.Lo.Z,i_ a.Hi.X,i_ a.Hi.Y,i_ a.Hi.Z])] (qli a b p) ee ee ee (.inl ee)<|mv_ ee<|v_ (di_ b.1) ee<|v_ (di_ b.2.1) ee<|v_ (di_ b.2.2) ee<|as_ ee<|as_ ee<|as_ ee<|q6<|q0<|mv_ ee<|mv_ ee<|mv_ ee<|v_ (.d (i_ (w64 (b.1 * b.2.1)))) ee<|mv_ ee<|v_ (.d (i_ (w64 ((w64 (b.1 * b.2.1)) * b.2.2)))) ee<|v_ (.d (i_ (w64 (h.1 + (w64 ((w64 (b.1 * b.2.1)) * b.2.2)))))) ee<|as_ ee<|q6<|qc<|qr<|q0<|v_ (.d (i_ (w64 (h.2 + 1)))) ee<|mv_ ee<|q6<|qc ?_
   exact ⟨_,(Option.some.inj f).symm,wkA [] [] []⟩
  refine qm ?_
  refine ⟨_,(Option.some.inj f).symm,fun hm=>?_⟩
  subst hm
  exact ⟨_,ee,wkA [] [] []⟩
 intro j hb
 subst hb
 refine q7<|q0<|mv_ ee<|as_ ee<|as_ ee<|q6<|qj ?_
 obtain rfl:=someE c
 exact finD (.inr ee) (v:=.d (.tup [i_ j,i_ 0])) ee ee (.refl _)
theorem q7j (g : List api_Box) (h : List api_Box) (r : Bool) (f : q60 g h = some r) : Pure Tryz.prog tab 20 [.sl 6 (g.map qa),.sl 6 (h.map qa)] (.bool r):=by
 unfold q60 at f
 refine ql Tryz.func20 ee (by kernel_rfl) (by kernel_rfl) ee<|q7<|q0<|as_ ee<|q6<|q7<|q7<|q0<|mv_ ee<|q15 ee ee ee ee<|mv_ ee<|q15 ee ee ee ee<|v_ (.d (.bool ((g.length : Int) != (h.length : Int)))) ee<|q6 ?_
 refine qb ee f (fun _ f=>?_) (fun _ f=>?_)
 ·refine q7<|q0<|as_ ee<|q6<|qj ?_
  obtain rfl:=someE f
  exact finD (.inr ee) (v:=(db_ false)) ee ee (.refl _)
 refine qd<|q7<|q7<|q0<|as_ ee<|q6 ?_
 obtain ⟨l,m,f⟩:=bindE f
 refine qk (fun k=>.inl k = l) (fun (k : Unit)=>⟨[],[],0⟩) (by simp) ?_ ?_
 ·refine qn (q7e g h) (fun (j : Int)=>⟨[(0,.d (.sl 6 (g.map qa))),(1,.d (.sl 6 (h.map qa))),(5,di_ j)],[],0⟩) 0 l m (wkA [] [] []) ?_
  intro j p a
  unfold q7e at a
  refine q7<|q7<|q0<|mv_ ee<|mv_ ee<|q15 ee ee ee ee<|v_ (.d (.bool (decide (j < (g.length : Int))))) ee<|q6 ?_
  refine qb ee a (fun _ a=>?_) (fun _ a=>?_)
  ·refine qd<|q7<|qh<|q7<|qg [(some [],[]),(some [],[]),(some [],[]),(some [],[]),(some [],[]),(some [],[]),(some [],[]),(some [],[]),(some [],[])] (by kernel_rfl)<|mv_ ee<|mv_ ee ?_
   obtain ⟨b,n,a⟩:=bindE a
   refine qv (enc:=qa) n ee ee ee ee ee ee<|v_ (.d (.agg [i_ b.Lo.X,i_ b.Lo.Y,i_ b.Lo.Z,i_ b.Hi.X,i_ b.Hi.Y,i_ b.Hi.Z])) ee<|mv_ ee<|mv_ ee ?_
   obtain ⟨c,o,a⟩:=bindE a
   refine qv (enc:=qa) o ee ee ee ee ee ee<|v_ (.d (.agg [i_ c.Lo.X,i_ c.Lo.Y,i_ c.Lo.Z,i_ c.Hi.X,i_ c.Hi.Y,i_ c.Hi.Z])) ee<|v_ (.d (.bool (!((b.Lo.X == c.Lo.X) && ((b.Lo.Y == c.Lo.Y) && ((b.Lo.Z == c.Lo.Z) && ((b.Hi.X == c.Hi.X) && ((b.Hi.Y == c.Hi.Y) && ((b.Hi.Z == c.Hi.Z) && true))))))))) ee<|q6 ?_
   refine qb ee a (fun _ a=>?_) (fun _ a=>?_)
   ·refine q7<|q0<|as_ ee<|q6<|qj ?_
    refine ⟨_,(Option.some.inj a).symm,fun hm=>?_⟩
    subst hm
    obtain rfl:=someE f
    exact finD (.inr ee) (v:=(db_ false)) ee ee (.refl _)
   refine qd<|qc<|qr<|q0<|mv_ ee<|v_ (.d (i_ (w64 (j + 1)))) ee<|as_ ee<|q6<|qc ?_
   exact ⟨_,(Option.some.inj a).symm,wkA [] [] []⟩
  refine qm ?_
  refine ⟨_,(Option.some.inj a).symm,fun hm=>?_⟩
  subst hm
  exact ⟨_,ee,wkA [] [] []⟩
 intro k hb
 subst hb
 refine q7<|q0<|as_ ee<|q6<|qj ?_
 obtain rfl:=someE f
 exact finD (.inr ee) (v:=(db_ true)) ee ee (.refl _)
theorem qc4 (f : List api_Box) (r : Int) (a : q8m f = some r) : Pure Tryz.prog tab 19 [.sl 6 (f.map qa)] (i_ r):=by
 unfold q8m at a
 refine ql Tryz.func19 ee (by kernel_rfl) (by kernel_rfl) ee<|q7<|q0<|as_ ee<|q6<|q7<|q7<|q0<|mv_ ee<|q15 ee ee ee ee<|v_ (.d (.bool (decide ((f.length : Int) > 400)))) ee<|q6 ?_
 refine qb ee a (fun _ a=>?_) (fun _ a=>?_)
 ·refine q7<|q0<|as_ ee<|q6<|qj ?_
  obtain rfl:=someE a
  exact finD (.inr ee) (v:=(di_ 4)) ee ee (.refl _)
 refine qd<|q7<|q7<|q0<|as_ ee<|q6 ?_
 obtain ⟨m,u,a⟩:=bindE a
 refine qk (fun k=>.inl k = m) (fun (k : Unit)=>⟨[(0,.d (.sl 6 (f.map qa)))],[],0⟩) (by simp) ?_ ?_
 ·refine qn (q76 f) (fun (j : Int)=>⟨[(0,.d (.sl 6 (f.map qa))),(3,di_ j)],[],0⟩) 0 m u (wkA [] [] []) ?_
  intro j ab b
  unfold q76 at b
  refine q7<|q7<|q0<|mv_ ee<|mv_ ee<|q15 ee ee ee ee<|v_ (.d (.bool (decide (j < (f.length : Int))))) ee<|q6 ?_
  refine qb ee b (fun _ b=>?_) (fun _ b=>?_)
  ·refine qd<|q7<|qh<|q7<|q0<|mv_ ee<|mv_ ee ?_
   obtain ⟨c,w,b⟩:=bindE b
   refine qv (enc:=qa) w ee ee ee ee ee ee<|v_ (.d (.agg [i_ c.Lo.X,i_ c.Lo.Y,i_ c.Lo.Z,i_ c.Hi.X,i_ c.Hi.Y,i_ c.Hi.Z])) ee ?_
   obtain ⟨n,x,b⟩:=bindE b
   refine qu [.d (.agg [i_ c.Lo.X,i_ c.Lo.Y,i_ c.Lo.Z,i_ c.Hi.X,i_ c.Hi.Y,i_ c.Hi.Z])] (qfz c n x) ee ee ee (.inl ee)<|v_ (db_ (!n)) ee<|q6 ?_
   refine qb ee b (fun _ b=>?_) (fun _ b=>?_)
   ·refine q7<|q0<|as_ ee<|q6<|qj ?_
    refine ⟨_,(Option.some.inj b).symm,fun hm=>?_⟩
    subst hm
    obtain rfl:=someE a
    exact finD (.inr ee) (v:=(di_ 8)) ee ee (.refl _)
   refine qd<|qc<|qr<|q0<|mv_ ee<|v_ (.d (i_ (w64 (j + 1)))) ee<|as_ ee<|q6<|qc ?_
   exact ⟨_,(Option.some.inj b).symm,wkA [] [] []⟩
  refine qm ?_
  refine ⟨_,(Option.some.inj b).symm,fun hm=>?_⟩
  subst hm
  exact ⟨_,ee,wkA [] [] []⟩
 intro k hb
 subst hb
 refine q7<|q0<|mv_ ee ?_
 obtain ⟨h,y,a⟩:=bindE a
 refine qu [di_ 2,.d (.sl 6 (f.map qa)),.d (.nilsl)] (qbm (.cons (.refl _) (.cons (.refl _) (.cons (.nil _) .nil))) (qe9 2 f [] h y)) ee ee ee (.inl ee)<|mv_ ee<|v_ (.d (.sl 6 (h.1.map qa))) ee<|v_ (db_ h.2) ee<|as_ ee<|as_ ee<|q6<|q7<|q7<|q0<|mv_ ee<|v_ (db_ (!h.2)) ee ?_
 obtain ⟨z,g,a⟩:=bindE a
 refine qo 6 (fun A st=>∃ (o p q s t : V),st = A [(33,db_ z),(32,t),(31,s),(30,q),(29,p),(28,o)]) ?_ ?_
 ·refine qs ee ee g (fun g=>?_) (fun g=>?_)
  ·refine q8 ee<|q8 ee<|q8 ee<|q8 ee<|v_ (db_ true) ee<|q6 ?_
   obtain rfl:=someE g
   exact ⟨_,_,_,_,_,ee⟩
  refine mv_ ee<|mv_ ee ?_
  obtain ⟨l,aa,g⟩:=bindE g
  refine qu [.d (.sl 6 (h.1.map qa)),.d (.sl 6 (f.map qa))] (q7j h.1 f l aa) ee ee ee (.inl ee)<|v_ (db_ (!l)) ee<|v_ (db_ (!l)) ee<|q6 ?_
  obtain rfl:=someE g
  exact ⟨_,_,_,_,_,ee⟩
 rintro _ ⟨o,p,q,s,t,rfl⟩
 refine q6 ?_
 refine qb ee a (fun _ a=>?_) (fun _ a=>?_)
 ·refine q7<|q0<|as_ ee<|q6<|qj ?_
  obtain rfl:=someE a
  exact finD (.inr ee) (v:=(di_ 8)) ee ee (.refl _)
 refine qd<|q7<|q0<|as_ ee<|q6<|qj ?_
 obtain rfl:=someE a
 exact finD (.inr ee) (v:=(di_ 0)) ee ee (.refl _)
theorem qlj (l : List api_Box) (r : Int × Int) (k : qa6 l = some r) : Pure Tryz.prog tab 17 [.sl 6 (l.map qa)] (.tup [i_ r.1,i_ r.2]):=by
 unfold qa6 at k
 refine ql Tryz.func17 ee (by kernel_rfl) (by kernel_rfl) ee<|q7<|q0<|as_ ee<|as_ ee<|q6<|q7<|q7<|q0<|mv_ ee ?_
 obtain ⟨o,s,k⟩:=bindE k
 refine qu [.d (.sl 6 (l.map qa))] (qc4 l o s) ee ee ee (.inl ee)<|v_ (db_ (o != 0)) ee<|q6 ?_
 refine qb ee k (fun _ k=>?_) (fun _ k=>?_)
 ·refine q7<|q0<|mv_ ee ?_
  obtain ⟨p,t,k⟩:=bindE k
  refine qu [.d (.sl 6 (l.map qa))] (qc4 l p t) ee ee ee (.inl ee)<|as_ ee<|as_ ee<|q6<|qj ?_
  obtain rfl:=someE k
  exact finD (.inr ee) (v:=.d (.tup [i_ 0,i_ p])) ee ee (.refl _)
 refine qd<|q7<|q0<|as_ ee<|q6<|q7<|q7<|q0<|as_ ee<|q6 ?_
 obtain ⟨q,u,k⟩:=bindE k
 refine qk (fun n=>n = q) (fun (n : Int)=>⟨[(4,di_ n)],[],0⟩) (by simp) ?_ ?_
 ·refine qn (q6n l) (fun (m : Int × Int)=>⟨[(0,.d (.sl 6 (l.map qa))),(4,di_ m.1),(5,di_ m.2)],[],0⟩) (0,0) q u (wkA [] [] []) ?_
  intro m ac a
  unfold q6n at a
  refine q7<|q7<|q0<|mv_ ee<|mv_ ee<|q15 ee ee ee ee<|v_ (.d (.bool (decide (m.2 < (l.length : Int))))) ee<|q6 ?_
  refine qb ee a (fun _ a=>?_) (fun _ a=>?_)
  ·refine qd<|q7<|qh<|qg [(some [],[]),(some [],[]),(some [],[]),(some [],[]),(some [],[]),(some [],[]),(some [],[]),(some [],[]),(some [],[]),(some [],[]),(some [],[]),(some [],[]),(some [],[]),(some [],[]),(some [],[]),(some [],[]),(some [],[]),(some [],[]),(some [],[]),(some [],[]),(some [],[]),(some [],[]),(some [],[]),(some [],[]),(some [],[]),(some [],[]),(some [],[]),(some [],[]),(some [],[]),(some [],[]),(some [],[]),(some [],[]),(some [],[]),(some [],[]),(some [],[]),(some [],[]),(some [],[]),(some [],[]),(some [],[]),(some [],[]),(some [],[]),(some [],[]),(some [],[]),(some [],[])] (by kernel_rfl)<|mv_ ee<|mv_ ee<|mv_ ee ?_
   obtain ⟨b,w,a⟩:=bindE a
   refine qv (enc:=qa) w ee ee ee ee ee ee<|v_ (.dref [i_ b.Lo.X,i_ b.Lo.Y,i_ b.Lo.Z,i_ b.Hi.X,i_ b.Hi.Y,i_ b.Hi.Z] 3) ee<|v_ (.dref [i_ b.Lo.X,i_ b.Lo.Y,i_ b.Lo.Z,i_ b.Hi.X,i_ b.Hi.Y,i_ b.Hi.Z] 3) ee<|v_ (di_ b.Hi.X) ee<|mv_ ee<|mv_ ee ?_
   obtain ⟨c,x,a⟩:=bindE a
   refine qv (enc:=qa) x ee ee ee ee ee ee<|v_ (.dref [i_ c.Lo.X,i_ c.Lo.Y,i_ c.Lo.Z,i_ c.Hi.X,i_ c.Hi.Y,i_ c.Hi.Z] 0) ee<|v_ (.dref [i_ c.Lo.X,i_ c.Lo.Y,i_ c.Lo.Z,i_ c.Hi.X,i_ c.Hi.Y,i_ c.Hi.Z] 0) ee<|v_ (di_ c.Lo.X) ee<|v_ (.d (i_ (w64 (b.Hi.X - c.Lo.X)))) ee<|mv_ ee<|mv_ ee ?_
   obtain ⟨f,y,a⟩:=bindE a
   refine qv (enc:=qa) y ee ee ee ee ee ee<|v_ (.dref [i_ f.Lo.X,i_ f.Lo.Y,i_ f.Lo.Z,i_ f.Hi.X,i_ f.Hi.Y,i_ f.Hi.Z] 3) ee<|v_ (.dref [i_ f.Lo.X,i_ f.Lo.Y,i_ f.Lo.Z,i_ f.Hi.X,i_ f.Hi.Y,i_ f.Hi.Z] 4) ee<|v_ (di_ f.Hi.Y) ee<|mv_ ee<|mv_ ee ?_
   obtain ⟨g,z,a⟩:=bindE a
   refine qv (enc:=qa) z ee ee ee ee ee ee<|v_ (.dref [i_ g.Lo.X,i_ g.Lo.Y,i_ g.Lo.Z,i_ g.Hi.X,i_ g.Hi.Y,i_ g.Hi.Z] 0) ee<|v_ (.dref [i_ g.Lo.X,i_ g.Lo.Y,i_ g.Lo.Z,i_ g.Hi.X,i_ g.Hi.Y,i_ g.Hi.Z] 1) ee<|v_ (di_ g.Lo.Y) ee<|v_ (.d (i_ (w64 (f.Hi.Y - g.Lo.Y)))) ee<|v_ (.d (i_ (w64 ((w64 (b.Hi.X - c.Lo.X)) * (w64 (f.Hi.Y - g.Lo.Y)))))) ee<|mv_ ee<|mv_ ee ?_
   obtain ⟨h,aa,a⟩:=bindE a
   refine qv (enc:=qa) aa ee ee ee ee ee ee<|v_ (.dref [i_ h.Lo.X,i_ h.Lo.Y,i_ h.Lo.Z,i_ h.Hi.X,i_ h.Hi.Y,i_ h.Hi.Z] 3) ee<|v_ (.dref [i_ h.Lo.X,i_ h.Lo.Y,i_ h.Lo.Z,i_ h.Hi.X,i_ h.Hi.Y,i_ h.Hi.Z] 5) ee<|v_ (di_ h.Hi.Z) ee<|mv_ ee<|mv_ ee ?_
   obtain ⟨j,ab,a⟩:=bindE a
   refine qv (enc:=qa) ab ee ee ee ee ee ee<|v_ (.dref [i_ j.Lo.X,i_ j.Lo.Y,i_ j.Lo.Z,i_ j.Hi.X,i_ j.Hi.Y,i_ j.Hi.Z] 0) ee<|v_ (.dref [i_ j.Lo.X,i_ j.Lo.Y,i_ j.Lo.Z,i_ j.Hi.X,i_ j.Hi.Y,i_ j.Hi.Z] 2) ee<|v_ (di_ j.Lo.Z) ee<|v_ (.d (i_ (w64 (h.Hi.Z - j.Lo.Z)))) ee<|v_ (.d (i_ (w64 ((w64 ((w64 (b.Hi.X - c.Lo.X)) * (w64 (f.Hi.Y - g.Lo.Y)))) * (w64 (h.Hi.Z - j.Lo.Z)))))) ee<|v_ (.d (i_ (w64 (m.1 + (w64 ((w64 ((w64 (b.Hi.X - c.Lo.X)) * (w64 (f.Hi.Y - g.Lo.Y)))) * (w64 (h.Hi.Z - j.Lo.Z)))))))) ee<|as_ ee<|q6<|qc<|qr<|q0<|mv_ ee<|v_ (.d (i_ (w64 (m.2 + 1)))) ee<|as_ ee<|q6<|qc ?_
   exact ⟨_,(Option.some.inj a).symm,wkA [] [] []⟩
  refine qm ?_
  refine ⟨_,(Option.some.inj a).symm,fun hm=>?_⟩
  subst hm
  exact ⟨_,ee,wkA [] [] []⟩
 intro n hb
 subst hb
 refine q7<|q0<|mv_ ee<|as_ ee<|as_ ee<|q6<|qj ?_
 obtain rfl:=someE k
 exact finD (.inr ee) (v:=.d (.tup [i_ n,i_ 0])) ee ee (.refl _)
theorem qk0 (b : api_Box) (a : qz) (r : Bool) (c : q7x b a = some r) : Pure Tryz.prog tab 60 [.agg [i_ b.Lo.X,i_ b.Lo.Y,i_ b.Lo.Z,i_ b.Hi.X,i_ b.Hi.Y,i_ b.Hi.Z],.box [i_ a.X,i_ a.Y,i_ a.Z]] (.bool r):=by
 unfold q7x at c
 refine ql Tryz.func60 ee (by kernel_rfl) (by kernel_rfl) ee<|q7<|q0<|q3s (.ref 0 6 0 0) (.dat 6 [[i_ b.Lo.X,i_ b.Lo.Y,i_ b.Lo.Z,i_ b.Hi.X,i_ b.Hi.Y,i_ b.Hi.Z]]) ee<|as_ ee<|q6<|q7<|q0<|v_ (.ref 0 6 0 0) ee<|v_ (.ref 0 6 0 0) ee<|v_ (di_ b.Lo.X) ee<|v_ (.dref [i_ a.X,i_ a.Y,i_ a.Z] 0) ee<|v_ (di_ a.X) ee<|v_ (.d (.bool (decide (b.Lo.X≤a.X)))) ee ?_
 obtain ⟨c1,f,c⟩:=bindE c
 refine qo 8 (fun A st=>∃ (l m n o p q s : V),st = A [(17,db_ c1),(16,s),(15,q),(14,p),(13,o),(12,n),(11,m),(10,l)]) ?_ ?_
 ·refine qs ee ee f (fun f=>?_) (fun f=>?_)
  ·refine v_ (.dref [i_ a.X,i_ a.Y,i_ a.Z] 0) ee<|v_ (di_ a.X) ee<|v_ (.ref 0 6 0 3) ee<|v_ (.ref 0 6 0 3) ee<|v_ (di_ b.Hi.X) ee<|v_ (.d (.bool (decide (a.X < b.Hi.X)))) ee<|v_ (.d (.bool (decide (a.X < b.Hi.X)))) ee<|q6 ?_
   obtain rfl:=someE f
   exact ⟨_,_,_,_,_,_,_,ee⟩
  refine q8 ee<|q8 ee<|q8 ee<|q8 ee<|q8 ee<|q8 ee<|v_ (db_ false) ee<|q6 ?_
  obtain rfl:=someE f
  exact ⟨_,_,_,_,_,_,_,ee⟩
 rintro _ ⟨l,m,n,o,p,q,s,rfl⟩
 obtain ⟨az,g,c⟩:=bindE c
 refine qo 8 (fun A st=>∃ (t u w x y z aa : V),st = A [(25,db_ az),(24,aa),(23,z),(22,y),(21,x),(20,w),(19,u),(18,t)]) ?_ ?_
 ·refine qs ee ee g (fun g=>?_) (fun g=>?_)
  ·refine v_ (.ref 0 6 0 0) ee<|v_ (.ref 0 6 0 1) ee<|v_ (di_ b.Lo.Y) ee<|v_ (.dref [i_ a.X,i_ a.Y,i_ a.Z] 1) ee<|v_ (di_ a.Y) ee<|v_ (.d (.bool (decide (b.Lo.Y≤a.Y)))) ee<|v_ (.d (.bool (decide (b.Lo.Y≤a.Y)))) ee<|q6 ?_
   obtain rfl:=someE g
   exact ⟨_,_,_,_,_,_,_,ee⟩
  refine q8 ee<|q8 ee<|q8 ee<|q8 ee<|q8 ee<|q8 ee<|v_ (db_ false) ee<|q6 ?_
  obtain rfl:=someE g
  exact ⟨_,_,_,_,_,_,_,ee⟩
 rintro _ ⟨t,u,w,x,y,z,aa,rfl⟩
 obtain ⟨ba,h,c⟩:=bindE c
 refine qo 8 (fun A st=>∃ (ab ac ad ae af ag ah : V),st = A [(33,db_ ba),(32,ah),(31,ag),(30,af),(29,ae),(28,ad),(27,ac),(26,ab)]) ?_ ?_
 ·refine qs ee ee h (fun h=>?_) (fun h=>?_)
  ·refine v_ (.dref [i_ a.X,i_ a.Y,i_ a.Z] 1) ee<|v_ (di_ a.Y) ee<|v_ (.ref 0 6 0 3) ee<|v_ (.ref 0 6 0 4) ee<|v_ (di_ b.Hi.Y) ee<|v_ (.d (.bool (decide (a.Y < b.Hi.Y)))) ee<|v_ (.d (.bool (decide (a.Y < b.Hi.Y)))) ee<|q6 ?_
   obtain rfl:=someE h
   exact ⟨_,_,_,_,_,_,_,ee⟩
  refine q8 ee<|q8 ee<|q8 ee<|q8 ee<|q8 ee<|q8 ee<|v_ (db_ false) ee<|q6 ?_
  obtain rfl:=someE h
  exact ⟨_,_,_,_,_,_,_,ee⟩
 rintro _ ⟨ab,ac,ad,ae,af,ag,ah,rfl⟩
 obtain ⟨bb,j,c⟩:=bindE c
 refine qo 8 (fun A st=>∃ (ai aj ak al am an ao : V),st = A [(41,db_ bb),(40,ao),(39,an),(38,am),(37,al),(36,ak),(35,aj),(34,ai)]) ?_ ?_
 ·refine qs ee ee j (fun j=>?_) (fun j=>?_)
  ·refine v_ (.ref 0 6 0 0) ee<|v_ (.ref 0 6 0 2) ee<|v_ (di_ b.Lo.Z) ee<|v_ (.dref [i_ a.X,i_ a.Y,i_ a.Z] 2) ee<|v_ (di_ a.Z) ee<|v_ (.d (.bool (decide (b.Lo.Z≤a.Z)))) ee<|v_ (.d (.bool (decide (b.Lo.Z≤a.Z)))) ee<|q6 ?_
   obtain rfl:=someE j
   exact ⟨_,_,_,_,_,_,_,ee⟩
  refine q8 ee<|q8 ee<|q8 ee<|q8 ee<|q8 ee<|q8 ee<|v_ (db_ false) ee<|q6 ?_
  obtain rfl:=someE j
  exact ⟨_,_,_,_,_,_,_,ee⟩
 rintro _ ⟨ai,aj,ak,al,am,an,ao,rfl⟩
 obtain ⟨ap,k,c⟩:=bindE c
 refine qo 8 (fun A st=>∃ (aq ar as au av aw ax : V),st = A [(49,db_ ap),(48,ax),(47,aw),(46,av),(45,au),(44,as),(43,ar),(42,aq)]) ?_ ?_
 ·refine qs ee ee k (fun k=>?_) (fun k=>?_)
  ·refine v_ (.dref [i_ a.X,i_ a.Y,i_ a.Z] 2) ee<|v_ (di_ a.Z) ee<|v_ (.ref 0 6 0 3) ee<|v_ (.ref 0 6 0 5) ee<|v_ (di_ b.Hi.Z) ee<|v_ (.d (.bool (decide (a.Z < b.Hi.Z)))) ee<|v_ (.d (.bool (decide (a.Z < b.Hi.Z)))) ee<|q6 ?_
   obtain rfl:=someE k
   exact ⟨_,_,_,_,_,_,_,ee⟩
  refine q8 ee<|q8 ee<|q8 ee<|q8 ee<|q8 ee<|q8 ee<|v_ (db_ false) ee<|q6 ?_
  obtain rfl:=someE k
  exact ⟨_,_,_,_,_,_,_,ee⟩
 rintro _ ⟨aq,ar,as,au,av,aw,ax,rfl⟩
 refine as_ ee<|q6<|qj ?_
 obtain rfl:=someE c
 exact finD (.inr ee) (v:=(db_ ap)) ee ee (.refl _)
theorem qnr (b : List api_Box) (a : qz) (r : Bool) (c : qb3 b a = some r) : Pure Tryz.prog tab 21 [.sl 6 (b.map qa),.agg [i_ a.X,i_ a.Y,i_ a.Z]] (.bool r):=by
 unfold qb3 at c
 refine ql Tryz.func21 ee (by kernel_rfl) (by kernel_rfl) ee<|q7<|q0<|q3s (.ref 0 3 0 0) (.dat 3 [[i_ a.X,i_ a.Y,i_ a.Z]]) ee<|as_ ee<|q6<|q7<|q0<|mv_ ee<|v_ (.fn 60 [.ref 0 3 0 0]) ee ?_
 obtain ⟨g,h,c⟩:=bindE c
 refine qu [.d (.sl 6 (b.map qa)),.fn 60 [.ref 0 3 0 0]] (q5b b (fun f=>q7x f a) 60 [.box [i_ a.X,i_ a.Y,i_ a.Z]] (fun f r hr=>qk0 f a r hr) g h) ee ee (q8v ee (q8v (qvg (qal ee ee)) ee)) (.inr ee)<|as_ ee<|q6<|qj ?_
 obtain rfl:=someE c
 exact finD (.inr ee) (v:=(db_ g)) ee ee (.refl _)
theorem qrt (a : api_Box) (b : qz) (r : Bool) (c : qf3 a b = some r) : Pure Tryz.prog tab 61 [.agg [i_ a.Lo.X,i_ a.Lo.Y,i_ a.Lo.Z,i_ a.Hi.X,i_ a.Hi.Y,i_ a.Hi.Z],.agg [i_ b.X,i_ b.Y,i_ b.Z]] (.bool r):=by
 unfold qf3 at c
 refine ql Tryz.func61 ee (by kernel_rfl) (by kernel_rfl) ee<|q7<|q0<|q3s (.ref 0 6 0 0) (.dat 6 [[i_ a.Lo.X,i_ a.Lo.Y,i_ a.Lo.Z,i_ a.Hi.X,i_ a.Hi.Y,i_ a.Hi.Z]]) ee<|q3s (.ref 1 3 0 0) (.dat 3 [[i_ b.X,i_ b.Y,i_ b.Z]]) ee<|as_ ee<|q6<|q7<|q0<|v_ (.ref 0 6 0 0) ee<|v_ (.ref 0 6 0 0) ee<|v_ (di_ a.Lo.X) ee<|v_ (.ref 1 3 0 0) ee<|v_ (di_ b.X) ee<|v_ (.d (.bool (decide (a.Lo.X≤b.X)))) ee ?_
 obtain ⟨c1,f,c⟩:=bindE c
 refine qo 8 (fun A st=>∃ (l m n o p q s : V),st = A [(18,db_ c1),(17,s),(16,q),(15,p),(14,o),(13,n),(12,m),(11,l)]) ?_ ?_
 ·refine qs ee ee f (fun f=>?_) (fun f=>?_)
  ·refine v_ (.ref 1 3 0 0) ee<|v_ (di_ b.X) ee<|v_ (.ref 0 6 0 3) ee<|v_ (.ref 0 6 0 3) ee<|v_ (di_ a.Hi.X) ee<|v_ (.d (.bool (decide (b.X < a.Hi.X)))) ee<|v_ (.d (.bool (decide (b.X < a.Hi.X)))) ee<|q6 ?_
   obtain rfl:=someE f
   exact ⟨_,_,_,_,_,_,_,ee⟩
  refine q8 ee<|q8 ee<|q8 ee<|q8 ee<|q8 ee<|q8 ee<|v_ (db_ false) ee<|q6 ?_
  obtain rfl:=someE f
  exact ⟨_,_,_,_,_,_,_,ee⟩
 rintro _ ⟨l,m,n,o,p,q,s,rfl⟩
 obtain ⟨az,g,c⟩:=bindE c
 refine qo 8 (fun A st=>∃ (t u w x y z aa : V),st = A [(26,db_ az),(25,aa),(24,z),(23,y),(22,x),(21,w),(20,u),(19,t)]) ?_ ?_
 ·refine qs ee ee g (fun g=>?_) (fun g=>?_)
  ·refine v_ (.ref 0 6 0 0) ee<|v_ (.ref 0 6 0 1) ee<|v_ (di_ a.Lo.Y) ee<|v_ (.ref 1 3 0 1) ee<|v_ (di_ b.Y) ee<|v_ (.d (.bool (decide (a.Lo.Y≤b.Y)))) ee<|v_ (.d (.bool (decide (a.Lo.Y≤b.Y)))) ee<|q6 ?_
   obtain rfl:=someE g
   exact ⟨_,_,_,_,_,_,_,ee⟩
  refine q8 ee<|q8 ee<|q8 ee<|q8 ee<|q8 ee<|q8 ee<|v_ (db_ false) ee<|q6 ?_
  obtain rfl:=someE g
  exact ⟨_,_,_,_,_,_,_,ee⟩
 rintro _ ⟨t,u,w,x,y,z,aa,rfl⟩
 obtain ⟨ba,h,c⟩:=bindE c
 refine qo 8 (fun A st=>∃ (ab ac ad ae af ag ah : V),st = A [(34,db_ ba),(33,ah),(32,ag),(31,af),(30,ae),(29,ad),(28,ac),(27,ab)]) ?_ ?_
 ·refine qs ee ee h (fun h=>?_) (fun h=>?_)
  ·refine v_ (.ref 1 3 0 1) ee<|v_ (di_ b.Y) ee<|v_ (.ref 0 6 0 3) ee<|v_ (.ref 0 6 0 4) ee<|v_ (di_ a.Hi.Y) ee<|v_ (.d (.bool (decide (b.Y < a.Hi.Y)))) ee<|v_ (.d (.bool (decide (b.Y < a.Hi.Y)))) ee<|q6 ?_
   obtain rfl:=someE h
   exact ⟨_,_,_,_,_,_,_,ee⟩
  refine q8 ee<|q8 ee<|q8 ee<|q8 ee<|q8 ee<|q8 ee<|v_ (db_ false) ee<|q6 ?_
  obtain rfl:=someE h
  exact ⟨_,_,_,_,_,_,_,ee⟩
 rintro _ ⟨ab,ac,ad,ae,af,ag,ah,rfl⟩
 obtain ⟨bb,j,c⟩:=bindE c
 refine qo 8 (fun A st=>∃ (ai aj ak al am an ao : V),st = A [(42,db_ bb),(41,ao),(40,an),(39,am),(38,al),(37,ak),(36,aj),(35,ai)]) ?_ ?_
 ·refine qs ee ee j (fun j=>?_) (fun j=>?_)
  ·refine v_ (.ref 0 6 0 0) ee<|v_ (.ref 0 6 0 2) ee<|v_ (di_ a.Lo.Z) ee<|v_ (.ref 1 3 0 2) ee<|v_ (di_ b.Z) ee<|v_ (.d (.bool (decide (a.Lo.Z≤b.Z)))) ee<|v_ (.d (.bool (decide (a.Lo.Z≤b.Z)))) ee<|q6 ?_
   obtain rfl:=someE j
   exact ⟨_,_,_,_,_,_,_,ee⟩
  refine q8 ee<|q8 ee<|q8 ee<|q8 ee<|q8 ee<|q8 ee<|v_ (db_ false) ee<|q6 ?_
  obtain rfl:=someE j
  exact ⟨_,_,_,_,_,_,_,ee⟩
 rintro _ ⟨ai,aj,ak,al,am,an,ao,rfl⟩
 obtain ⟨ap,k,c⟩:=bindE c
 refine qo 8 (fun A st=>∃ (aq ar as au av aw ax : V),st = A [(50,db_ ap),(49,ax),(48,aw),(47,av),(46,au),(45,as),(44,ar),(43,aq)]) ?_ ?_
 ·refine qs ee ee k (fun k=>?_) (fun k=>?_)
  ·refine v_ (.ref 1 3 0 2) ee<|v_ (di_ b.Z) ee<|v_ (.ref 0 6 0 3) ee<|v_ (.ref 0 6 0 5) ee<|v_ (di_ a.Hi.Z) ee<|v_ (.d (.bool (decide (b.Z < a.Hi.Z)))) ee<|v_ (.d (.bool (decide (b.Z < a.Hi.Z)))) ee<|q6 ?_
   obtain rfl:=someE k
   exact ⟨_,_,_,_,_,_,_,ee⟩
  refine q8 ee<|q8 ee<|q8 ee<|q8 ee<|q8 ee<|q8 ee<|v_ (db_ false) ee<|q6 ?_
  obtain rfl:=someE k
  exact ⟨_,_,_,_,_,_,_,ee⟩
 rintro _ ⟨aq,ar,as,au,av,aw,ax,rfl⟩
 refine as_ ee<|q6<|qj ?_
 obtain rfl:=someE c
 exact finD (.inr ee) (v:=(db_ ap)) ee ee (.refl _)
theorem qq7 (f : List api_Box) (a : qz) (r : Bool) (g : qd0 f a = some r) : Pure Tryz.prog tab 22 [.sl 6 (f.map qa),.agg [i_ a.X,i_ a.Y,i_ a.Z]] (.bool r):=by
 unfold qd0 at g
 refine ql Tryz.func22 ee (by kernel_rfl) (by kernel_rfl) ee<|q7<|q0<|q3s (.ref 0 3 0 0) (.dat 3 [[i_ a.X,i_ a.Y,i_ a.Z]]) ee<|as_ ee<|q6<|q7<|q7<|q0<|as_ ee<|q6 ?_
 obtain ⟨k,l,g⟩:=bindE g
 refine qk (fun j=>.inl j = k) (fun (j : Unit)=>⟨[],[],0⟩) (by simp) ?_ ?_
 ·refine qn (q8x f a) (fun (h : Int)=>⟨[(0,.d (.sl 6 (f.map qa))),(3,.ref 0 3 0 0),(5,di_ h)],[(0,.dat 3 [[i_ a.X,i_ a.Y,i_ a.Z]])],1⟩) 0 k l (wkA [(0,0)] [] []) ?_
  intro h p b
  unfold q8x at b
  refine q7<|q7<|q0<|mv_ ee<|mv_ ee<|q15 ee ee ee ee<|v_ (.d (.bool (decide (h < (f.length : Int))))) ee<|q6 ?_
  refine qb ee b (fun _ b=>?_) (fun _ b=>?_)
  ·refine qd<|q7<|qh<|q7<|qg [(some [],[]),(some [0],[]),(some [],[]),(some [],[]),(some [],[]),(some [],[])] (by kernel_rfl)<|mv_ ee<|mv_ ee ?_
   obtain ⟨c,m,b⟩:=bindE b
   refine qv (enc:=qa) m ee ee ee ee ee ee<|v_ (.d (.agg [i_ c.Lo.X,i_ c.Lo.Y,i_ c.Lo.Z,i_ c.Hi.X,i_ c.Hi.Y,i_ c.Hi.Z])) ee<|v_ (.d (.agg [i_ a.X,i_ a.Y,i_ a.Z])) ee ?_
   obtain ⟨n,o,b⟩:=bindE b
   refine qu [.d (.agg [i_ c.Lo.X,i_ c.Lo.Y,i_ c.Lo.Z,i_ c.Hi.X,i_ c.Hi.Y,i_ c.Hi.Z]),.d (.agg [i_ a.X,i_ a.Y,i_ a.Z])] (qrt c a n o) ee ee ee (.inl ee)<|q6 ?_
   refine qb ee b (fun _ b=>?_) (fun _ b=>?_)
   ·refine q7<|q0<|as_ ee<|q6<|qj ?_
    refine ⟨_,(Option.some.inj b).symm,fun hm=>?_⟩
    subst hm
    obtain rfl:=someE g
    exact finD (.inr ee) (v:=(db_ true)) ee ee (.refl _)
   refine qd<|qc<|qr<|q0<|mv_ ee<|v_ (.d (i_ (w64 (h + 1)))) ee<|as_ ee<|q6<|qc ?_
   exact ⟨_,(Option.some.inj b).symm,wkA [(0,0)] [] []⟩
  refine qm ?_
  refine ⟨_,(Option.some.inj b).symm,fun hm=>?_⟩
  subst hm
  exact ⟨_,ee,wkA [] [] []⟩
 intro j hb
 subst hb
 refine q7<|q0<|as_ ee<|q6<|qj ?_
 obtain rfl:=someE g
 exact finD (.inr ee) (v:=(db_ false)) ee ee (.refl _)
theorem qlk (a : List api_Box) (b : List api_Box) (r : Bool) (c : qa7 a b = some r) : Pure Tryz.prog tab 23 [.sl 6 (a.map qa),.sl 6 (b.map qa)] (.bool r):=by
 unfold qa7 at c
 refine ql Tryz.func23 ee (by kernel_rfl) (by kernel_rfl) ee<|q7<|q0<|as_ ee<|q6<|q7<|q0<|mv_ ee<|mv_ ee ?_
 obtain ⟨f,g,c⟩:=bindE c
 refine qu [.d (.sl 6 (a.map qa)),.d (.sl 6 (b.map qa))] (q6b a b f g) ee ee ee (.inl ee)<|as_ ee<|q6<|qj ?_
 obtain rfl:=someE c
 exact finD (.inr ee) (v:=(db_ f)) ee ee (.refl _)
theorem qgt (c : List api_Box) (j : List api_Box) (b : qz) (r : Bool) (a : q8y c j b = some r) : Pure Tryz.prog tab 3 [.sl 6 (c.map qa),.sl 6 (j.map qa),.agg [i_ b.X,i_ b.Y,i_ b.Z]] (.bool r):=by
 unfold q8y at a
 refine ql Tryz.func3 ee (by kernel_rfl) (by kernel_rfl) ee<|q7<|q0<|q3s (.ref 0 3 0 0) (.dat 3 [[i_ b.X,i_ b.Y,i_ b.Z]]) ee<|as_ ee<|q6<|q7<|q7<|q0<|mv_ ee ?_
 obtain ⟨r1,h2,a⟩:=bindE a
 refine qu [.d (.sl 6 (c.map qa))] (qfw c r1 h2) ee ee ee (.inl ee) ?_
 obtain ⟨c5,k,a⟩:=bindE a
 refine qo 4 (fun A st=>∃ (j7 j8 j9 : V),st = A [(21,db_ c5),(20,j9),(19,j8),(18,j7)]) ?_ ?_
 ·refine qs ee ee k (fun k=>?_) (fun k=>?_)
  ·refine q8 ee<|q8 ee<|v_ (db_ true) ee<|q6 ?_
   obtain rfl:=someE k
   exact ⟨_,_,_,ee⟩
  refine mv_ ee ?_
  obtain ⟨ad,bx,k⟩:=bindE k
  refine qu [.d (.sl 6 (j.map qa))] (qfw j ad bx) ee ee ee (.inl ee)<|v_ (db_ ad) ee<|q6 ?_
  obtain rfl:=someE k
  exact ⟨_,_,_,ee⟩
 rintro _ ⟨j7,j8,j9,rfl⟩
 refine q6 ?_
 refine qb ee a (fun _ a=>?_) (fun _ a=>?_)
 ·refine q7<|q0<|as_ ee<|q6<|qj ?_
  obtain rfl:=someE a
  exact finD (.inr ee) (v:=(db_ true)) ee ee (.refl _)
 refine qd<|q7<|q0<|mv_ ee ?_
 obtain ⟨f,bz,a⟩:=bindE a
 refine qu [.d (.sl 6 (c.map qa))] (qol c f bz) ee ee ee (.inl ee)<|as_ ee<|q6<|q7<|q0<|mv_ ee ?_
 obtain ⟨l,ca,a⟩:=bindE a
 refine qu [.d (.sl 6 (f.map qa))] (qlh f l ca) ee ee ee (.inl ee)<|mv_ ee<|v_ (.d (.sl 6 (l.1.map qa))) ee<|v_ (di_ l.2) ee<|as_ ee<|as_ ee<|q6<|q7<|q0<|mv_ ee ?_
 obtain ⟨m,cb,a⟩:=bindE a
 refine qu [.d (.sl 6 (c.map qa))] (qoo c m cb) ee ee ee (.inl ee)<|mv_ ee<|v_ (.d (.sl 6 (m.1.map qa))) ee<|v_ (di_ m.2) ee<|as_ ee<|as_ ee<|q6<|q7<|q0<|mv_ ee ?_
 obtain ⟨n,cc,a⟩:=bindE a
 refine qu [.d (.sl 6 (f.map qa))] (qjb f n cc) ee ee ee (.inl ee)<|mv_ ee<|v_ (di_ n.1) ee<|v_ (di_ n.2) ee<|as_ ee<|as_ ee<|q6<|q7<|q0<|mv_ ee ?_
 obtain ⟨o,cd,a⟩:=bindE a
 refine qu [.d (.sl 6 (c.map qa))] (qlj c o cd) ee ee ee (.inl ee)<|mv_ ee<|v_ (di_ o.1) ee<|v_ (di_ o.2) ee<|as_ ee<|as_ ee<|q6<|q7<|qg [(some [],[]),(some [],[]),(some [],[]),(some [],[]),(some [],[]),(some [],[]),(some [],[]),(some [],[]),(some [],[]),(some [],[]),(some [],[]),(some [],[]),(some [],[]),(some [],[]),(some [],[]),(some [],[]),(some [],[]),(some [],[]),(some [0],[]),(some [],[]),(some [],[]),(some [0],[]),(some [],[]),(some [],[]),(some [],[]),(some [],[]),(some [],[]),(some [],[]),(some [],[]),(some [],[]),(some [],[]),(some [],[]),(some [],[]),(some [],[]),(some [],[]),(some [],[]),(some [],[]),(some [],[]),(some [],[]),(some [],[]),(some [],[]),(some [],[]),(some [],[]),(some [],[]),(some [],[]),(some [],[]),(some [],[]),(some [],[]),(some [],[])] (by kernel_rfl)<|mv_ ee ?_
 obtain ⟨ae,ce,a⟩:=bindE a
 refine qu [.d (.sl 6 (f.map qa))] (qdc f ae ce) ee ee ee (.inl ee)<|mv_ ee ?_
 obtain ⟨af,cf,a⟩:=bindE a
 refine qu [.d (.sl 6 (c.map qa))] (qc4 c af cf) ee ee ee (.inl ee)<|v_ (db_ (ae == af)) ee ?_
 obtain ⟨cg,p,a⟩:=bindE a
 refine qo 5 (fun A st=>∃ (ag ah ai aj : V),st = A [(53,db_ cg),(52,aj),(51,ai),(50,ah),(49,ag)]) ?_ ?_
 ·refine qs ee ee p (fun p=>?_) (fun p=>?_)
  ·refine mv_ ee<|mv_ ee ?_
   obtain ⟨ak,ch,p⟩:=bindE p
   refine qu [.d (.sl 6 (l.1.map qa)),.d (.sl 6 (m.1.map qa))] (q7j l.1 m.1 ak ch) ee ee ee (.inl ee)<|v_ (db_ ak) ee<|q6 ?_
   obtain rfl:=someE p
   exact ⟨_,_,_,_,ee⟩
  refine q8 ee<|q8 ee<|q8 ee<|v_ (db_ false) ee<|q6 ?_
  obtain rfl:=someE p
  exact ⟨_,_,_,_,ee⟩
 rintro _ ⟨ag,ah,ai,aj,rfl⟩
 obtain ⟨ci,s,a⟩:=bindE a
 refine qo 5 (fun A st=>∃ (al am an ao : V),st = A [(58,db_ ci),(57,ao),(56,an),(55,am),(54,al)]) ?_ ?_
 ·refine qs ee ee s (fun s=>?_) (fun s=>?_)
  ·refine mv_ ee<|mv_ ee<|v_ (db_ (l.2 == m.2)) ee<|v_ (db_ (l.2 == m.2)) ee<|q6 ?_
   obtain rfl:=someE s
   exact ⟨_,_,_,_,ee⟩
  refine q8 ee<|q8 ee<|q8 ee<|v_ (db_ false) ee<|q6 ?_
  obtain rfl:=someE s
  exact ⟨_,_,_,_,ee⟩
 rintro _ ⟨al,am,an,ao,rfl⟩
 obtain ⟨cj,t,a⟩:=bindE a
 refine qo 5 (fun A st=>∃ (ap aq ar as : V),st = A [(63,db_ cj),(62,as),(61,ar),(60,aq),(59,ap)]) ?_ ?_
 ·refine qs ee ee t (fun t=>?_) (fun t=>?_)
  ·refine mv_ ee<|mv_ ee<|v_ (db_ (n.1 == o.1)) ee<|v_ (db_ (n.1 == o.1)) ee<|q6 ?_
   obtain rfl:=someE t
   exact ⟨_,_,_,_,ee⟩
  refine q8 ee<|q8 ee<|q8 ee<|v_ (db_ false) ee<|q6 ?_
  obtain rfl:=someE t
  exact ⟨_,_,_,_,ee⟩
 rintro _ ⟨ap,aq,ar,as,rfl⟩
 obtain ⟨ck,u,a⟩:=bindE a
 refine qo 5 (fun A st=>∃ (au av aw ax : V),st = A [(68,db_ ck),(67,ax),(66,aw),(65,av),(64,au)]) ?_ ?_
 ·refine qs ee ee u (fun u=>?_) (fun u=>?_)
  ·refine mv_ ee<|mv_ ee<|v_ (db_ (n.2 == o.2)) ee<|v_ (db_ (n.2 == o.2)) ee<|q6 ?_
   obtain rfl:=someE u
   exact ⟨_,_,_,_,ee⟩
  refine q8 ee<|q8 ee<|q8 ee<|v_ (db_ false) ee<|q6 ?_
  obtain rfl:=someE u
  exact ⟨_,_,_,_,ee⟩
 rintro _ ⟨au,av,aw,ax,rfl⟩
 obtain ⟨cl,g,a⟩:=bindE a
 refine qo 9 (fun A st=>∃ (ay az ba bb bc bd be bf : V),st = A [(77,db_ cl),(76,bf),(75,be),(74,bd),(73,bc),(72,bb),(71,ba),(70,az),(69,ay)]) ?_ ?_
 ·refine qs ee ee g (fun g=>?_) (fun g=>?_)
  ·refine mv_ ee<|v_ (.d (.agg [i_ b.X,i_ b.Y,i_ b.Z])) ee ?_
   obtain ⟨w,cm,g⟩:=bindE g
   refine qu [.d (.sl 6 (f.map qa)),.d (.agg [i_ b.X,i_ b.Y,i_ b.Z])] (qnr f b w cm) ee ee ee (.inl ee)<|mv_ ee<|v_ (.d (.agg [i_ b.X,i_ b.Y,i_ b.Z])) ee ?_
   obtain ⟨x,cn,g⟩:=bindE g
   refine qu [.d (.sl 6 (c.map qa)),.d (.agg [i_ b.X,i_ b.Y,i_ b.Z])] (qq7 c b x cn) ee ee ee (.inl ee)<|v_ (db_ (w == x)) ee<|v_ (db_ (w == x)) ee<|q6 ?_
   obtain rfl:=someE g
   exact ⟨_,_,_,_,_,_,_,_,ee⟩
  refine q8 ee<|q8 ee<|q8 ee<|q8 ee<|q8 ee<|q8 ee<|q8 ee<|v_ (db_ false) ee<|q6 ?_
  obtain rfl:=someE g
  exact ⟨_,_,_,_,_,_,_,_,ee⟩
 rintro _ ⟨ay,az,ba,bb,bc,bd,be,bf,rfl⟩
 obtain ⟨co,h,a⟩:=bindE a
 refine qo 9 (fun A st=>∃ (bg bh bi bj bk bl bm bn : V),st = A [(86,db_ co),(85,bn),(84,bm),(83,bl),(82,bk),(81,bj),(80,bi),(79,bh),(78,bg)]) ?_ ?_
 ·refine qs ee ee h (fun h=>?_) (fun h=>?_)
  ·refine mv_ ee<|mv_ ee ?_
   obtain ⟨y,cp,h⟩:=bindE h
   refine qu [.d (.sl 6 (f.map qa)),.d (.sl 6 (j.map qa))] (qlk f j y cp) ee ee ee (.inl ee)<|mv_ ee<|mv_ ee ?_
   obtain ⟨z,cq,h⟩:=bindE h
   refine qu [.d (.sl 6 (c.map qa)),.d (.sl 6 (j.map qa))] (q7j c j z cq) ee ee ee (.inl ee)<|v_ (db_ (y == z)) ee<|v_ (db_ (y == z)) ee<|q6 ?_
   obtain rfl:=someE h
   exact ⟨_,_,_,_,_,_,_,_,ee⟩
  refine q8 ee<|q8 ee<|q8 ee<|q8 ee<|q8 ee<|q8 ee<|q8 ee<|v_ (db_ false) ee<|q6 ?_
  obtain rfl:=someE h
  exact ⟨_,_,_,_,_,_,_,_,ee⟩
 rintro _ ⟨bg,bh,bi,bj,bk,bl,bm,bn,rfl⟩
 obtain ⟨bo,q,a⟩:=bindE a
 refine qo 5 (fun A st=>∃ (bp bq br bs : V),st = A [(91,db_ bo),(90,bs),(89,br),(88,bq),(87,bp)]) ?_ ?_
 ·refine qs ee ee q (fun q=>?_) (fun q=>?_)
  ·refine mv_ ee<|mv_ ee ?_
   obtain ⟨bt,cr,q⟩:=bindE q
   refine qu [.d (.sl 6 (f.map qa)),.d (.sl 6 (c.map qa))] (q7j f c bt cr) ee ee ee (.inl ee)<|v_ (db_ bt) ee<|q6 ?_
   obtain rfl:=someE q
   exact ⟨_,_,_,_,ee⟩
  refine q8 ee<|q8 ee<|q8 ee<|v_ (db_ false) ee<|q6 ?_
  obtain rfl:=someE q
  exact ⟨_,_,_,_,ee⟩
 rintro _ ⟨bp,bq,br,bs,rfl⟩
 refine as_ ee<|q6<|qj ?_
 obtain rfl:=someE a
 exact finD (.inr ee) (v:=(db_ bo)) ee ee (.refl _)
end Go.Proofs.YtjjmcdlnadkjbaaGreat
