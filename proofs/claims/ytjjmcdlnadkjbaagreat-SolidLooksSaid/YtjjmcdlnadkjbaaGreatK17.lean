/- W_Allc -/
import Derived.Test.YtjjmcdlnadkjbaaGreatK16
namespace Go.Proofs.YtjjmcdlnadkjbaaGreat
open Go Go.Am Go.Sh
set_option maxHeartbeats 8000000
set_option maxRecDepth 100000
theorem qqq (g : List Int) (l : List Bool) (r : List qi) (n : q2l g l = some r) : Pure Tryz.prog tab 94 [.sl 1 (g.map (eI .i64)),.sl 1 (l.map eB)] (.sl 2 (r.map Qc)):=by
 unfold q2l at n
 refine Qb Tryz.func94 J (by kernel_rfl) (by kernel_rfl) J<|qa<|q8 J<|qp<|q8 J<|q9<|qe<|qa<|q8 J<|q9 ?_
 obtain ⟨s,aj,n⟩:=q7 n
 refine Q9 (fun h=>h = s) (fun (h : List qi)=>⟨[(5,.hs 0 2 0 h.length)],[(0,.dat 2 (h.map Qc))],1⟩) (by simp) ?_ ?_
 ·refine Q4 (q2m g l) (fun (b : Int × List qi)=>⟨[(0,.d (.sl 1 (g.map (eI .i64)))),(1,.d (.sl 1 (l.map eB))),(5,.hs 0 2 0 b.2.length),(6,q6 b.1)],[(0,.dat 2 (b.2.map Qc))],1⟩) (0,[]) s aj (wkA [] [] [0]) ?_
  intro b av f
  unfold q2m at f
  refine qe<|qa<|U J<|O (.d (G (w64 (b.1 + 1)))) J<|U J<|Qg J<|O (.d (.bool (decide ((w64 (b.1 + 1)) < (g.length : Int))))) J<|q9 ?_
  refine qj J f (fun _ f=>?_) (fun _ f=>?_)
  ·refine qk<|qe ?_
   obtain ⟨ak,a,f⟩:=q7 f
   refine Q9 (fun m=>m = ak) (fun (m : List qi)=>⟨[(0,.d (.sl 1 (g.map (eI .i64)))),(1,.d (.sl 1 (l.map eB))),(5,.hs 0 2 0 m.length),(6,q6 b.1)],[(0,.dat 2 (m.map Qc))],1⟩) (by simp) ?_ ?_
   ·refine qe<|qa<|U J<|U J ?_
    obtain ⟨t,al,a⟩:=q7 a
    refine Q3 (enc:=eB) al J<|O (qf t) J<|O (qf (!t)) J<|q9 ?_
    refine qj J a (fun _ a=>?_) (fun _ a=>?_)
    ·refine Q1 ?_
     obtain rfl:=qc a
     exact ⟨_,J,wkA [(0,0)] [] []⟩
    refine qk<|qa<|U J<|O (q6 (b.2.length : Int)) J<|q8 J<|q9<|qe<|Q2 [q0,q0,q0,q0,q0,q0,qm 0,q0,q0,q0,q0,q0,q0,q0,q0] (by kernel_rfl)<|U J<|O (.d (.bool (decide ((b.2.length : Int) > 0)))) J ?_
    obtain ⟨am,c,a⟩:=q7 a
    refine Q5 13 (fun A st=>∃ (u w x y z aa ab ac ad ae af ag : V),st = A [(36,qf am),(35,ag),(34,af),(33,ae),(32,ad),(31,ac),(30,ab),(29,aa),(28,z),(27,y),(26,x),(25,w),(24,u)]) ?_ ?_
    ·refine Q6 J J c (fun c=>?_) (fun c=>?_)
     ·refine U J<|U J<|O (.d (G (w64 ((b.2.length : Int) - 1)))) J ?_
      obtain ⟨o,ah,c⟩:=q7 c
      refine qn ah J J<|O (.ref 0 2 (w64 ((b.2.length : Int) - 1)).toNat 1) J<|qx (q6 o.Hi) ah J<|U J<|U J ?_
      obtain ⟨p,an,c⟩:=q7 c
      refine Q3 (enc:=(eI .i64)) an J<|O (q6 p) J<|O (qf (o.Hi == p)) J<|O (qf (o.Hi == p)) J<|q9 ?_
      obtain rfl:=qc c
      exact ⟨_,_,_,_,_,_,_,_,_,_,_,_,J⟩
     refine qb J<|qb J<|qb J<|qb J<|qb J<|qb J<|qb J<|qb J<|qb J<|qb J<|qb J<|O (qf false) J<|q9 ?_
     obtain rfl:=qc c
     exact ⟨_,_,_,_,_,_,_,_,_,_,_,_,J⟩
    rintro _ ⟨u,w,x,y,z,aa,ab,ac,ad,ae,af,ag,rfl⟩
    refine q9 ?_
    refine qj J a (fun _ a=>?_) (fun _ a=>?_)
    ·refine qt<|U J<|U J<|O (.d (G (w64 ((b.2.length : Int) - 1)))) J<|U J<|U J<|O (.d (G (w64 (b.1 + 1)))) J ?_
     obtain ⟨q,ao,a⟩:=q7 a
     refine Q3 (enc:=(eI .i64)) ao J<|O (q6 q) J ?_
     obtain ⟨ap,ai,a⟩:=q7 a
     refine qn ai J J<|O (.ref 0 2 (w64 ((b.2.length : Int) - 1)).toNat 1) J<|Qi (ds:=[G q]) ({Lo:=ap.Lo,Hi:=q} : qi) ai J J J J J J J J (leb J) J<|qq ?_
     obtain rfl:=qc a
     exact ⟨_,J,wkE [(0,0)] [] [] J ⟨⟨_,J,.d (.refl _)⟩,⟨_,J,.d (.refl _)⟩,⟨_,J,Ql (by simp) J (by decide) (ltd J)⟩,⟨_,J,.d (.refl _)⟩,trivial⟩ ⟨⟨ltd J,.inr ⟨by decide,_,J,.dat _ _⟩⟩,trivial⟩⟩
    refine Q2 [q0,(some [0,1],[0,2]),(some [],[1]),q0,q0,q0,q0,q0,q0,q0,q0,q0,q0,q0] (by kernel_rfl)<|U J<|U J<|U J ?_
    obtain ⟨j,aq,a⟩:=q7 a
    refine Q3 (enc:=(eI .i64)) aq J<|O (q6 j) J<|U J<|U J<|O (.d (G (w64 (b.1 + 1)))) J ?_
    obtain ⟨k,ar,a⟩:=q7 a
    refine Q3 (enc:=(eI .i64)) ar J<|O (q6 k) J<|O (.d (.agg [G j,G k])) J<|Qe (.hs 1 2 0 [({Lo:=j,Hi:=k} : qi)].length) (.dat 2 ([({Lo:=j,Hi:=k} : qi)].map Qc)) J ?_
    obtain ⟨aw,au,a⟩:=q7 a
    refine Kl (xs:=b.2) (ys:=[({Lo:=j,Hi:=k} : qi)]) (enc:=Qc) (.hs 1 2 0 [({Lo:=j,Hi:=k} : qi)].length) au J J J J J J J (Ki J J) J J J J<|q8 J<|qq ?_
    obtain rfl:=qc a
    exact ⟨_,J,wkA [(0,2)] [] []⟩
   intro m hb
   subst hb
   refine qt<|U J<|O (.d (G (w64 (b.1 + 1)))) J<|q8 J<|qq ?_
   exact ⟨_,(Option.some.inj f).symm,wkA [(0,0)] [] []⟩
  refine Q1 ?_
  refine ⟨_,(Option.some.inj f).symm,fun hm=>?_⟩
  subst hm
  exact ⟨_,J,wkA [(0,0)] [] []⟩
 intro h hb
 subst hb
 refine qa<|U J<|q8 J<|qo ?_
 obtain rfl:=qc n
 exact finD (.inr J) (v:=.hs 0 2 0 h.length) J (Jf J J) (.refl _)
theorem qqt (c : List qi) (f : List qi) (r : Bool) (b : q4m c f = some r) : Pure Tryz.prog tab 95 [.sl 2 (c.map Qc),.sl 2 (f.map Qc)] (.bool r):=by
 unfold q4m at b
 refine Qb Tryz.func95 J (by kernel_rfl) (by kernel_rfl) J<|qa<|q8 J<|q9<|qe<|qa<|U J<|Qg J<|U J<|Qg J<|O (.d (.bool ((c.length : Int) != (f.length : Int)))) J<|q9 ?_
 refine qj J b (fun _ b=>?_) (fun _ b=>?_)
 ·refine qa<|q8 J<|qo ?_
  obtain rfl:=qc b
  exact qy (qf false) J
 refine qk<|qe<|qa<|q8 J<|q9 ?_
 obtain ⟨l,m,b⟩:=q7 b
 refine Q9 (fun k=>.inl k = l) (fun (k : Unit)=>⟨[],[],0⟩) (by simp) ?_ ?_
 ·refine Q4 (qa8 c f) (fun (g : Int)=>⟨[(0,.d (.sl 2 (c.map Qc))),(1,.d (.sl 2 (f.map Qc))),(5,q6 g)],[],0⟩) 0 l m (wkA [] [] []) ?_
  intro g p a
  unfold qa8 at a
  refine qe<|qa<|U J<|U J<|Qg J<|O (.d (.bool (decide (g < (c.length : Int))))) J<|q9 ?_
  refine qj J a (fun _ a=>?_) (fun _ a=>?_)
  ·refine qk<|qe<|qw<|qe<|Q2 [q0,q0,q0,q0,q0,q0,q0,q0,q0] (by kernel_rfl)<|U J<|U J ?_
   obtain ⟨h,n,a⟩:=q7 a
   refine Q3 (enc:=Qc) n J<|O (.d (.agg [G h.Lo,G h.Hi])) J<|U J<|U J ?_
   obtain ⟨j,o,a⟩:=q7 a
   refine Q3 (enc:=Qc) o J<|O (.d (.agg [G j.Lo,G j.Hi])) J<|O (.d (.bool (!((h.Lo == j.Lo) && ((h.Hi == j.Hi) && true))))) J<|q9 ?_
   refine qj J a (fun _ a=>?_) (fun _ a=>?_)
   ·refine qa<|q8 J<|qo ?_
    refine ⟨_,(Option.some.inj a).symm,fun hm=>?_⟩
    subst hm
    obtain rfl:=qc b
    exact qy (qf false) J
   refine qk<|Q8<|Qa<|qt<|U J<|O (.d (G (w64 (g + 1)))) J<|q8 J<|qq ?_
   exact ⟨_,(Option.some.inj a).symm,wkA [] [] []⟩
  refine Q1 ?_
  refine ⟨_,(Option.some.inj a).symm,fun hm=>?_⟩
  subst hm
  exact ⟨_,J,wkA [] [] []⟩
 intro k hb
 subst hb
 refine qa<|q8 J<|qo ?_
 obtain rfl:=qc b
 exact qy (qf true) J
theorem qa9 (k : Int) (f : List qh) (g : List qh) (r : List qh) (o : Z7 k f g = some r) : Pure Tryz.prog tab 67 [G k,.sl 4 (f.map qs),.sl 4 (g.map qs)] (.sl 4 (r.map qs)):=by
 unfold Z7 at o
 refine Qb Tryz.func67 J (by kernel_rfl) (by kernel_rfl) J<|qa<|q8 J<|qp<|U J<|U J ?_
 obtain ⟨j,h2,o⟩:=q7 o
 refine qv (qqx f g j h2) J<|U J<|U J ?_
 obtain ⟨l,h4,o⟩:=q7 o
 refine qv (qqz f g l h4) J<|q8 J<|q8 J<|qp<|q8 J<|qp<|q8 J<|qp<|q8 J<|q9<|qe<|qa<|q8 J<|q9 ?_
 obtain ⟨ah,ba,o⟩:=q7 o
 refine Q9 (fun z=>z = ah) (fun (z : List qh)=>⟨[(9,.hs 0 4 0 z.length)],[(0,.dat 4 (z.map qs))],1⟩) (by simp) ?_ ?_
 ·refine Q4 (q1k j l f g k) (fun (a : List qi × Int × Int × List qh)=>⟨[(0,q6 k),(1,.d (.sl 4 (f.map qs))),(2,.d (.sl 4 (g.map qs))),(7,.d (.sl 1 (j.map (eI .i64)))),(8,.d (.sl 1 (l.map (eI .i64)))),(9,.hs 0 4 0 a.2.2.2.length),(10,.d (.sl 2 (a.1.map Qc))),(11,q6 a.2.1),(12,q6 a.2.2.1)],[(0,.dat 4 (a.2.2.2.map qs))],1⟩) ([],0,0,[]) ah ba (wkA [] [] [0]) ?_
  intro a bx p
  unfold q1k at p
  refine qe<|qa<|U J<|O (.d (G (w64 (a.2.2.1 + 1)))) J<|U J<|Qg J<|O (.d (.bool (decide ((w64 (a.2.2.1 + 1)) < (j.length : Int))))) J<|q9 ?_
  refine qj J p (fun _ p=>?_) (fun _ p=>?_)
  ·refine qk<|qe ?_
   obtain ⟨bb,h,p⟩:=q7 p
   refine Q9 (fun t=>t = bb) (fun (t : List qi × Int × List qh)=>⟨[(0,q6 k),(1,.d (.sl 4 (f.map qs))),(2,.d (.sl 4 (g.map qs))),(7,.d (.sl 1 (j.map (eI .i64)))),(8,.d (.sl 1 (l.map (eI .i64)))),(9,.hs 0 4 0 t.2.2.length),(10,.d (.sl 2 (t.1.map Qc))),(11,q6 t.2.1),(12,q6 a.2.2.1)],[(0,.dat 4 (t.2.2.map qs))],1⟩) (by simp) ?_ ?_
   ·refine qa<|q8 J<|q9<|qe<|qa<|q8 J<|q9 ?_
    obtain ⟨ai,bc,h⟩:=q7 h
    refine Q9 (fun u=>u = ai) (fun (u : List Bool)=>⟨[(0,q6 k),(1,.d (.sl 4 (f.map qs))),(2,.d (.sl 4 (g.map qs))),(7,.d (.sl 1 (j.map (eI .i64)))),(8,.d (.sl 1 (l.map (eI .i64)))),(9,.hs 0 4 0 a.2.2.2.length),(10,.d (.sl 2 (a.1.map Qc))),(11,q6 a.2.1),(12,q6 a.2.2.1),(13,.hs 1 1 0 u.length)],[(0,.dat 4 (a.2.2.2.map qs)),(1,.dat 1 (u.map eB))],2⟩) (by simp) ?_ ?_
    ·refine Q4 (q2p l j a f g k) (fun (w : Int × List Bool)=>⟨[(0,q6 k),(1,.d (.sl 4 (f.map qs))),(2,.d (.sl 4 (g.map qs))),(7,.d (.sl 1 (j.map (eI .i64)))),(8,.d (.sl 1 (l.map (eI .i64)))),(9,.hs 0 4 0 a.2.2.2.length),(10,.d (.sl 2 (a.1.map Qc))),(11,q6 a.2.1),(12,q6 a.2.2.1),(13,.hs 1 1 0 w.2.length),(14,q6 w.1)],[(0,.dat 4 (a.2.2.2.map qs)),(1,.dat 1 (w.2.map eB))],2⟩) (0,[]) ai bc (wkA [(0,0)] [] [1]) ?_
     intro w bz b
     unfold q2p at b
     refine qe<|qa<|U J<|U J<|Qg J<|O (.d (.bool (decide (w.1 < (l.length : Int))))) J<|q9 ?_
     refine qj J b (fun _ b=>?_) (fun _ b=>?_)
     ·refine qk<|qe<|qw<|Q2 [q0,(some [1,2],[1,3]),(some [],[2]),q0,q0,q0,q0,q0,q0,q0,q0,q0,q0,q0,q0,q0,q0,q0,q0,q0,q0,q0,q0,q0,q0,q0] (by kernel_rfl)<|U J<|U J<|U J<|U J<|U J ?_
      obtain ⟨aj,bd,b⟩:=q7 b
      refine Q3 (enc:=(eI .i64)) bd J<|O (q6 aj) J<|U J<|U J ?_
      obtain ⟨ak,be,b⟩:=q7 b
      refine Q3 (enc:=(eI .i64)) be J<|O (q6 ak) J ?_
      obtain ⟨al,bf,b⟩:=q7 b
      refine qv (qij f aj ak al bf) J<|U J<|U J<|U J ?_
      obtain ⟨am,bg,b⟩:=q7 b
      refine Q3 (enc:=(eI .i64)) bg J<|O (q6 am) J<|U J<|U J ?_
      obtain ⟨an,bh,b⟩:=q7 b
      refine Q3 (enc:=(eI .i64)) bh J<|O (q6 an) J ?_
      obtain ⟨ao,bi,b⟩:=q7 b
      refine qv (qij g am an ao bi) J ?_
      obtain ⟨ad,bj,b⟩:=q7 b
      refine qv (qqs k al ao ad bj) J<|Qe (.hs 2 1 0 [ad].length) (.dat 1 ([ad].map eB)) J ?_
      obtain ⟨ca,bk,b⟩:=q7 b
      refine Kl (xs:=w.2) (ys:=[ad]) (enc:=eB) (.hs 2 1 0 [ad].length) bk J J J J J J J (Ki J J) J J J J<|q8 J<|qq<|Qa<|qt<|U J<|O (.d (G (w64 (w.1 + 1)))) J<|q8 J<|qq ?_
      exact ⟨_,(Option.some.inj b).symm,wkA [(0,0),(1,3)] [] []⟩
     refine Q1 ?_
     refine ⟨_,(Option.some.inj b).symm,fun hm=>?_⟩
     subst hm
     exact ⟨_,J,wkA [(0,0),(1,1)] [] []⟩
    intro u hb
    subst hb
    refine qe ?_
    refine Ym (st':=⟨[(0,q6 k),(1,.d (.sl 4 (f.map qs))),(2,.d (.sl 4 (g.map qs))),(7,.d (.sl 1 (j.map (eI .i64)))),(8,.d (.sl 1 (l.map (eI .i64)))),(9,.hs 0 4 0 a.2.2.2.length),(10,.d (.sl 2 (a.1.map Qc))),(11,q6 a.2.1),(12,q6 a.2.2.1),(13,.d (.sl 1 (u.map eB)))],[(0,.dat 4 (a.2.2.2.map qs))],1⟩) (wkA [(0,0)] [1] []) ?_ (by simp)
    refine qt<|U J<|U J ?_
    obtain ⟨aa,bl,h⟩:=q7 h
    refine qv (qqq l u aa bl) J<|q8 J<|q9<|qe<|qa<|U J<|O (.d (.bool (decide (a.2.2.1 > 0)))) J ?_
    obtain ⟨bm,x,h⟩:=q7 h
    refine Q5 5 (fun A st=>∃ (ap aq ar au : V),st = A [(71,qf bm),(70,au),(69,ar),(68,aq),(67,ap)]) ?_ ?_
    ·refine Q6 J J x (fun x=>?_) (fun x=>?_)
     ·refine U J<|U J ?_
      obtain ⟨av,bn,x⟩:=q7 x
      refine qv (qqt aa a.1 av bn) J<|O (qf av) J<|q9 ?_
      obtain rfl:=qc x
      exact ⟨_,_,_,_,J⟩
     refine qb J<|qb J<|qb J<|O (qf false) J<|q9 ?_
     obtain rfl:=qc x
     exact ⟨_,_,_,_,J⟩
    rintro _ ⟨ap,aq,ar,au,rfl⟩
    refine q9 ?_
    refine qj J h (fun _ h=>?_) (fun _ h=>?_)
    ·refine qe<|qa<|U J<|q8 J<|q9 ?_
     obtain ⟨aw,bo,h⟩:=q7 h
     refine Q9 (fun ae=>ae = aw) (fun (ae : List qh)=>⟨[(0,q6 k),(1,.d (.sl 4 (f.map qs))),(2,.d (.sl 4 (g.map qs))),(7,.d (.sl 1 (j.map (eI .i64)))),(8,.d (.sl 1 (l.map (eI .i64)))),(9,.hs 0 4 0 ae.length),(10,.d (.sl 2 (a.1.map Qc))),(11,q6 a.2.1),(12,q6 a.2.2.1)],[(0,.dat 4 (ae.map qs))],1⟩) (by simp) ?_ ?_
     ·refine Q4 (q2q j a) (fun (n : Int × List qh)=>⟨[(0,q6 k),(1,.d (.sl 4 (f.map qs))),(2,.d (.sl 4 (g.map qs))),(7,.d (.sl 1 (j.map (eI .i64)))),(8,.d (.sl 1 (l.map (eI .i64)))),(9,.hs 0 4 0 n.2.length),(10,.d (.sl 2 (a.1.map Qc))),(11,q6 a.2.1),(12,q6 a.2.2.1),(16,q6 n.1)],[(0,.dat 4 (n.2.map qs))],1⟩) (a.2.1,a.2.2.2) aw bo (wkA [(0,0)] [] []) ?_
      intro n cb m
      unfold q2q at m
      refine qe<|qa<|U J<|U J<|O (q6 (n.2.length : Int)) J<|O (.d (.bool (decide (n.1 < (n.2.length : Int))))) J<|q9 ?_
      refine qj J m (fun _ m=>?_) (fun _ m=>?_)
      ·refine qk<|qe<|qw<|qt<|U J<|U J<|U J<|U J<|O (.d (G (w64 (a.2.2.1 + 1)))) J ?_
       obtain ⟨af,bp,m⟩:=q7 m
       refine Q3 (enc:=(eI .i64)) bp J<|O (q6 af) J ?_
       obtain ⟨ag,ax,m⟩:=q7 m
       refine qn ax J J<|O (.ref 0 4 n.1.toNat 2) J<|Qi (ds:=[G af]) ({X0:=ag.X0,Y0:=ag.Y0,X1:=af,Y1:=ag.Y1} : qh) ax J J J J J J J J (leb J) J<|qq<|Qa<|qt<|U J<|O (.d (G (w64 (n.1 + 1)))) J<|q8 J<|qq ?_
       exact ⟨_,(Option.some.inj m).symm,wkE [(0,0)] [] [] J ⟨⟨_,J,.d (.refl _)⟩,⟨_,J,.d (.refl _)⟩,⟨_,J,.d (.refl _)⟩,⟨_,J,.d (.refl _)⟩,⟨_,J,.d (.refl _)⟩,⟨_,J,Ql (by simp) J (by decide) (ltd J)⟩,⟨_,J,.d (.refl _)⟩,⟨_,J,.d (.refl _)⟩,⟨_,J,.d (.refl _)⟩,⟨_,J,.d (.refl _)⟩,trivial⟩ ⟨⟨ltd J,.inr ⟨by decide,_,J,.dat _ _⟩⟩,trivial⟩⟩
      refine Q1 ?_
      refine ⟨_,(Option.some.inj m).symm,fun hm=>?_⟩
      subst hm
      exact ⟨_,J,wkA [(0,0)] [] []⟩
     intro ae hb
     subst hb
     refine Q1 ?_
     obtain rfl:=qc h
     exact ⟨_,J,wkA [(0,0)] [] []⟩
    refine qk<|qa<|U J<|O (q6 (a.2.2.2.length : Int)) J<|U J<|q8 J<|q8 J<|qp<|q8 J<|q9 ?_
    obtain ⟨bq,br,h⟩:=q7 h
    refine qw<|Q4 (q4o aa j a) (fun (y : Int × List qh)=>⟨[(0,q6 k),(1,.d (.sl 4 (f.map qs))),(2,.d (.sl 4 (g.map qs))),(7,.d (.sl 1 (j.map (eI .i64)))),(8,.d (.sl 1 (l.map (eI .i64)))),(9,.hs 0 4 0 y.2.length),(10,.d (.sl 2 (aa.map Qc))),(11,q6 (a.2.2.2.length : Int)),(12,q6 a.2.2.1),(15,.d (.sl 2 (aa.map Qc))),(17,q6 y.1)],[(0,.dat 4 (y.2.map qs))],1⟩) (0,a.2.2.2) bq br (wkA [(0,0)] [] []) ?_
    intro y cc c
    unfold q4o at c
    refine qe<|qa<|U J<|U J<|Qg J<|O (.d (.bool (decide (y.1 < (aa.length : Int))))) J<|q9 ?_
    refine qj J c (fun _ c=>?_) (fun _ c=>?_)
    ·refine qk<|qe<|qw<|Q2 [q0,(some [0,1],[0,2]),(some [],[1]),q0,q0,q0,q0,q0,q0,q0,q0,q0,q0,q0,q0,q0,q0,q0,q0,q0,q0,q0,q0,q0] (by kernel_rfl)<|U J<|U J<|U J ?_
     obtain ⟨ab,bs,c⟩:=q7 c
     refine Q3 (enc:=(eI .i64)) bs J<|O (q6 ab) J<|U J<|U J ?_
     obtain ⟨q,bt,c⟩:=q7 c
     refine Q3 (enc:=Qc) bt J<|O (.dref [G q.Lo,G q.Hi] 0) J<|O (q6 q.Lo) J<|U J<|U J<|O (.d (G (w64 (a.2.2.1 + 1)))) J ?_
     obtain ⟨ac,bu,c⟩:=q7 c
     refine Q3 (enc:=(eI .i64)) bu J<|O (q6 ac) J<|U J<|U J ?_
     obtain ⟨s,bv,c⟩:=q7 c
     refine Q3 (enc:=Qc) bv J<|O (.dref [G s.Lo,G s.Hi] 1) J<|O (q6 s.Hi) J<|O (.d (.agg [G ab,G q.Lo,G ac,G s.Hi])) J<|Qe (.hs 1 4 0 [({X0:=ab,Y0:=q.Lo,X1:=ac,Y1:=s.Hi} : qh)].length) (.dat 4 ([({X0:=ab,Y0:=q.Lo,X1:=ac,Y1:=s.Hi} : qh)].map qs)) J ?_
     obtain ⟨cd,bw,c⟩:=q7 c
     refine Kl (xs:=y.2) (ys:=[({X0:=ab,Y0:=q.Lo,X1:=ac,Y1:=s.Hi} : qh)]) (enc:=qs) (.hs 1 4 0 [({X0:=ab,Y0:=q.Lo,X1:=ac,Y1:=s.Hi} : qh)].length) bw J J J J J J J (Ki J J) J J J J<|q8 J<|qq<|Qa<|qt<|U J<|O (.d (G (w64 (y.1 + 1)))) J<|q8 J<|qq ?_
     exact ⟨_,(Option.some.inj c).symm,wkA [(0,2)] [] []⟩
    refine Q1 ?_
    refine ⟨_,(Option.some.inj c).symm,fun hm=>?_⟩
    subst hm
    obtain rfl:=qc h
    exact ⟨_,J,wkA [(0,0)] [] []⟩
   intro t hb
   subst hb
   refine qt<|U J<|O (.d (G (w64 (a.2.2.1 + 1)))) J<|q8 J<|qq ?_
   exact ⟨_,(Option.some.inj p).symm,wkA [(0,0)] [] []⟩
  refine Q1 ?_
  refine ⟨_,(Option.some.inj p).symm,fun hm=>?_⟩
  subst hm
  exact ⟨_,J,wkA [(0,0)] [] []⟩
 intro z hb
 subst hb
 refine qa<|U J<|q8 J<|qo ?_
 obtain rfl:=qc o
 exact finD (.inr J) (v:=.hs 0 4 0 z.length) J (Jf J J) (.refl _)
theorem qik (g : List qh) (h : List qh) (r : Bool) (b : q2s g h = some r) : Pure Tryz.prog tab 36 [.sl 4 (g.map qs),.sl 4 (h.map qs)] (.bool r):=by
 unfold q2s at b
 refine Qb Tryz.func36 J (by kernel_rfl) (by kernel_rfl) J<|qa<|q8 J<|q9<|qe<|qa<|U J<|Qg J<|U J<|Qg J<|O (.d (.bool ((g.length : Int) != (h.length : Int)))) J<|q9 ?_
 refine qj J b (fun _ b=>?_) (fun _ b=>?_)
 ·refine qa<|q8 J<|qo ?_
  obtain rfl:=qc b
  exact qy (qf false) J
 refine qk<|qe<|qa<|q8 J<|q9 ?_
 obtain ⟨l,m,b⟩:=q7 b
 refine Q9 (fun k=>.inl k = l) (fun (k : Unit)=>⟨[],[],0⟩) (by simp) ?_ ?_
 ·refine Q4 (qaa g h) (fun (j : Int)=>⟨[(0,.d (.sl 4 (g.map qs))),(1,.d (.sl 4 (h.map qs))),(5,q6 j)],[],0⟩) 0 l m (wkA [] [] []) ?_
  intro j p a
  unfold qaa at a
  refine qe<|qa<|U J<|U J<|Qg J<|O (.d (.bool (decide (j < (g.length : Int))))) J<|q9 ?_
  refine qj J a (fun _ a=>?_) (fun _ a=>?_)
  ·refine qk<|qe<|qw<|qe<|Q2 [q0,q0,q0,q0,q0,q0,q0,q0,q0] (by kernel_rfl)<|U J<|U J ?_
   obtain ⟨c,n,a⟩:=q7 a
   refine Q3 (enc:=qs) n J<|O (.d (.agg [G c.X0,G c.Y0,G c.X1,G c.Y1])) J<|U J<|U J ?_
   obtain ⟨f,o,a⟩:=q7 a
   refine Q3 (enc:=qs) o J<|O (.d (.agg [G f.X0,G f.Y0,G f.X1,G f.Y1])) J<|O (.d (.bool (!((c.X0 == f.X0) && ((c.Y0 == f.Y0) && ((c.X1 == f.X1) && ((c.Y1 == f.Y1) && true))))))) J<|q9 ?_
   refine qj J a (fun _ a=>?_) (fun _ a=>?_)
   ·refine qa<|q8 J<|qo ?_
    refine ⟨_,(Option.some.inj a).symm,fun hm=>?_⟩
    subst hm
    obtain rfl:=qc b
    exact qy (qf false) J
   refine qk<|Q8<|Qa<|qt<|U J<|O (.d (G (w64 (j + 1)))) J<|q8 J<|qq ?_
   exact ⟨_,(Option.some.inj a).symm,wkA [] [] []⟩
  refine Q1 ?_
  refine ⟨_,(Option.some.inj a).symm,fun hm=>?_⟩
  subst hm
  exact ⟨_,J,wkA [] [] []⟩
 intro k hb
 subst hb
 refine qa<|q8 J<|qo ?_
 obtain rfl:=qc b
 exact qy (qf true) J
theorem qip (s : Int) (f : List qd) (g : List qd) (r : List qd × Bool) (w : q1m s f g = some r) : Pure Tryz.prog tab 55 [G s,.sl 6 (f.map qr),.sl 6 (g.map qr)] (.tup [.sl 6 (r.1.map qr),.bool r.2]):=by
 unfold q1m at w
 refine Qb Tryz.func55 J (by kernel_rfl) (by kernel_rfl) J<|qa<|q8 J<|q8 J<|qp<|U J<|U J ?_
 obtain ⟨o,h2,w⟩:=q7 w
 refine qv (qr8 f g o h2) J<|q8 J<|qp<|q8 J<|qp<|q8 J<|qp<|q8 J<|q9<|qe<|qa<|q8 J<|q9 ?_
 obtain ⟨ai,bv,w⟩:=q7 w
 refine Q9 (fun t=>.inl t = ai) (fun (t : List qd)=>⟨[(9,.hs 0 6 0 t.length)],[(0,.dat 6 (t.map qr))],1⟩) (by simp) ?_ ?_
 ·refine Q4 (Up o f g s) (fun (b : List qh × Int × Int × List qd)=>⟨[(0,q6 s),(1,.d (.sl 6 (f.map qr))),(2,.d (.sl 6 (g.map qr))),(8,.d (.sl 1 (o.map (eI .i64)))),(9,.hs 0 6 0 b.2.2.2.length),(10,.d (.sl 4 (b.1.map qs))),(11,q6 b.2.1),(12,q6 b.2.2.1)],[(0,.dat 6 (b.2.2.2.map qr))],1⟩) ([],0,0,[]) ai bv (wkA [] [] [0]) ?_
  intro b cy u
  unfold Up at u
  refine qe<|qa<|U J<|O (.d (G (w64 (b.2.2.1 + 1)))) J<|U J<|Qg J<|O (.d (.bool (decide ((w64 (b.2.2.1 + 1)) < (o.length : Int))))) J<|q9 ?_
  refine qj J u (fun _ u=>?_) (fun _ u=>?_)
  ·refine qk<|qe ?_
   obtain ⟨bw,a,u⟩:=q7 u
   refine Q9 (fun x=>.inl x = bw) (fun (x : List qh × Int × List qd)=>⟨[(0,q6 s),(1,.d (.sl 6 (f.map qr))),(2,.d (.sl 6 (g.map qr))),(8,.d (.sl 1 (o.map (eI .i64)))),(9,.hs 0 6 0 x.2.2.length),(10,.d (.sl 4 (x.1.map qs))),(11,q6 x.2.1),(12,q6 b.2.2.1)],[(0,.dat 6 (x.2.2.map qr))],1⟩) (by simp) ?_ ?_
   ·refine qe<|Q2 [q0,q0,q0,q0,q0,q0,q0,q0,q0,q0,q0,q0,q0,q0,q0] (by kernel_rfl)<|U J<|U J<|U J<|U J ?_
    obtain ⟨aj,bx,a⟩:=q7 a
    refine Q3 (enc:=(eI .i64)) bx J<|O (q6 aj) J ?_
    obtain ⟨ak,bz,a⟩:=q7 a
    refine qv (q77 f aj ak bz) J<|U J<|U J<|U J ?_
    obtain ⟨al,ca,a⟩:=q7 a
    refine Q3 (enc:=(eI .i64)) ca J<|O (q6 al) J ?_
    obtain ⟨am,cb,a⟩:=q7 a
    refine qv (q77 g al am cb) J ?_
    obtain ⟨y,cc,a⟩:=q7 a
    refine qv (qa9 s ak am y cc) J<|q8 J<|q9<|qe<|qa<|U J<|Qg J<|O (.d (.bool (decide ((y.length : Int) > 400)))) J ?_
    obtain ⟨cd,h,a⟩:=q7 a
    refine Q5 11 (fun A st=>∃ (an ao ap aq ar au av aw ax ay : V),st = A [(53,qf cd),(52,ay),(51,ax),(50,aw),(49,av),(48,au),(47,ar),(46,aq),(45,ap),(44,ao),(43,an)]) ?_ ?_
    ·refine Q6 J J h (fun h=>?_) (fun h=>?_)
     ·refine qb J<|qb J<|qb J<|qb J<|qb J<|qb J<|qb J<|qb J<|qb J<|O (qf true) J<|q9 ?_
      obtain rfl:=qc h
      exact ⟨_,_,_,_,_,_,_,_,_,_,J⟩
     refine U J<|U J<|U J ?_
     obtain ⟨az,ce,h⟩:=q7 h
     refine Q3 (enc:=(eI .i64)) ce J<|O (q6 az) J ?_
     obtain ⟨ba,cf,h⟩:=q7 h
     refine qv (q77 f az ba cf) J ?_
     obtain ⟨ae,cg,h⟩:=q7 h
     refine qv (q4k (.cons (.refl _) (.cons (.refl _) (.cons (.nil _) .nil))) (qa9 2 ba [] ae cg)) J<|Qg J<|O (.d (.bool (decide ((ae.length : Int) > 400)))) J<|O (.d (.bool (decide ((ae.length : Int) > 400)))) J<|q9 ?_
     obtain rfl:=qc h
     exact ⟨_,_,_,_,_,_,_,_,_,_,J⟩
    rintro _ ⟨an,ao,ap,aq,ar,au,av,aw,ax,ay,rfl⟩
    obtain ⟨ch,j,a⟩:=q7 a
    refine Q5 11 (fun A st=>∃ (bb bc bd be bf bg bh bi bj bk : V),st = A [(64,qf ch),(63,bk),(62,bj),(61,bi),(60,bh),(59,bg),(58,bf),(57,be),(56,bd),(55,bc),(54,bb)]) ?_ ?_
    ·refine Q6 J J j (fun j=>?_) (fun j=>?_)
     ·refine qb J<|qb J<|qb J<|qb J<|qb J<|qb J<|qb J<|qb J<|qb J<|O (qf true) J<|q9 ?_
      obtain rfl:=qc j
      exact ⟨_,_,_,_,_,_,_,_,_,_,J⟩
     refine U J<|U J<|U J ?_
     obtain ⟨bl,ci,j⟩:=q7 j
     refine Q3 (enc:=(eI .i64)) ci J<|O (q6 bl) J ?_
     obtain ⟨bm,cj,j⟩:=q7 j
     refine qv (q77 g bl bm cj) J ?_
     obtain ⟨af,ck,j⟩:=q7 j
     refine qv (q4k (.cons (.refl _) (.cons (.refl _) (.cons (.nil _) .nil))) (qa9 2 bm [] af ck)) J<|Qg J<|O (.d (.bool (decide ((af.length : Int) > 400)))) J<|O (.d (.bool (decide ((af.length : Int) > 400)))) J<|q9 ?_
     obtain rfl:=qc j
     exact ⟨_,_,_,_,_,_,_,_,_,_,J⟩
    rintro _ ⟨bb,bc,bd,be,bf,bg,bh,bi,bj,bk,rfl⟩
    refine q9 ?_
    refine qj J a (fun _ a=>?_) (fun _ a=>?_)
    ·refine qa<|q8 J<|q8 J<|qo ?_
     obtain rfl:=qc a
     refine ⟨_,(Option.some.inj u).symm,fun hm=>?_⟩
     subst hm
     obtain rfl:=qc w
     exact finD (.inr J) (v:=.d (.tup [.nilsl,.bool false])) J J (Kx (.cons (.nil _) (.cons (.refl _) .nil)))
    refine qk<|qe<|qa<|U J<|O (.d (.bool (decide (b.2.2.1 > 0)))) J ?_
    obtain ⟨cl,z,a⟩:=q7 a
    refine Q5 5 (fun A st=>∃ (bn bo bp bq : V),st = A [(71,qf cl),(70,bq),(69,bp),(68,bo),(67,bn)]) ?_ ?_
    ·refine Q6 J J z (fun z=>?_) (fun z=>?_)
     ·refine U J<|U J ?_
      obtain ⟨br,cm,z⟩:=q7 z
      refine qv (qik y b.1 br cm) J<|O (qf br) J<|q9 ?_
      obtain rfl:=qc z
      exact ⟨_,_,_,_,J⟩
     refine qb J<|qb J<|qb J<|O (qf false) J<|q9 ?_
     obtain rfl:=qc z
     exact ⟨_,_,_,_,J⟩
    rintro _ ⟨bn,bo,bp,bq,rfl⟩
    refine q9 ?_
    refine qj J a (fun _ a=>?_) (fun _ a=>?_)
    ·refine qe<|qa<|U J<|q8 J<|q9 ?_
     obtain ⟨bs,cn,a⟩:=q7 a
     refine Q9 (fun ad=>ad = bs) (fun (ad : List qd)=>⟨[(0,q6 s),(1,.d (.sl 6 (f.map qr))),(2,.d (.sl 6 (g.map qr))),(8,.d (.sl 1 (o.map (eI .i64)))),(9,.hs 0 6 0 ad.length),(10,.d (.sl 4 (b.1.map qs))),(11,q6 b.2.1),(12,q6 b.2.2.1)],[(0,.dat 6 (ad.map qr))],1⟩) (by simp) ?_ ?_
     ·refine Q4 (q31 o b) (fun (p : Int × List qd)=>⟨[(0,q6 s),(1,.d (.sl 6 (f.map qr))),(2,.d (.sl 6 (g.map qr))),(8,.d (.sl 1 (o.map (eI .i64)))),(9,.hs 0 6 0 p.2.length),(10,.d (.sl 4 (b.1.map qs))),(11,q6 b.2.1),(12,q6 b.2.2.1),(14,q6 p.1)],[(0,.dat 6 (p.2.map qr))],1⟩) (b.2.1,b.2.2.2) bs cn (wkA [(0,0)] [] []) ?_
      intro p cz q
      unfold q31 at q
      refine qe<|qa<|U J<|U J<|O (q6 (p.2.length : Int)) J<|O (.d (.bool (decide (p.1 < (p.2.length : Int))))) J<|q9 ?_
      refine qj J q (fun _ q=>?_) (fun _ q=>?_)
      ·refine qk<|qe<|qw<|qt<|U J<|U J<|U J<|U J<|O (.d (G (w64 (b.2.2.1 + 1)))) J ?_
       obtain ⟨ag,co,q⟩:=q7 q
       refine Q3 (enc:=(eI .i64)) co J<|O (q6 ag) J ?_
       obtain ⟨ah,bt,q⟩:=q7 q
       refine qn bt J J<|O (.ref 0 6 p.1.toNat 3) J<|O (.ref 0 6 p.1.toNat 5) J<|Qi (ds:=[G ag]) ({Lo:=ah.Lo,Hi:=({X:=ah.Hi.X,Y:=ah.Hi.Y,Z:=ag} : ql)} : qd) bt J J J J J J J J (leb J) J<|qq<|Qa<|qt<|U J<|O (.d (G (w64 (p.1 + 1)))) J<|q8 J<|qq ?_
       exact ⟨_,(Option.some.inj q).symm,wkE [(0,0)] [] [] J ⟨⟨_,J,.d (.refl _)⟩,⟨_,J,.d (.refl _)⟩,⟨_,J,.d (.refl _)⟩,⟨_,J,.d (.refl _)⟩,⟨_,J,Ql (by simp) J (by decide) (ltd J)⟩,⟨_,J,.d (.refl _)⟩,⟨_,J,.d (.refl _)⟩,⟨_,J,.d (.refl _)⟩,⟨_,J,.d (.refl _)⟩,trivial⟩ ⟨⟨ltd J,.inr ⟨by decide,_,J,.dat _ _⟩⟩,trivial⟩⟩
      refine Q1 ?_
      refine ⟨_,(Option.some.inj q).symm,fun hm=>?_⟩
      subst hm
      exact ⟨_,J,wkA [(0,0)] [] []⟩
     intro ad hb
     subst hb
     refine Q1 ?_
     obtain rfl:=qc a
     exact ⟨_,J,wkA [(0,0)] [] []⟩
    refine qk<|qa<|U J<|O (q6 (b.2.2.2.length : Int)) J<|U J<|q8 J<|q8 J<|qp<|q8 J<|q9 ?_
    obtain ⟨cp,cq,a⟩:=q7 a
    refine qw<|Q4 (q4v y o b) (fun (aa : Int × List qd)=>⟨[(0,q6 s),(1,.d (.sl 6 (f.map qr))),(2,.d (.sl 6 (g.map qr))),(8,.d (.sl 1 (o.map (eI .i64)))),(9,.hs 0 6 0 aa.2.length),(10,.d (.sl 4 (y.map qs))),(11,q6 (b.2.2.2.length : Int)),(12,q6 b.2.2.1),(13,.d (.sl 4 (y.map qs))),(15,q6 aa.1)],[(0,.dat 6 (aa.2.map qr))],1⟩) (0,b.2.2.2) cp cq (wkA [(0,0)] [] []) ?_
    intro aa da c
    unfold q4v at c
    refine qe<|qa<|U J<|U J<|Qg J<|O (.d (.bool (decide (aa.1 < (y.length : Int))))) J<|q9 ?_
    refine qj J c (fun _ c=>?_) (fun _ c=>?_)
    ·refine qk<|qe<|qw<|Q2 [q0,(some [0,1],[0,2]),(some [],[1]),q0,q0,q0,q0,q0,q0,q0,q0,q0,q0,q0,q0,q0,q0,q0,q0,q0,q0,q0,q0,q0,q0,q0,q0,q0,q0,q0,q0,q0,q0,q0,q0,q0] (by kernel_rfl)<|U J<|U J<|U J ?_
     obtain ⟨k,cr,c⟩:=q7 c
     refine Q3 (enc:=qs) cr J<|O (.dref [G k.X0,G k.Y0,G k.X1,G k.Y1] 0) J<|O (q6 k.X0) J<|U J<|U J ?_
     obtain ⟨l,cs,c⟩:=q7 c
     refine Q3 (enc:=qs) cs J<|O (.dref [G l.X0,G l.Y0,G l.X1,G l.Y1] 1) J<|O (q6 l.Y0) J<|U J<|U J ?_
     obtain ⟨ab,ct,c⟩:=q7 c
     refine Q3 (enc:=(eI .i64)) ct J<|O (q6 ab) J<|O (.d (.agg [G k.X0,G l.Y0,G ab])) J<|U J<|U J ?_
     obtain ⟨m,cu,c⟩:=q7 c
     refine Q3 (enc:=qs) cu J<|O (.dref [G m.X0,G m.Y0,G m.X1,G m.Y1] 2) J<|O (q6 m.X1) J<|U J<|U J ?_
     obtain ⟨n,cv,c⟩:=q7 c
     refine Q3 (enc:=qs) cv J<|O (.dref [G n.X0,G n.Y0,G n.X1,G n.Y1] 3) J<|O (q6 n.Y1) J<|U J<|U J<|O (.d (G (w64 (b.2.2.1 + 1)))) J ?_
     obtain ⟨ac,cw,c⟩:=q7 c
     refine Q3 (enc:=(eI .i64)) cw J<|O (q6 ac) J<|O (.d (.agg [G m.X1,G n.Y1,G ac])) J<|O (.d (.agg [G k.X0,G l.Y0,G ab,G m.X1,G n.Y1,G ac])) J<|Qe (.hs 1 6 0 [({Lo:=({X:=k.X0,Y:=l.Y0,Z:=ab} : ql),Hi:=({X:=m.X1,Y:=n.Y1,Z:=ac} : ql)} : qd)].length) (.dat 6 ([({Lo:=({X:=k.X0,Y:=l.Y0,Z:=ab} : ql),Hi:=({X:=m.X1,Y:=n.Y1,Z:=ac} : ql)} : qd)].map qr)) J ?_
     obtain ⟨dc,cx,c⟩:=q7 c
     refine Kl (xs:=aa.2) (ys:=[({Lo:=({X:=k.X0,Y:=l.Y0,Z:=ab} : ql),Hi:=({X:=m.X1,Y:=n.Y1,Z:=ac} : ql)} : qd)]) (enc:=qr) (.hs 1 6 0 [({Lo:=({X:=k.X0,Y:=l.Y0,Z:=ab} : ql),Hi:=({X:=m.X1,Y:=n.Y1,Z:=ac} : ql)} : qd)].length) cx J J J J J J J (Ki J J) J J J J<|q8 J<|qq<|Qa<|qt<|U J<|O (.d (G (w64 (aa.1 + 1)))) J<|q8 J<|qq ?_
     exact ⟨_,(Option.some.inj c).symm,wkA [(0,2)] [] []⟩
    refine Q1 ?_
    refine ⟨_,(Option.some.inj c).symm,fun hm=>?_⟩
    subst hm
    obtain rfl:=qc a
    exact ⟨_,J,wkA [(0,0)] [] []⟩
   intro x hb
   subst hb
   refine qt<|U J<|O (.d (G (w64 (b.2.2.1 + 1)))) J<|q8 J<|qq ?_
   exact ⟨_,(Option.some.inj u).symm,wkA [(0,0)] [] []⟩
  refine Q1 ?_
  refine ⟨_,(Option.some.inj u).symm,fun hm=>?_⟩
  subst hm
  exact ⟨_,J,wkA [(0,0)] [] []⟩
 intro t hb
 subst hb
 refine qa<|U J<|U J<|O (q6 (t.length : Int)) J<|O (.d (.bool (decide ((t.length : Int)≤400)))) J<|q8 J<|q8 J<|qo ?_
 obtain rfl:=qc w
 exact finD (.inr J) (v:=.tup [.hs 0 6 0 t.length,.d (.bool (decide ((t.length : Int)≤400)))]) J (qb5 (q1i (Jf J J) (q1i J J))) (.refl _)
theorem qrf (c : List qd) (r : List qd × Int) (a : q7b c = some r) : Pure Tryz.prog tab 15 [.sl 6 (c.map qr)] (.tup [.sl 6 (r.1.map qr),G r.2]):=by
 unfold q7b at a
 refine Qb Tryz.func15 J (by kernel_rfl) (by kernel_rfl) J<|qa<|q8 J<|q8 J<|q9<|qe<|qa<|U J<|Qg J<|O (.d (.bool (decide ((c.length : Int) > 400)))) J<|q9 ?_
 refine qj J a (fun _ a=>?_) (fun _ a=>?_)
 ·refine qa<|q8 J<|q8 J<|qo ?_
  obtain rfl:=qc a
  exact finD (.inr J) (v:=.d (.tup [.nilsl,G 4])) J J (Kx (.cons (.nil _) (.cons (.refl _) .nil)))
 refine qk<|qe<|qa<|q8 J<|q9 ?_
 obtain ⟨k,m,a⟩:=q7 a
 refine Q9 (fun j=>.inl j = k) (fun (j : Unit)=>⟨[(0,.d (.sl 6 (c.map qr)))],[],0⟩) (by simp) ?_ ?_
 ·refine Q4 (q4w c) (fun (h : Int)=>⟨[(0,.d (.sl 6 (c.map qr))),(4,q6 h)],[],0⟩) 0 k m (wkA [] [] []) ?_
  intro h q b
  unfold q4w at b
  refine qe<|qa<|U J<|U J<|Qg J<|O (.d (.bool (decide (h < (c.length : Int))))) J<|q9 ?_
  refine qj J b (fun _ b=>?_) (fun _ b=>?_)
  ·refine qk<|qe<|qw<|qa<|U J<|U J ?_
   obtain ⟨f,n,b⟩:=q7 b
   refine Q3 (enc:=qr) n J<|O (.d (.agg [G f.Lo.X,G f.Lo.Y,G f.Lo.Z,G f.Hi.X,G f.Hi.Y,G f.Hi.Z])) J ?_
   obtain ⟨l,o,b⟩:=q7 b
   refine qv (qdk f l o) J<|O (qf (!l)) J<|q9 ?_
   refine qj J b (fun _ b=>?_) (fun _ b=>?_)
   ·refine qa<|q8 J<|q8 J<|qo ?_
    refine ⟨_,(Option.some.inj b).symm,fun hm=>?_⟩
    subst hm
    obtain rfl:=qc a
    exact finD (.inr J) (v:=.d (.tup [.nilsl,G 8])) J J (Kx (.cons (.nil _) (.cons (.refl _) .nil)))
   refine qk<|Q8<|Qa<|qt<|U J<|O (.d (G (w64 (h + 1)))) J<|q8 J<|qq ?_
   exact ⟨_,(Option.some.inj b).symm,wkA [] [] []⟩
  refine Q1 ?_
  refine ⟨_,(Option.some.inj b).symm,fun hm=>?_⟩
  subst hm
  exact ⟨_,J,wkA [] [] []⟩
 intro j hb
 subst hb
 refine qa<|U J ?_
 obtain ⟨g,p,a⟩:=q7 a
 refine qv (q4k (.cons (.refl _) (.cons (.refl _) (.cons (.nil _) .nil))) (qip 2 c [] g p)) J<|U J<|O (.d (.sl 6 (g.1.map qr))) J<|O (qf g.2) J<|q8 J<|q8 J<|q9<|qe<|qa<|U J<|O (qf (!g.2)) J<|q9 ?_
 refine qj J a (fun _ a=>?_) (fun _ a=>?_)
 ·refine qa<|q8 J<|q8 J<|qo ?_
  obtain rfl:=qc a
  exact finD (.inr J) (v:=.d (.tup [.nilsl,G 4])) J J (Kx (.cons (.nil _) (.cons (.refl _) .nil)))
 refine qk<|qa<|U J<|q8 J<|q8 J<|qo ?_
 obtain rfl:=qc a
 exact qy (.d (.tup [.sl 6 (g.1.map qr),G 0])) J
theorem qts (f : List qd) (j : qd→Option Bool) (p1F : FuncId) (p1C : List DV) (p1Ok : ∀ (c : qd) (r : Bool),j c = some r→Pure Tryz.prog tab p1F ([.agg [G c.Lo.X,G c.Lo.Y,G c.Lo.Z,G c.Hi.X,G c.Hi.Y,G c.Hi.Z]] ++ p1C) (.bool r)) (r : Int) (g : qao f j = some r) : Pure Tryz.prog tab 86 [.sl 6 (f.map qr),.fn p1F p1C] (G r):=by
 unfold qao at g
 refine Qb Tryz.func86 J (by kernel_rfl) (by kernel_rfl) J<|qa<|q8 J<|q9<|qe<|qa<|U J<|Qg J<|U J<|q9 ?_
 obtain ⟨l,m,g⟩:=q7 g
 refine Q9 (fun k=>.inl k = l) (fun (k : Unit)=>⟨[],[],0⟩) (by simp) ?_ ?_
 ·refine Q4 (q3a f j) (fun (h : Int)=>⟨[(0,.d (.sl 6 (f.map qr))),(1,.d (.fn p1F p1C)),(7,q6 (f.length : Int)),(8,q6 h)],[],0⟩) 0 l m (wkA [] [] []) ?_
  intro h q a
  unfold q3a at a
  refine qa<|O (.d (.bool (decide (h < (f.length : Int))))) J<|q9<|qe ?_
  refine qj J a (fun _ a=>?_) (fun _ a=>?_)
  ·refine qk<|qe<|qw<|qa<|U J<|q8 J<|qp<|U J<|U J<|U J ?_
   obtain ⟨b,n,a⟩:=q7 a
   refine Q3 (enc:=qr) n J<|O (.d (.agg [G b.Lo.X,G b.Lo.Y,G b.Lo.Z,G b.Hi.X,G b.Hi.Y,G b.Hi.Z])) J ?_
   obtain ⟨o,p,a⟩:=q7 a
   refine Ye [.d (.agg [G b.Lo.X,G b.Lo.Y,G b.Lo.Z,G b.Hi.X,G b.Hi.Y,G b.Hi.Z])] (p1Ok b o p) J J J (.inl J)<|q9 ?_
   refine qj J a (fun _ a=>?_) (fun _ a=>?_)
   ·refine qa<|U J<|q8 J<|qo ?_
    refine ⟨_,(Option.some.inj a).symm,fun hm=>?_⟩
    subst hm
    obtain rfl:=qc g
    exact qy (q6 h) J
   refine qk<|Q8<|Qa<|qt<|O (.d (G (w64 (h + 1)))) J<|U J<|qq ?_
   exact ⟨_,(Option.some.inj a).symm,wkA [] [] []⟩
  refine Q1 ?_
  refine ⟨_,(Option.some.inj a).symm,fun hm=>?_⟩
  subst hm
  exact ⟨_,J,wkA [] [] []⟩
 intro k hb
 subst hb
 refine qa<|q8 J<|qo ?_
 obtain rfl:=qc g
 exact qy (q6 (-1)) J
theorem qtl (c : List qd) (f : qd→Option Bool) (p1F : FuncId) (p1C : List DV) (p1Ok : ∀ (a : qd) (r : Bool),f a = some r→Pure Tryz.prog tab p1F ([.agg [G a.Lo.X,G a.Lo.Y,G a.Lo.Z,G a.Hi.X,G a.Hi.Y,G a.Hi.Z]] ++ p1C) (.bool r)) (r : Bool) (b : q7q c f = some r) : Pure Tryz.prog tab 57 [.sl 6 (c.map qr),.fn p1F p1C] (.bool r):=by
 unfold q7q at b
 refine Qb Tryz.func57 J (by kernel_rfl) (by kernel_rfl) J<|qa<|q8 J<|qp<|U J<|U J ?_
 obtain ⟨g,h,b⟩:=q7 b
 refine qv (qts c f p1F p1C p1Ok g h) J<|O (.d (.bool (decide (g ≥ 0)))) J<|q8 J<|qo ?_
 obtain rfl:=qc b
 exact qy (.d (.bool (decide (g ≥ 0)))) J
theorem qwi (a : qd) (r : Bool) (b : q20 a = some r) : Pure Tryz.prog tab 58 [.agg [G a.Lo.X,G a.Lo.Y,G a.Lo.Z,G a.Hi.X,G a.Hi.Y,G a.Hi.Z]] (.bool r):=by
 unfold q20 at b
 refine Qb Tryz.func58 J (by kernel_rfl) (by kernel_rfl) J<|qa<|Qe (.ref 0 6 0 0) (.dat 6 [[G a.Lo.X,G a.Lo.Y,G a.Lo.Z,G a.Hi.X,G a.Hi.Y,G a.Hi.Z]]) J<|q8 J<|qp<|O (.d (.agg [G a.Lo.X,G a.Lo.Y,G a.Lo.Z,G a.Hi.X,G a.Hi.Y,G a.Hi.Z])) J ?_
 obtain ⟨c,f,b⟩:=q7 b
 refine qv (qjt a c f) J<|O (qf (!c)) J<|q8 J<|qo ?_
 obtain rfl:=qc b
 exact qy (qf (!c)) J
theorem qto (g : List qd) (h : List qd) (r : Bool) (f : qak g h = some r) : Pure Tryz.prog tab 59 [.sl 6 (g.map qr),.sl 6 (h.map qr)] (.bool r):=by
 unfold qak at f
 refine Qb Tryz.func59 J (by kernel_rfl) (by kernel_rfl) J<|qa<|q8 J<|q9<|qe<|qa<|U J<|Qg J<|U J<|Qg J<|O (.d (.bool ((g.length : Int) != (h.length : Int)))) J<|q9 ?_
 refine qj J f (fun _ f=>?_) (fun _ f=>?_)
 ·refine qa<|q8 J<|qo ?_
  obtain rfl:=qc f
  exact qy (qf false) J
 refine qk<|qe<|qa<|U J<|Qg J<|U J<|q9 ?_
 obtain ⟨l,m,f⟩:=q7 f
 refine Q9 (fun k=>.inl k = l) (fun (k : Unit)=>⟨[],[],0⟩) (by simp) ?_ ?_
 ·refine Q4 (qdx g h) (fun (j : Int)=>⟨[(0,.d (.sl 6 (g.map qr))),(1,.d (.sl 6 (h.map qr))),(12,q6 (g.length : Int)),(13,q6 j)],[],0⟩) 0 l m (wkA [] [] []) ?_
  intro j p a
  unfold qdx at a
  refine qa<|O (.d (.bool (decide (j < (g.length : Int))))) J<|q9<|qe ?_
  refine qj J a (fun _ a=>?_) (fun _ a=>?_)
  ·refine qk<|qe<|qw<|qa<|U J<|q8 J<|q9<|qe<|Q2 [q0,q0,q0,q0,q0,q0,q0,q0,q0] (by kernel_rfl)<|U J<|U J ?_
   obtain ⟨b,n,a⟩:=q7 a
   refine Q3 (enc:=qr) n J<|O (.d (.agg [G b.Lo.X,G b.Lo.Y,G b.Lo.Z,G b.Hi.X,G b.Hi.Y,G b.Hi.Z])) J<|U J<|U J ?_
   obtain ⟨c,o,a⟩:=q7 a
   refine Q3 (enc:=qr) o J<|O (.d (.agg [G c.Lo.X,G c.Lo.Y,G c.Lo.Z,G c.Hi.X,G c.Hi.Y,G c.Hi.Z])) J<|O (.d (.bool (!((b.Lo.X == c.Lo.X) && ((b.Lo.Y == c.Lo.Y) && ((b.Lo.Z == c.Lo.Z) && ((b.Hi.X == c.Hi.X) && ((b.Hi.Y == c.Hi.Y) && ((b.Hi.Z == c.Hi.Z) && true))))))))) J<|q9 ?_
   refine qj J a (fun _ a=>?_) (fun _ a=>?_)
   ·refine qa<|q8 J<|qo ?_
    refine ⟨_,(Option.some.inj a).symm,fun hm=>?_⟩
    subst hm
    obtain rfl:=qc f
    exact qy (qf false) J
   refine qk<|Q8<|Qa<|qt<|O (.d (G (w64 (j + 1)))) J<|U J<|qq ?_
   exact ⟨_,(Option.some.inj a).symm,wkA [] [] []⟩
  refine Q1 ?_
  refine ⟨_,(Option.some.inj a).symm,fun hm=>?_⟩
  subst hm
  exact ⟨_,J,wkA [] [] []⟩
 intro k hb
 subst hb
 refine qa<|q8 J<|qo ?_
 obtain rfl:=qc f
 exact qy (qf true) J
theorem qas (b : List qd) (r : Int) (a : q1z b = some r) : Pure Tryz.prog tab 18 [.sl 6 (b.map qr)] (G r):=by
 unfold q1z at a
 refine Qb Tryz.func18 J (by kernel_rfl) (by kernel_rfl) J<|qa<|q8 J<|q9<|qe<|qa<|U J<|Qg J<|O (.d (.bool (decide ((b.length : Int) > 400)))) J<|q9 ?_
 refine qj J a (fun _ a=>?_) (fun _ a=>?_)
 ·refine qa<|q8 J<|qo ?_
  obtain rfl:=qc a
  exact qy (q6 4) J
 refine qk<|qe<|qa<|U J ?_
 obtain ⟨o,p,a⟩:=q7 a
 refine qv (qtl b (fun g=>q20 g) 58 [] (fun g r hr=>qwi g r hr) o p) J<|q9 ?_
 refine qj J a (fun _ a=>?_) (fun _ a=>?_)
 ·refine qa<|q8 J<|qo ?_
  obtain rfl:=qc a
  exact qy (q6 8) J
 refine qk<|qe<|qa<|O (.d (.agg [.nilf])) J<|U J<|qhv (es:=1) ([b].map K9) J J J J J ?_
 obtain ⟨f,q,a⟩:=q7 a
 refine qv (qju b f q) J<|U J<|O (.d (.sl 6 (f.1.map qr))) J<|O (q6 f.2) J<|q8 J<|q8 J<|qp<|U J<|O (qf (f.2 != 0)) J ?_
 obtain ⟨s,c,a⟩:=q7 a
 refine Q5 6 (fun A st=>∃ (j k l m n : V),st = A [(24,qf s),(23,n),(22,m),(21,l),(20,k),(19,j)]) ?_ ?_
 ·refine Q6 J J c (fun c=>?_) (fun c=>?_)
  ·refine qb J<|qb J<|qb J<|qb J<|O (qf true) J<|q9 ?_
   obtain rfl:=qc c
   exact ⟨_,_,_,_,_,J⟩
  refine U J<|U J ?_
  obtain ⟨h,t,c⟩:=q7 c
  refine qv (qto f.1 b h t) J<|O (qf (!h)) J<|O (qf (!h)) J<|q9 ?_
  obtain rfl:=qc c
  exact ⟨_,_,_,_,_,J⟩
 rintro _ ⟨j,k,l,m,n,rfl⟩
 refine q9 ?_
 refine qj J a (fun _ a=>?_) (fun _ a=>?_)
 ·refine qa<|q8 J<|qo ?_
  obtain rfl:=qc a
  exact qy (q6 8) J
 refine qk<|qa<|q8 J<|qo ?_
 obtain rfl:=qc a
 exact qy (q6 0) J
theorem qx1 (a : qd) (r : Int × Int × Int) (b : qau a = some r) : Pure Tryz.prog tab 56 [.agg [G a.Lo.X,G a.Lo.Y,G a.Lo.Z,G a.Hi.X,G a.Hi.Y,G a.Hi.Z]] (.tup [G r.1,G r.2.1,G r.2.2]):=by
 unfold qau at b
 refine Qb Tryz.func56 J (by kernel_rfl) (by kernel_rfl) J<|qa<|Qe (.ref 0 6 0 0) (.dat 6 [[G a.Lo.X,G a.Lo.Y,G a.Lo.Z,G a.Hi.X,G a.Hi.Y,G a.Hi.Z]]) J<|q8 J<|q8 J<|q8 J<|q9<|qe<|Q2 [q0,q0,q0,q0,qm 0,q0,q0,qm 0,q0,q0,q0,qm 0,q0,q0,qm 0,q0,q0,q0,qm 0,q0,q0,qm 0,q0,q0] (by kernel_rfl)<|O (.ref 0 6 0 3) J<|O (.ref 0 6 0 3) J<|O (q6 a.Hi.X) J<|O (.ref 0 6 0 0) J<|O (.ref 0 6 0 0) J<|O (q6 a.Lo.X) J<|O (.d (G (w64 (a.Hi.X - a.Lo.X)))) J<|O (.ref 0 6 0 3) J<|O (.ref 0 6 0 4) J<|O (q6 a.Hi.Y) J<|O (.ref 0 6 0 0) J<|O (.ref 0 6 0 1) J<|O (q6 a.Lo.Y) J<|O (.d (G (w64 (a.Hi.Y - a.Lo.Y)))) J<|O (.ref 0 6 0 3) J<|O (.ref 0 6 0 5) J<|O (q6 a.Hi.Z) J<|O (.ref 0 6 0 0) J<|O (.ref 0 6 0 2) J<|O (q6 a.Lo.Z) J<|O (.d (G (w64 (a.Hi.Z - a.Lo.Z)))) J<|q8 J<|q8 J<|q8 J<|qo ?_
 obtain rfl:=qc b
 exact qy (.d (.tup [G (w64 (a.Hi.X - a.Lo.X)),G (w64 (a.Hi.Y - a.Lo.Y)),G (w64 (a.Hi.Z - a.Lo.Z))])) J
theorem qir (g : List qd) (h : List qd) (r : Bool) (f : q7e g h = some r) : Pure Tryz.prog tab 20 [.sl 6 (g.map qr),.sl 6 (h.map qr)] (.bool r):=by
 unfold q7e at f
 refine Qb Tryz.func20 J (by kernel_rfl) (by kernel_rfl) J<|qa<|q8 J<|q9<|qe<|qa<|U J<|Qg J<|U J<|Qg J<|O (.d (.bool ((g.length : Int) != (h.length : Int)))) J<|q9 ?_
 refine qj J f (fun _ f=>?_) (fun _ f=>?_)
 ·refine qa<|q8 J<|qo ?_
  obtain rfl:=qc f
  exact qy (qf false) J
 refine qk<|qe<|qa<|q8 J<|q9 ?_
 obtain ⟨l,m,f⟩:=q7 f
 refine Q9 (fun k=>.inl k = l) (fun (k : Unit)=>⟨[],[],0⟩) (by simp) ?_ ?_
 ·refine Q4 (qae g h) (fun (j : Int)=>⟨[(0,.d (.sl 6 (g.map qr))),(1,.d (.sl 6 (h.map qr))),(5,q6 j)],[],0⟩) 0 l m (wkA [] [] []) ?_
  intro j p a
  unfold qae at a
  refine qe<|qa<|U J<|U J<|Qg J<|O (.d (.bool (decide (j < (g.length : Int))))) J<|q9 ?_
  refine qj J a (fun _ a=>?_) (fun _ a=>?_)
  ·refine qk<|qe<|qw<|qe<|Q2 [q0,q0,q0,q0,q0,q0,q0,q0,q0] (by kernel_rfl)<|U J<|U J ?_
   obtain ⟨b,n,a⟩:=q7 a
   refine Q3 (enc:=qr) n J<|O (.d (.agg [G b.Lo.X,G b.Lo.Y,G b.Lo.Z,G b.Hi.X,G b.Hi.Y,G b.Hi.Z])) J<|U J<|U J ?_
   obtain ⟨c,o,a⟩:=q7 a
   refine Q3 (enc:=qr) o J<|O (.d (.agg [G c.Lo.X,G c.Lo.Y,G c.Lo.Z,G c.Hi.X,G c.Hi.Y,G c.Hi.Z])) J<|O (.d (.bool (!((b.Lo.X == c.Lo.X) && ((b.Lo.Y == c.Lo.Y) && ((b.Lo.Z == c.Lo.Z) && ((b.Hi.X == c.Hi.X) && ((b.Hi.Y == c.Hi.Y) && ((b.Hi.Z == c.Hi.Z) && true))))))))) J<|q9 ?_
   refine qj J a (fun _ a=>?_) (fun _ a=>?_)
   ·refine qa<|q8 J<|qo ?_
    refine ⟨_,(Option.some.inj a).symm,fun hm=>?_⟩
    subst hm
    obtain rfl:=qc f
    exact qy (qf false) J
   refine qk<|Q8<|Qa<|qt<|U J<|O (.d (G (w64 (j + 1)))) J<|q8 J<|qq ?_
   exact ⟨_,(Option.some.inj a).symm,wkA [] [] []⟩
  refine Q1 ?_
  refine ⟨_,(Option.some.inj a).symm,fun hm=>?_⟩
  subst hm
  exact ⟨_,J,wkA [] [] []⟩
 intro k hb
 subst hb
 refine qa<|q8 J<|qo ?_
 obtain rfl:=qc f
 exact qy (qf true) J
theorem q1l (c : List qd) (r : Int) (a : J0 c = some r) : Pure Tryz.prog tab 19 [.sl 6 (c.map qr)] (G r):=by
 unfold J0 at a
 refine Qb Tryz.func19 J (by kernel_rfl) (by kernel_rfl) J<|qa<|q8 J<|q9<|qe<|qa<|U J<|Qg J<|O (.d (.bool (decide ((c.length : Int) > 400)))) J<|q9 ?_
 refine qj J a (fun _ a=>?_) (fun _ a=>?_)
 ·refine qa<|q8 J<|qo ?_
  obtain rfl:=qc a
  exact qy (q6 4) J
 refine qk<|qe<|qa<|q8 J<|q9 ?_
 obtain ⟨m,u,a⟩:=q7 a
 refine Q9 (fun k=>.inl k = m) (fun (k : Unit)=>⟨[(0,.d (.sl 6 (c.map qr)))],[],0⟩) (by simp) ?_ ?_
 ·refine Q4 (q4t c) (fun (j : Int)=>⟨[(0,.d (.sl 6 (c.map qr))),(3,q6 j)],[],0⟩) 0 m u (wkA [] [] []) ?_
  intro j aa b
  unfold q4t at b
  refine qe<|qa<|U J<|U J<|Qg J<|O (.d (.bool (decide (j < (c.length : Int))))) J<|q9 ?_
  refine qj J b (fun _ b=>?_) (fun _ b=>?_)
  ·refine qk<|qe<|qw<|qa<|U J<|U J ?_
   obtain ⟨f,v,b⟩:=q7 b
   refine Q3 (enc:=qr) v J<|O (.d (.agg [G f.Lo.X,G f.Lo.Y,G f.Lo.Z,G f.Hi.X,G f.Hi.Y,G f.Hi.Z])) J ?_
   obtain ⟨n,w,b⟩:=q7 b
   refine qv (qdk f n w) J<|O (qf (!n)) J<|q9 ?_
   refine qj J b (fun _ b=>?_) (fun _ b=>?_)
   ·refine qa<|q8 J<|qo ?_
    refine ⟨_,(Option.some.inj b).symm,fun hm=>?_⟩
    subst hm
    obtain rfl:=qc a
    exact qy (q6 8) J
   refine qk<|Q8<|Qa<|qt<|U J<|O (.d (G (w64 (j + 1)))) J<|q8 J<|qq ?_
   exact ⟨_,(Option.some.inj b).symm,wkA [] [] []⟩
  refine Q1 ?_
  refine ⟨_,(Option.some.inj b).symm,fun hm=>?_⟩
  subst hm
  exact ⟨_,J,wkA [] [] []⟩
 intro k hb
 subst hb
 refine qa<|U J ?_
 obtain ⟨h,x,a⟩:=q7 a
 refine qv (q4k (.cons (.refl _) (.cons (.refl _) (.cons (.nil _) .nil))) (qip 2 c [] h x)) J<|U J<|O (.d (.sl 6 (h.1.map qr))) J<|O (qf h.2) J<|q8 J<|q8 J<|q9<|qe<|qa<|U J<|O (qf (!h.2)) J ?_
 obtain ⟨y,g,a⟩:=q7 a
 refine Q5 6 (fun A st=>∃ (o p q s t : V),st = A [(33,qf y),(32,t),(31,s),(30,q),(29,p),(28,o)]) ?_ ?_
 ·refine Q6 J J g (fun g=>?_) (fun g=>?_)
  ·refine qb J<|qb J<|qb J<|qb J<|O (qf true) J<|q9 ?_
   obtain rfl:=qc g
   exact ⟨_,_,_,_,_,J⟩
  refine U J<|U J ?_
  obtain ⟨l,z,g⟩:=q7 g
  refine qv (qir h.1 c l z) J<|O (qf (!l)) J<|O (qf (!l)) J<|q9 ?_
  obtain rfl:=qc g
  exact ⟨_,_,_,_,_,J⟩
 rintro _ ⟨o,p,q,s,t,rfl⟩
 refine q9 ?_
 refine qj J a (fun _ a=>?_) (fun _ a=>?_)
 ·refine qa<|q8 J<|qo ?_
  obtain rfl:=qc a
  exact qy (q6 8) J
 refine qk<|qa<|q8 J<|qo ?_
 obtain rfl:=qc a
 exact qy (q6 0) J
end Go.Proofs.YtjjmcdlnadkjbaaGreat
