/- W_Allc -/
import Derived.Test.YtjjmcdlnadkjbaaGreatK16
namespace Go.Proofs.YtjjmcdlnadkjbaaGreat
open Go Go.Am Go.Sh
set_option maxHeartbeats 8000000
set_option maxRecDepth 100000
theorem qru (g : List Int) (l : List Bool) (r : List qk) (n : q2s g l = some r) : Pure Tryz.prog tab 94 [.sl 1 (g.map (eI .i64)),.sl 1 (l.map eB)] (.sl 2 (r.map Qe)):=by
 unfold q2s at n
 refine Qb Tryz.func94 J (by kernel_rfl) (by kernel_rfl) J<|qb<|q9 J<|qp<|q9 J<|q8<|qf<|qb<|q9 J<|q8 ?_
 obtain ⟨s,aj,n⟩:=q7 n
 refine Qh (fun h=>h = s) (fun (h : List qk)=>⟨[(5,.hs 0 2 0 h.length)],[(0,.dat 2 (h.map Qe))],1⟩) (by simp) ?_ ?_
 ·refine Q7 (q2t g l) (fun (b : Int × List qk)=>⟨[(0,.d (.sl 1 (g.map (eI .i64)))),(1,.d (.sl 1 (l.map eB))),(5,.hs 0 2 0 b.2.length),(6,q6 b.1)],[(0,.dat 2 (b.2.map Qe))],1⟩) (0,[]) s aj (wkA [] [] [0]) ?_
  intro b av f
  unfold q2t at f
  refine qf<|qb<|U J<|O (.d (G (w64 (b.1 + 1)))) J<|U J<|Qn J<|O (.d (.bool (decide ((w64 (b.1 + 1)) < (g.length : Int))))) J<|q8 ?_
  refine qm J f (fun _ f=>?_) (fun _ f=>?_)
  ·refine qn<|qf ?_
   obtain ⟨ak,a,f⟩:=q7 f
   refine Qh (fun m=>m = ak) (fun (m : List qk)=>⟨[(0,.d (.sl 1 (g.map (eI .i64)))),(1,.d (.sl 1 (l.map eB))),(5,.hs 0 2 0 m.length),(6,q6 b.1)],[(0,.dat 2 (m.map Qe))],1⟩) (by simp) ?_ ?_
   ·refine qf<|qb<|U J<|U J ?_
    obtain ⟨t,al,a⟩:=q7 a
    refine Q9 (enc:=eB) al J<|O (qe t) J<|O (qe (!t)) J<|q8 ?_
    refine qm J a (fun _ a=>?_) (fun _ a=>?_)
    ·refine Q6 ?_
     obtain rfl:=qd a
     exact ⟨_,J,wkA [(0,0)] [] []⟩
    refine qn<|qb<|U J<|O (q6 (b.2.length : Int)) J<|q9 J<|q8<|qf<|Q5 [q0,q0,q0,q0,q0,q0,qo 0,q0,q0,q0,q0,q0,q0,q0,q0] (by kernel_rfl)<|U J<|O (.d (.bool (decide ((b.2.length : Int) > 0)))) J ?_
    obtain ⟨am,c,a⟩:=q7 a
    refine Q3 13 (fun A st=>∃ (u w x y z aa ab ac ad ae af ag : V),st = A [(36,qe am),(35,ag),(34,af),(33,ae),(32,ad),(31,ac),(30,ab),(29,aa),(28,z),(27,y),(26,x),(25,w),(24,u)]) ?_ ?_
    ·refine Q2 J J c (fun c=>?_) (fun c=>?_)
     ·refine U J<|U J<|O (.d (G (w64 ((b.2.length : Int) - 1)))) J ?_
      obtain ⟨o,ah,c⟩:=q7 c
      refine qq ah J J<|O (.ref 0 2 (w64 ((b.2.length : Int) - 1)).toNat 1) J<|Q0 (q6 o.Hi) ah J<|U J<|U J ?_
      obtain ⟨p,an,c⟩:=q7 c
      refine Q9 (enc:=(eI .i64)) an J<|O (q6 p) J<|O (qe (o.Hi == p)) J<|O (qe (o.Hi == p)) J<|q8 ?_
      obtain rfl:=qd c
      exact ⟨_,_,_,_,_,_,_,_,_,_,_,_,J⟩
     refine qa J<|qa J<|qa J<|qa J<|qa J<|qa J<|qa J<|qa J<|qa J<|qa J<|qa J<|O (qe false) J<|q8 ?_
     obtain rfl:=qd c
     exact ⟨_,_,_,_,_,_,_,_,_,_,_,_,J⟩
    rintro _ ⟨u,w,x,y,z,aa,ab,ac,ad,ae,af,ag,rfl⟩
    refine q8 ?_
    refine qm J a (fun _ a=>?_) (fun _ a=>?_)
    ·refine qw<|U J<|U J<|O (.d (G (w64 ((b.2.length : Int) - 1)))) J<|U J<|U J<|O (.d (G (w64 (b.1 + 1)))) J ?_
     obtain ⟨q,ao,a⟩:=q7 a
     refine Q9 (enc:=(eI .i64)) ao J<|O (q6 q) J ?_
     obtain ⟨ap,ai,a⟩:=q7 a
     refine qq ai J J<|O (.ref 0 2 (w64 ((b.2.length : Int) - 1)).toNat 1) J<|Qk (ds:=[G q]) ({Lo:=ap.Lo,Hi:=q} : qk) ai J J J J J J J J (leb J) J<|qs ?_
     obtain rfl:=qd a
     exact ⟨_,J,wkE [(0,0)] [] [] J ⟨⟨_,J,.d (.refl _)⟩,⟨_,J,.d (.refl _)⟩,⟨_,J,Qp (by simp) J (by decide) (ltd J)⟩,⟨_,J,.d (.refl _)⟩,trivial⟩ ⟨⟨ltd J,.inr ⟨by decide,_,J,.dat _ _⟩⟩,trivial⟩⟩
    refine Q5 [q0,(some [0,1],[0,2]),(some [],[1]),q0,q0,q0,q0,q0,q0,q0,q0,q0,q0,q0] (by kernel_rfl)<|U J<|U J<|U J ?_
    obtain ⟨j,aq,a⟩:=q7 a
    refine Q9 (enc:=(eI .i64)) aq J<|O (q6 j) J<|U J<|U J<|O (.d (G (w64 (b.1 + 1)))) J ?_
    obtain ⟨k,ar,a⟩:=q7 a
    refine Q9 (enc:=(eI .i64)) ar J<|O (q6 k) J<|O (.d (.agg [G j,G k])) J<|Qg (.hs 1 2 0 [({Lo:=j,Hi:=k} : qk)].length) (.dat 2 ([({Lo:=j,Hi:=k} : qk)].map Qe)) J ?_
    obtain ⟨aw,au,a⟩:=q7 a
    refine Kx (xs:=b.2) (ys:=[({Lo:=j,Hi:=k} : qk)]) (enc:=Qe) (.hs 1 2 0 [({Lo:=j,Hi:=k} : qk)].length) au J J J J J J J (Kv J J) J J J J<|q9 J<|qs ?_
    obtain rfl:=qd a
    exact ⟨_,J,wkA [(0,2)] [] []⟩
   intro m hb
   subst hb
   refine qw<|U J<|O (.d (G (w64 (b.1 + 1)))) J<|q9 J<|qs ?_
   exact ⟨_,(Option.some.inj f).symm,wkA [(0,0)] [] []⟩
  refine Q6 ?_
  refine ⟨_,(Option.some.inj f).symm,fun hm=>?_⟩
  subst hm
  exact ⟨_,J,wkA [(0,0)] [] []⟩
 intro h hb
 subst hb
 refine qb<|U J<|q9 J<|qr ?_
 obtain rfl:=qd n
 exact finD (.inr J) (v:=.hs 0 2 0 h.length) J (J2 J J) (.refl _)
theorem qrx (c : List qk) (f : List qk) (r : Bool) (b : q4z c f = some r) : Pure Tryz.prog tab 95 [.sl 2 (c.map Qe),.sl 2 (f.map Qe)] (.bool r):=by
 unfold q4z at b
 refine Qb Tryz.func95 J (by kernel_rfl) (by kernel_rfl) J<|qb<|q9 J<|q8<|qf<|qb<|U J<|Qn J<|U J<|Qn J<|O (.d (.bool ((c.length : Int) != (f.length : Int)))) J<|q8 ?_
 refine qm J b (fun _ b=>?_) (fun _ b=>?_)
 ·refine qb<|q9 J<|qr ?_
  obtain rfl:=qd b
  exact qz (qe false) J
 refine qn<|qf<|qb<|q9 J<|q8 ?_
 obtain ⟨l,m,b⟩:=q7 b
 refine Qh (fun k=>.inl k = l) (fun (k : Unit)=>⟨[],[],0⟩) (by simp) ?_ ?_
 ·refine Q7 (qao c f) (fun (g : Int)=>⟨[(0,.d (.sl 2 (c.map Qe))),(1,.d (.sl 2 (f.map Qe))),(5,q6 g)],[],0⟩) 0 l m (wkA [] [] []) ?_
  intro g p a
  unfold qao at a
  refine qf<|qb<|U J<|U J<|Qn J<|O (.d (.bool (decide (g < (c.length : Int))))) J<|q8 ?_
  refine qm J a (fun _ a=>?_) (fun _ a=>?_)
  ·refine qn<|qf<|Q1<|qf<|Q5 [q0,q0,q0,q0,q0,q0,q0,q0,q0] (by kernel_rfl)<|U J<|U J ?_
   obtain ⟨h,n,a⟩:=q7 a
   refine Q9 (enc:=Qe) n J<|O (.d (.agg [G h.Lo,G h.Hi])) J<|U J<|U J ?_
   obtain ⟨j,o,a⟩:=q7 a
   refine Q9 (enc:=Qe) o J<|O (.d (.agg [G j.Lo,G j.Hi])) J<|O (.d (.bool (!((h.Lo == j.Lo) && ((h.Hi == j.Hi) && true))))) J<|q8 ?_
   refine qm J a (fun _ a=>?_) (fun _ a=>?_)
   ·refine qb<|q9 J<|qr ?_
    refine ⟨_,(Option.some.inj a).symm,fun hm=>?_⟩
    subst hm
    obtain rfl:=qd b
    exact qz (qe false) J
   refine qn<|Qa<|Qc<|qw<|U J<|O (.d (G (w64 (g + 1)))) J<|q9 J<|qs ?_
   exact ⟨_,(Option.some.inj a).symm,wkA [] [] []⟩
  refine Q6 ?_
  refine ⟨_,(Option.some.inj a).symm,fun hm=>?_⟩
  subst hm
  exact ⟨_,J,wkA [] [] []⟩
 intro k hb
 subst hb
 refine qb<|q9 J<|qr ?_
 obtain rfl:=qd b
 exact qz (qe true) J
theorem qdt (k : Int) (f : List qi) (g : List qi) (r : List qi) (o : Zg k f g = some r) : Pure Tryz.prog tab 67 [G k,.sl 4 (f.map qx),.sl 4 (g.map qx)] (.sl 4 (r.map qx)):=by
 unfold Zg at o
 refine Qb Tryz.func67 J (by kernel_rfl) (by kernel_rfl) J<|qb<|q9 J<|qp<|U J<|U J ?_
 obtain ⟨j,h2,o⟩:=q7 o
 refine qt (qs2 f g j h2) J<|U J<|U J ?_
 obtain ⟨l,h4,o⟩:=q7 o
 refine qt (qs4 f g l h4) J<|q9 J<|q9 J<|qp<|q9 J<|qp<|q9 J<|qp<|q9 J<|q8<|qf<|qb<|q9 J<|q8 ?_
 obtain ⟨ah,ba,o⟩:=q7 o
 refine Qh (fun z=>z = ah) (fun (z : List qi)=>⟨[(9,.hs 0 4 0 z.length)],[(0,.dat 4 (z.map qx))],1⟩) (by simp) ?_ ?_
 ·refine Q7 (q1p j l f g k) (fun (a : List qk × Int × Int × List qi)=>⟨[(0,q6 k),(1,.d (.sl 4 (f.map qx))),(2,.d (.sl 4 (g.map qx))),(7,.d (.sl 1 (j.map (eI .i64)))),(8,.d (.sl 1 (l.map (eI .i64)))),(9,.hs 0 4 0 a.2.2.2.length),(10,.d (.sl 2 (a.1.map Qe))),(11,q6 a.2.1),(12,q6 a.2.2.1)],[(0,.dat 4 (a.2.2.2.map qx))],1⟩) ([],0,0,[]) ah ba (wkA [] [] [0]) ?_
  intro a bz p
  unfold q1p at p
  refine qf<|qb<|U J<|O (.d (G (w64 (a.2.2.1 + 1)))) J<|U J<|Qn J<|O (.d (.bool (decide ((w64 (a.2.2.1 + 1)) < (j.length : Int))))) J<|q8 ?_
  refine qm J p (fun _ p=>?_) (fun _ p=>?_)
  ·refine qn<|qf ?_
   obtain ⟨bb,h,p⟩:=q7 p
   refine Qh (fun t=>t = bb) (fun (t : List qk × Int × List qi)=>⟨[(0,q6 k),(1,.d (.sl 4 (f.map qx))),(2,.d (.sl 4 (g.map qx))),(7,.d (.sl 1 (j.map (eI .i64)))),(8,.d (.sl 1 (l.map (eI .i64)))),(9,.hs 0 4 0 t.2.2.length),(10,.d (.sl 2 (t.1.map Qe))),(11,q6 t.2.1),(12,q6 a.2.2.1)],[(0,.dat 4 (t.2.2.map qx))],1⟩) (by simp) ?_ ?_
   ·refine qb<|q9 J<|q8<|qf<|qb<|q9 J<|q8 ?_
    obtain ⟨ai,bc,h⟩:=q7 h
    refine Qh (fun u=>u = ai) (fun (u : List Bool)=>⟨[(0,q6 k),(1,.d (.sl 4 (f.map qx))),(2,.d (.sl 4 (g.map qx))),(7,.d (.sl 1 (j.map (eI .i64)))),(8,.d (.sl 1 (l.map (eI .i64)))),(9,.hs 0 4 0 a.2.2.2.length),(10,.d (.sl 2 (a.1.map Qe))),(11,q6 a.2.1),(12,q6 a.2.2.1),(13,.hs 1 1 0 u.length)],[(0,.dat 4 (a.2.2.2.map qx)),(1,.dat 1 (u.map eB))],2⟩) (by simp) ?_ ?_
    ·refine Q7 (q2w l j a f g k) (fun (w : Int × List Bool)=>⟨[(0,q6 k),(1,.d (.sl 4 (f.map qx))),(2,.d (.sl 4 (g.map qx))),(7,.d (.sl 1 (j.map (eI .i64)))),(8,.d (.sl 1 (l.map (eI .i64)))),(9,.hs 0 4 0 a.2.2.2.length),(10,.d (.sl 2 (a.1.map Qe))),(11,q6 a.2.1),(12,q6 a.2.2.1),(13,.hs 1 1 0 w.2.length),(14,q6 w.1)],[(0,.dat 4 (a.2.2.2.map qx)),(1,.dat 1 (w.2.map eB))],2⟩) (0,[]) ai bc (wkA [(0,0)] [] [1]) ?_
     intro w ca b
     unfold q2w at b
     refine qf<|qb<|U J<|U J<|Qn J<|O (.d (.bool (decide (w.1 < (l.length : Int))))) J<|q8 ?_
     refine qm J b (fun _ b=>?_) (fun _ b=>?_)
     ·refine qn<|qf<|Q1<|Q5 [q0,(some [1,2],[1,3]),(some [],[2]),q0,q0,q0,q0,q0,q0,q0,q0,q0,q0,q0,q0,q0,q0,q0,q0,q0,q0,q0,q0,q0,q0,q0] (by kernel_rfl)<|U J<|U J<|U J<|U J<|U J ?_
      obtain ⟨aj,bd,b⟩:=q7 b
      refine Q9 (enc:=(eI .i64)) bd J<|O (q6 aj) J<|U J<|U J ?_
      obtain ⟨ak,be,b⟩:=q7 b
      refine Q9 (enc:=(eI .i64)) be J<|O (q6 ak) J ?_
      obtain ⟨al,bf,b⟩:=q7 b
      refine qt (qjb f aj ak al bf) J<|U J<|U J<|U J ?_
      obtain ⟨am,bg,b⟩:=q7 b
      refine Q9 (enc:=(eI .i64)) bg J<|O (q6 am) J<|U J<|U J ?_
      obtain ⟨an,bh,b⟩:=q7 b
      refine Q9 (enc:=(eI .i64)) bh J<|O (q6 an) J ?_
      obtain ⟨ao,bi,b⟩:=q7 b
      refine qt (qjb g am an ao bi) J ?_
      obtain ⟨ad,bj,b⟩:=q7 b
      refine qt (qrw k al ao ad bj) J<|Qg (.hs 2 1 0 [ad].length) (.dat 1 ([ad].map eB)) J ?_
      obtain ⟨cb,bk,b⟩:=q7 b
      refine Kx (xs:=w.2) (ys:=[ad]) (enc:=eB) (.hs 2 1 0 [ad].length) bk J J J J J J J (Kv J J) J J J J<|q9 J<|qs<|Qc<|qw<|U J<|O (.d (G (w64 (w.1 + 1)))) J<|q9 J<|qs ?_
      exact ⟨_,(Option.some.inj b).symm,wkA [(0,0),(1,3)] [] []⟩
     refine Q6 ?_
     refine ⟨_,(Option.some.inj b).symm,fun hm=>?_⟩
     subst hm
     exact ⟨_,J,wkA [(0,0),(1,1)] [] []⟩
    intro u hb
    subst hb
    refine qf ?_
    refine Yr (st':=⟨[(0,q6 k),(1,.d (.sl 4 (f.map qx))),(2,.d (.sl 4 (g.map qx))),(7,.d (.sl 1 (j.map (eI .i64)))),(8,.d (.sl 1 (l.map (eI .i64)))),(9,.hs 0 4 0 a.2.2.2.length),(10,.d (.sl 2 (a.1.map Qe))),(11,q6 a.2.1),(12,q6 a.2.2.1),(13,.d (.sl 1 (u.map eB)))],[(0,.dat 4 (a.2.2.2.map qx))],1⟩) (wkA [(0,0)] [1] []) ?_ (by simp)
    refine qw<|U J<|U J ?_
    obtain ⟨aa,bl,h⟩:=q7 h
    refine qt (qru l u aa bl) J<|q9 J<|q8<|qf<|qb<|U J<|O (.d (.bool (decide (a.2.2.1 > 0)))) J ?_
    obtain ⟨bm,x,h⟩:=q7 h
    refine Q3 5 (fun A st=>∃ (ap aq ar au : V),st = A [(71,qe bm),(70,au),(69,ar),(68,aq),(67,ap)]) ?_ ?_
    ·refine Q2 J J x (fun x=>?_) (fun x=>?_)
     ·refine U J<|U J ?_
      obtain ⟨av,bn,x⟩:=q7 x
      refine qt (qrx aa a.1 av bn) J<|O (qe av) J<|q8 ?_
      obtain rfl:=qd x
      exact ⟨_,_,_,_,J⟩
     refine qa J<|qa J<|qa J<|O (qe false) J<|q8 ?_
     obtain rfl:=qd x
     exact ⟨_,_,_,_,J⟩
    rintro _ ⟨ap,aq,ar,au,rfl⟩
    refine q8 ?_
    refine qm J h (fun _ h=>?_) (fun _ h=>?_)
    ·refine qf<|qb<|U J<|q9 J<|q8 ?_
     obtain ⟨aw,bo,h⟩:=q7 h
     refine Qh (fun ae=>ae = aw) (fun (ae : List qi)=>⟨[(0,q6 k),(1,.d (.sl 4 (f.map qx))),(2,.d (.sl 4 (g.map qx))),(7,.d (.sl 1 (j.map (eI .i64)))),(8,.d (.sl 1 (l.map (eI .i64)))),(9,.hs 0 4 0 ae.length),(10,.d (.sl 2 (a.1.map Qe))),(11,q6 a.2.1),(12,q6 a.2.2.1)],[(0,.dat 4 (ae.map qx))],1⟩) (by simp) ?_ ?_
     ·refine Q7 (q2x j a) (fun (n : Int × List qi)=>⟨[(0,q6 k),(1,.d (.sl 4 (f.map qx))),(2,.d (.sl 4 (g.map qx))),(7,.d (.sl 1 (j.map (eI .i64)))),(8,.d (.sl 1 (l.map (eI .i64)))),(9,.hs 0 4 0 n.2.length),(10,.d (.sl 2 (a.1.map Qe))),(11,q6 a.2.1),(12,q6 a.2.2.1),(16,q6 n.1)],[(0,.dat 4 (n.2.map qx))],1⟩) (a.2.1,a.2.2.2) aw bo (wkA [(0,0)] [] []) ?_
      intro n cc m
      unfold q2x at m
      refine qf<|qb<|U J<|U J<|O (q6 (n.2.length : Int)) J<|O (.d (.bool (decide (n.1 < (n.2.length : Int))))) J<|q8 ?_
      refine qm J m (fun _ m=>?_) (fun _ m=>?_)
      ·refine qn<|qf<|Q1<|qw<|U J<|U J<|U J<|U J<|O (.d (G (w64 (a.2.2.1 + 1)))) J ?_
       obtain ⟨af,bp,m⟩:=q7 m
       refine Q9 (enc:=(eI .i64)) bp J<|O (q6 af) J ?_
       obtain ⟨ag,ax,m⟩:=q7 m
       refine qq ax J J<|O (.ref 0 4 n.1.toNat 2) J<|Qk (ds:=[G af]) ({X0:=ag.X0,Y0:=ag.Y0,X1:=af,Y1:=ag.Y1} : qi) ax J J J J J J J J (leb J) J<|qs<|Qc<|qw<|U J<|O (.d (G (w64 (n.1 + 1)))) J<|q9 J<|qs ?_
       exact ⟨_,(Option.some.inj m).symm,wkE [(0,0)] [] [] J ⟨⟨_,J,.d (.refl _)⟩,⟨_,J,.d (.refl _)⟩,⟨_,J,.d (.refl _)⟩,⟨_,J,.d (.refl _)⟩,⟨_,J,.d (.refl _)⟩,⟨_,J,Qp (by simp) J (by decide) (ltd J)⟩,⟨_,J,.d (.refl _)⟩,⟨_,J,.d (.refl _)⟩,⟨_,J,.d (.refl _)⟩,⟨_,J,.d (.refl _)⟩,trivial⟩ ⟨⟨ltd J,.inr ⟨by decide,_,J,.dat _ _⟩⟩,trivial⟩⟩
      refine Q6 ?_
      refine ⟨_,(Option.some.inj m).symm,fun hm=>?_⟩
      subst hm
      exact ⟨_,J,wkA [(0,0)] [] []⟩
     intro ae hb
     subst hb
     refine Q6 ?_
     obtain rfl:=qd h
     exact ⟨_,J,wkA [(0,0)] [] []⟩
    refine qn<|qb<|U J<|O (q6 (a.2.2.2.length : Int)) J<|U J<|q9 J<|q9 J<|qp<|q9 J<|q8 ?_
    obtain ⟨bq,br,h⟩:=q7 h
    refine Q1<|Q7 (q51 aa j a) (fun (y : Int × List qi)=>⟨[(0,q6 k),(1,.d (.sl 4 (f.map qx))),(2,.d (.sl 4 (g.map qx))),(7,.d (.sl 1 (j.map (eI .i64)))),(8,.d (.sl 1 (l.map (eI .i64)))),(9,.hs 0 4 0 y.2.length),(10,.d (.sl 2 (aa.map Qe))),(11,q6 (a.2.2.2.length : Int)),(12,q6 a.2.2.1),(15,.d (.sl 2 (aa.map Qe))),(17,q6 y.1)],[(0,.dat 4 (y.2.map qx))],1⟩) (0,a.2.2.2) bq br (wkA [(0,0)] [] []) ?_
    intro y cd c
    unfold q51 at c
    refine qf<|qb<|U J<|U J<|Qn J<|O (.d (.bool (decide (y.1 < (aa.length : Int))))) J<|q8 ?_
    refine qm J c (fun _ c=>?_) (fun _ c=>?_)
    ·refine qn<|qf<|Q1<|Q5 [q0,(some [0,1],[0,2]),(some [],[1]),q0,q0,q0,q0,q0,q0,q0,q0,q0,q0,q0,q0,q0,q0,q0,q0,q0,q0,q0,q0,q0] (by kernel_rfl)<|U J<|U J<|U J ?_
     obtain ⟨ab,bs,c⟩:=q7 c
     refine Q9 (enc:=(eI .i64)) bs J<|O (q6 ab) J<|U J<|U J ?_
     obtain ⟨q,bt,c⟩:=q7 c
     refine Q9 (enc:=Qe) bt J<|O (.dref [G q.Lo,G q.Hi] 0) J<|O (q6 q.Lo) J<|U J<|U J<|O (.d (G (w64 (a.2.2.1 + 1)))) J ?_
     obtain ⟨ac,bu,c⟩:=q7 c
     refine Q9 (enc:=(eI .i64)) bu J<|O (q6 ac) J<|U J<|U J ?_
     obtain ⟨s,bv,c⟩:=q7 c
     refine Q9 (enc:=Qe) bv J<|O (.dref [G s.Lo,G s.Hi] 1) J<|O (q6 s.Hi) J<|O (.d (.agg [G ab,G q.Lo,G ac,G s.Hi])) J<|Qg (.hs 1 4 0 [({X0:=ab,Y0:=q.Lo,X1:=ac,Y1:=s.Hi} : qi)].length) (.dat 4 ([({X0:=ab,Y0:=q.Lo,X1:=ac,Y1:=s.Hi} : qi)].map qx)) J ?_
     obtain ⟨ce,bw,c⟩:=q7 c
     refine Kx (xs:=y.2) (ys:=[({X0:=ab,Y0:=q.Lo,X1:=ac,Y1:=s.Hi} : qi)]) (enc:=qx) (.hs 1 4 0 [({X0:=ab,Y0:=q.Lo,X1:=ac,Y1:=s.Hi} : qi)].length) bw J J J J J J J (Kv J J) J J J J<|q9 J<|qs<|Qc<|qw<|U J<|O (.d (G (w64 (y.1 + 1)))) J<|q9 J<|qs ?_
     exact ⟨_,(Option.some.inj c).symm,wkA [(0,2)] [] []⟩
    refine Q6 ?_
    refine ⟨_,(Option.some.inj c).symm,fun hm=>?_⟩
    subst hm
    obtain rfl:=qd h
    exact ⟨_,J,wkA [(0,0)] [] []⟩
   intro t hb
   subst hb
   refine qw<|U J<|O (.d (G (w64 (a.2.2.1 + 1)))) J<|q9 J<|qs ?_
   exact ⟨_,(Option.some.inj p).symm,wkA [(0,0)] [] []⟩
  refine Q6 ?_
  refine ⟨_,(Option.some.inj p).symm,fun hm=>?_⟩
  subst hm
  exact ⟨_,J,wkA [(0,0)] [] []⟩
 intro z hb
 subst hb
 refine qb<|U J<|q9 J<|qr ?_
 obtain rfl:=qd o
 exact finD (.inr J) (v:=.hs 0 4 0 z.length) J (J2 J J) (.refl _)
theorem qs0 (g : List qi) (h : List qi) (r : Bool) (b : q53 g h = some r) : Pure Tryz.prog tab 36 [.sl 4 (g.map qx),.sl 4 (h.map qx)] (.bool r):=by
 unfold q53 at b
 refine Qb Tryz.func36 J (by kernel_rfl) (by kernel_rfl) J<|qb<|q9 J<|q8<|qf<|qb<|U J<|Qn J<|U J<|Qn J<|O (.d (.bool ((g.length : Int) != (h.length : Int)))) J<|q8 ?_
 refine qm J b (fun _ b=>?_) (fun _ b=>?_)
 ·refine qb<|q9 J<|qr ?_
  obtain rfl:=qd b
  exact qz (qe false) J
 refine qn<|qf<|qb<|q9 J<|q8 ?_
 obtain ⟨l,m,b⟩:=q7 b
 refine Qh (fun k=>.inl k = l) (fun (k : Unit)=>⟨[],[],0⟩) (by simp) ?_ ?_
 ·refine Q7 (qap g h) (fun (j : Int)=>⟨[(0,.d (.sl 4 (g.map qx))),(1,.d (.sl 4 (h.map qx))),(5,q6 j)],[],0⟩) 0 l m (wkA [] [] []) ?_
  intro j p a
  unfold qap at a
  refine qf<|qb<|U J<|U J<|Qn J<|O (.d (.bool (decide (j < (g.length : Int))))) J<|q8 ?_
  refine qm J a (fun _ a=>?_) (fun _ a=>?_)
  ·refine qn<|qf<|Q1<|qf<|Q5 [q0,q0,q0,q0,q0,q0,q0,q0,q0] (by kernel_rfl)<|U J<|U J ?_
   obtain ⟨c,n,a⟩:=q7 a
   refine Q9 (enc:=qx) n J<|O (.d (.agg [G c.X0,G c.Y0,G c.X1,G c.Y1])) J<|U J<|U J ?_
   obtain ⟨f,o,a⟩:=q7 a
   refine Q9 (enc:=qx) o J<|O (.d (.agg [G f.X0,G f.Y0,G f.X1,G f.Y1])) J<|O (.d (.bool (!((c.X0 == f.X0) && ((c.Y0 == f.Y0) && ((c.X1 == f.X1) && ((c.Y1 == f.Y1) && true))))))) J<|q8 ?_
   refine qm J a (fun _ a=>?_) (fun _ a=>?_)
   ·refine qb<|q9 J<|qr ?_
    refine ⟨_,(Option.some.inj a).symm,fun hm=>?_⟩
    subst hm
    obtain rfl:=qd b
    exact qz (qe false) J
   refine qn<|Qa<|Qc<|qw<|U J<|O (.d (G (w64 (j + 1)))) J<|q9 J<|qs ?_
   exact ⟨_,(Option.some.inj a).symm,wkA [] [] []⟩
  refine Q6 ?_
  refine ⟨_,(Option.some.inj a).symm,fun hm=>?_⟩
  subst hm
  exact ⟨_,J,wkA [] [] []⟩
 intro k hb
 subst hb
 refine qb<|q9 J<|qr ?_
 obtain rfl:=qd b
 exact qz (qe true) J
theorem qsi (s : Int) (f : List qg) (g : List qg) (r : List qg × Bool) (w : q35 s f g = some r) : Pure Tryz.prog tab 55 [G s,.sl 6 (f.map qy),.sl 6 (g.map qy)] (.tup [.sl 6 (r.1.map qy),.bool r.2]):=by
 unfold q35 at w
 refine Qb Tryz.func55 J (by kernel_rfl) (by kernel_rfl) J<|qb<|q9 J<|q9 J<|qp<|U J<|U J ?_
 obtain ⟨o,h2,w⟩:=q7 w
 refine qt (qsf f g o h2) J<|q9 J<|qp<|q9 J<|qp<|q9 J<|qp<|q9 J<|q8<|qf<|qb<|q9 J<|q8 ?_
 obtain ⟨ai,bv,w⟩:=q7 w
 refine Qh (fun t=>.inl t = ai) (fun (t : List qg)=>⟨[(9,.hs 0 6 0 t.length)],[(0,.dat 6 (t.map qy))],1⟩) (by simp) ?_ ?_
 ·refine Q7 (Uw o f g s) (fun (b : List qi × Int × Int × List qg)=>⟨[(0,q6 s),(1,.d (.sl 6 (f.map qy))),(2,.d (.sl 6 (g.map qy))),(8,.d (.sl 1 (o.map (eI .i64)))),(9,.hs 0 6 0 b.2.2.2.length),(10,.d (.sl 4 (b.1.map qx))),(11,q6 b.2.1),(12,q6 b.2.2.1)],[(0,.dat 6 (b.2.2.2.map qy))],1⟩) ([],0,0,[]) ai bv (wkA [] [] [0]) ?_
  intro b cz u
  unfold Uw at u
  refine qf<|qb<|U J<|O (.d (G (w64 (b.2.2.1 + 1)))) J<|U J<|Qn J<|O (.d (.bool (decide ((w64 (b.2.2.1 + 1)) < (o.length : Int))))) J<|q8 ?_
  refine qm J u (fun _ u=>?_) (fun _ u=>?_)
  ·refine qn<|qf ?_
   obtain ⟨bw,a,u⟩:=q7 u
   refine Qh (fun x=>.inl x = bw) (fun (x : List qi × Int × List qg)=>⟨[(0,q6 s),(1,.d (.sl 6 (f.map qy))),(2,.d (.sl 6 (g.map qy))),(8,.d (.sl 1 (o.map (eI .i64)))),(9,.hs 0 6 0 x.2.2.length),(10,.d (.sl 4 (x.1.map qx))),(11,q6 x.2.1),(12,q6 b.2.2.1)],[(0,.dat 6 (x.2.2.map qy))],1⟩) (by simp) ?_ ?_
   ·refine qf<|Q5 [q0,q0,q0,q0,q0,q0,q0,q0,q0,q0,q0,q0,q0,q0,q0] (by kernel_rfl)<|U J<|U J<|U J<|U J ?_
    obtain ⟨aj,bz,a⟩:=q7 a
    refine Q9 (enc:=(eI .i64)) bz J<|O (q6 aj) J ?_
    obtain ⟨ak,ca,a⟩:=q7 a
    refine qt (qav f aj ak ca) J<|U J<|U J<|U J ?_
    obtain ⟨al,cb,a⟩:=q7 a
    refine Q9 (enc:=(eI .i64)) cb J<|O (q6 al) J ?_
    obtain ⟨am,cc,a⟩:=q7 a
    refine qt (qav g al am cc) J ?_
    obtain ⟨y,cd,a⟩:=q7 a
    refine qt (qdt s ak am y cd) J<|q9 J<|q8<|qf<|qb<|U J<|Qn J<|O (.d (.bool (decide ((y.length : Int) > 400)))) J ?_
    obtain ⟨ce,h,a⟩:=q7 a
    refine Q3 11 (fun A st=>∃ (an ao ap aq ar au av aw ax ay : V),st = A [(53,qe ce),(52,ay),(51,ax),(50,aw),(49,av),(48,au),(47,ar),(46,aq),(45,ap),(44,ao),(43,an)]) ?_ ?_
    ·refine Q2 J J h (fun h=>?_) (fun h=>?_)
     ·refine qa J<|qa J<|qa J<|qa J<|qa J<|qa J<|qa J<|qa J<|qa J<|O (qe true) J<|q8 ?_
      obtain rfl:=qd h
      exact ⟨_,_,_,_,_,_,_,_,_,_,J⟩
     refine U J<|U J<|U J ?_
     obtain ⟨az,cf,h⟩:=q7 h
     refine Q9 (enc:=(eI .i64)) cf J<|O (q6 az) J ?_
     obtain ⟨ba,cg,h⟩:=q7 h
     refine qt (qav f az ba cg) J ?_
     obtain ⟨ae,ch,h⟩:=q7 h
     refine qt (q7f (.cons (.refl _) (.cons (.refl _) (.cons (.nil _) .nil))) (qdt 2 ba [] ae ch)) J<|Qn J<|O (.d (.bool (decide ((ae.length : Int) > 400)))) J<|O (.d (.bool (decide ((ae.length : Int) > 400)))) J<|q8 ?_
     obtain rfl:=qd h
     exact ⟨_,_,_,_,_,_,_,_,_,_,J⟩
    rintro _ ⟨an,ao,ap,aq,ar,au,av,aw,ax,ay,rfl⟩
    obtain ⟨ci,j,a⟩:=q7 a
    refine Q3 11 (fun A st=>∃ (bb bc bd be bf bg bh bi bj bk : V),st = A [(64,qe ci),(63,bk),(62,bj),(61,bi),(60,bh),(59,bg),(58,bf),(57,be),(56,bd),(55,bc),(54,bb)]) ?_ ?_
    ·refine Q2 J J j (fun j=>?_) (fun j=>?_)
     ·refine qa J<|qa J<|qa J<|qa J<|qa J<|qa J<|qa J<|qa J<|qa J<|O (qe true) J<|q8 ?_
      obtain rfl:=qd j
      exact ⟨_,_,_,_,_,_,_,_,_,_,J⟩
     refine U J<|U J<|U J ?_
     obtain ⟨bl,cj,j⟩:=q7 j
     refine Q9 (enc:=(eI .i64)) cj J<|O (q6 bl) J ?_
     obtain ⟨bm,ck,j⟩:=q7 j
     refine qt (qav g bl bm ck) J ?_
     obtain ⟨af,cl,j⟩:=q7 j
     refine qt (q7f (.cons (.refl _) (.cons (.refl _) (.cons (.nil _) .nil))) (qdt 2 bm [] af cl)) J<|Qn J<|O (.d (.bool (decide ((af.length : Int) > 400)))) J<|O (.d (.bool (decide ((af.length : Int) > 400)))) J<|q8 ?_
     obtain rfl:=qd j
     exact ⟨_,_,_,_,_,_,_,_,_,_,J⟩
    rintro _ ⟨bb,bc,bd,be,bf,bg,bh,bi,bj,bk,rfl⟩
    refine q8 ?_
    refine qm J a (fun _ a=>?_) (fun _ a=>?_)
    ·refine qb<|q9 J<|q9 J<|qr ?_
     obtain rfl:=qd a
     refine ⟨_,(Option.some.inj u).symm,fun hm=>?_⟩
     subst hm
     obtain rfl:=qd w
     exact finD (.inr J) (v:=.d (.tup [.nilsl,.bool false])) J J (Zv (.cons (.nil _) (.cons (.refl _) .nil)))
    refine qn<|qf<|qb<|U J<|O (.d (.bool (decide (b.2.2.1 > 0)))) J ?_
    obtain ⟨cm,z,a⟩:=q7 a
    refine Q3 5 (fun A st=>∃ (bn bo bp bq : V),st = A [(71,qe cm),(70,bq),(69,bp),(68,bo),(67,bn)]) ?_ ?_
    ·refine Q2 J J z (fun z=>?_) (fun z=>?_)
     ·refine U J<|U J ?_
      obtain ⟨br,cn,z⟩:=q7 z
      refine qt (qs0 y b.1 br cn) J<|O (qe br) J<|q8 ?_
      obtain rfl:=qd z
      exact ⟨_,_,_,_,J⟩
     refine qa J<|qa J<|qa J<|O (qe false) J<|q8 ?_
     obtain rfl:=qd z
     exact ⟨_,_,_,_,J⟩
    rintro _ ⟨bn,bo,bp,bq,rfl⟩
    refine q8 ?_
    refine qm J a (fun _ a=>?_) (fun _ a=>?_)
    ·refine qf<|qb<|U J<|q9 J<|q8 ?_
     obtain ⟨bs,co,a⟩:=q7 a
     refine Qh (fun ad=>ad = bs) (fun (ad : List qg)=>⟨[(0,q6 s),(1,.d (.sl 6 (f.map qy))),(2,.d (.sl 6 (g.map qy))),(8,.d (.sl 1 (o.map (eI .i64)))),(9,.hs 0 6 0 ad.length),(10,.d (.sl 4 (b.1.map qx))),(11,q6 b.2.1),(12,q6 b.2.2.1)],[(0,.dat 6 (ad.map qy))],1⟩) (by simp) ?_ ?_
     ·refine Q7 (q36 o b) (fun (p : Int × List qg)=>⟨[(0,q6 s),(1,.d (.sl 6 (f.map qy))),(2,.d (.sl 6 (g.map qy))),(8,.d (.sl 1 (o.map (eI .i64)))),(9,.hs 0 6 0 p.2.length),(10,.d (.sl 4 (b.1.map qx))),(11,q6 b.2.1),(12,q6 b.2.2.1),(14,q6 p.1)],[(0,.dat 6 (p.2.map qy))],1⟩) (b.2.1,b.2.2.2) bs co (wkA [(0,0)] [] []) ?_
      intro p da q
      unfold q36 at q
      refine qf<|qb<|U J<|U J<|O (q6 (p.2.length : Int)) J<|O (.d (.bool (decide (p.1 < (p.2.length : Int))))) J<|q8 ?_
      refine qm J q (fun _ q=>?_) (fun _ q=>?_)
      ·refine qn<|qf<|Q1<|qw<|U J<|U J<|U J<|U J<|O (.d (G (w64 (b.2.2.1 + 1)))) J ?_
       obtain ⟨ag,cp,q⟩:=q7 q
       refine Q9 (enc:=(eI .i64)) cp J<|O (q6 ag) J ?_
       obtain ⟨ah,bt,q⟩:=q7 q
       refine qq bt J J<|O (.ref 0 6 p.1.toNat 3) J<|O (.ref 0 6 p.1.toNat 5) J<|Qk (ds:=[G ag]) ({Lo:=ah.Lo,Hi:=({X:=ah.Hi.X,Y:=ah.Hi.Y,Z:=ag} : qj)} : qg) bt J J J J J J J J (leb J) J<|qs<|Qc<|qw<|U J<|O (.d (G (w64 (p.1 + 1)))) J<|q9 J<|qs ?_
       exact ⟨_,(Option.some.inj q).symm,wkE [(0,0)] [] [] J ⟨⟨_,J,.d (.refl _)⟩,⟨_,J,.d (.refl _)⟩,⟨_,J,.d (.refl _)⟩,⟨_,J,.d (.refl _)⟩,⟨_,J,Qp (by simp) J (by decide) (ltd J)⟩,⟨_,J,.d (.refl _)⟩,⟨_,J,.d (.refl _)⟩,⟨_,J,.d (.refl _)⟩,⟨_,J,.d (.refl _)⟩,trivial⟩ ⟨⟨ltd J,.inr ⟨by decide,_,J,.dat _ _⟩⟩,trivial⟩⟩
      refine Q6 ?_
      refine ⟨_,(Option.some.inj q).symm,fun hm=>?_⟩
      subst hm
      exact ⟨_,J,wkA [(0,0)] [] []⟩
     intro ad hb
     subst hb
     refine Q6 ?_
     obtain rfl:=qd a
     exact ⟨_,J,wkA [(0,0)] [] []⟩
    refine qn<|qb<|U J<|O (q6 (b.2.2.2.length : Int)) J<|U J<|q9 J<|q9 J<|qp<|q9 J<|q8 ?_
    obtain ⟨cq,cr,a⟩:=q7 a
    refine Q1<|Q7 (q57 y o b) (fun (aa : Int × List qg)=>⟨[(0,q6 s),(1,.d (.sl 6 (f.map qy))),(2,.d (.sl 6 (g.map qy))),(8,.d (.sl 1 (o.map (eI .i64)))),(9,.hs 0 6 0 aa.2.length),(10,.d (.sl 4 (y.map qx))),(11,q6 (b.2.2.2.length : Int)),(12,q6 b.2.2.1),(13,.d (.sl 4 (y.map qx))),(15,q6 aa.1)],[(0,.dat 6 (aa.2.map qy))],1⟩) (0,b.2.2.2) cq cr (wkA [(0,0)] [] []) ?_
    intro aa dc c
    unfold q57 at c
    refine qf<|qb<|U J<|U J<|Qn J<|O (.d (.bool (decide (aa.1 < (y.length : Int))))) J<|q8 ?_
    refine qm J c (fun _ c=>?_) (fun _ c=>?_)
    ·refine qn<|qf<|Q1<|Q5 [q0,(some [0,1],[0,2]),(some [],[1]),q0,q0,q0,q0,q0,q0,q0,q0,q0,q0,q0,q0,q0,q0,q0,q0,q0,q0,q0,q0,q0,q0,q0,q0,q0,q0,q0,q0,q0,q0,q0,q0,q0] (by kernel_rfl)<|U J<|U J<|U J ?_
     obtain ⟨k,cs,c⟩:=q7 c
     refine Q9 (enc:=qx) cs J<|O (.dref [G k.X0,G k.Y0,G k.X1,G k.Y1] 0) J<|O (q6 k.X0) J<|U J<|U J ?_
     obtain ⟨l,ct,c⟩:=q7 c
     refine Q9 (enc:=qx) ct J<|O (.dref [G l.X0,G l.Y0,G l.X1,G l.Y1] 1) J<|O (q6 l.Y0) J<|U J<|U J ?_
     obtain ⟨ab,cu,c⟩:=q7 c
     refine Q9 (enc:=(eI .i64)) cu J<|O (q6 ab) J<|O (.d (.agg [G k.X0,G l.Y0,G ab])) J<|U J<|U J ?_
     obtain ⟨m,cv,c⟩:=q7 c
     refine Q9 (enc:=qx) cv J<|O (.dref [G m.X0,G m.Y0,G m.X1,G m.Y1] 2) J<|O (q6 m.X1) J<|U J<|U J ?_
     obtain ⟨n,cw,c⟩:=q7 c
     refine Q9 (enc:=qx) cw J<|O (.dref [G n.X0,G n.Y0,G n.X1,G n.Y1] 3) J<|O (q6 n.Y1) J<|U J<|U J<|O (.d (G (w64 (b.2.2.1 + 1)))) J ?_
     obtain ⟨ac,cx,c⟩:=q7 c
     refine Q9 (enc:=(eI .i64)) cx J<|O (q6 ac) J<|O (.d (.agg [G m.X1,G n.Y1,G ac])) J<|O (.d (.agg [G k.X0,G l.Y0,G ab,G m.X1,G n.Y1,G ac])) J<|Qg (.hs 1 6 0 [({Lo:=({X:=k.X0,Y:=l.Y0,Z:=ab} : qj),Hi:=({X:=m.X1,Y:=n.Y1,Z:=ac} : qj)} : qg)].length) (.dat 6 ([({Lo:=({X:=k.X0,Y:=l.Y0,Z:=ab} : qj),Hi:=({X:=m.X1,Y:=n.Y1,Z:=ac} : qj)} : qg)].map qy)) J ?_
     obtain ⟨dd,cy,c⟩:=q7 c
     refine Kx (xs:=aa.2) (ys:=[({Lo:=({X:=k.X0,Y:=l.Y0,Z:=ab} : qj),Hi:=({X:=m.X1,Y:=n.Y1,Z:=ac} : qj)} : qg)]) (enc:=qy) (.hs 1 6 0 [({Lo:=({X:=k.X0,Y:=l.Y0,Z:=ab} : qj),Hi:=({X:=m.X1,Y:=n.Y1,Z:=ac} : qj)} : qg)].length) cy J J J J J J J (Kv J J) J J J J<|q9 J<|qs<|Qc<|qw<|U J<|O (.d (G (w64 (aa.1 + 1)))) J<|q9 J<|qs ?_
     exact ⟨_,(Option.some.inj c).symm,wkA [(0,2)] [] []⟩
    refine Q6 ?_
    refine ⟨_,(Option.some.inj c).symm,fun hm=>?_⟩
    subst hm
    obtain rfl:=qd a
    exact ⟨_,J,wkA [(0,0)] [] []⟩
   intro x hb
   subst hb
   refine qw<|U J<|O (.d (G (w64 (b.2.2.1 + 1)))) J<|q9 J<|qs ?_
   exact ⟨_,(Option.some.inj u).symm,wkA [(0,0)] [] []⟩
  refine Q6 ?_
  refine ⟨_,(Option.some.inj u).symm,fun hm=>?_⟩
  subst hm
  exact ⟨_,J,wkA [(0,0)] [] []⟩
 intro t hb
 subst hb
 refine qb<|U J<|U J<|O (q6 (t.length : Int)) J<|O (.d (.bool (decide ((t.length : Int)≤400)))) J<|q9 J<|q9 J<|qr ?_
 obtain rfl:=qd w
 exact finD (.inr J) (v:=.tup [.hs 0 6 0 t.length,.d (.bool (decide ((t.length : Int)≤400)))]) J (qet (q2q (J2 J J) (q2q J J))) (.refl _)
theorem qut (f : List qg) (j : qg→Option Bool) (p1F : FuncId) (p1C : List DV) (p1Ok : ∀ (c : qg) (r : Bool),j c = some r→Pure Tryz.prog tab p1F ([.agg [G c.Lo.X,G c.Lo.Y,G c.Lo.Z,G c.Hi.X,G c.Hi.Y,G c.Hi.Z]] ++ p1C) (.bool r)) (r : Int) (g : q87 f j = some r) : Pure Tryz.prog tab 86 [.sl 6 (f.map qy),.fn p1F p1C] (G r):=by
 unfold q87 at g
 refine Qb Tryz.func86 J (by kernel_rfl) (by kernel_rfl) J<|qb<|q9 J<|q8<|qf<|qb<|U J<|Qn J<|U J<|q8 ?_
 obtain ⟨l,m,g⟩:=q7 g
 refine Qh (fun k=>.inl k = l) (fun (k : Unit)=>⟨[],[],0⟩) (by simp) ?_ ?_
 ·refine Q7 (U8 f j) (fun (h : Int)=>⟨[(0,.d (.sl 6 (f.map qy))),(1,.d (.fn p1F p1C)),(7,q6 (f.length : Int)),(8,q6 h)],[],0⟩) 0 l m (wkA [] [] []) ?_
  intro h q a
  unfold U8 at a
  refine qb<|O (.d (.bool (decide (h < (f.length : Int))))) J<|q8<|qf ?_
  refine qm J a (fun _ a=>?_) (fun _ a=>?_)
  ·refine qn<|qf<|Q1<|qb<|U J<|q9 J<|qp<|U J<|U J<|U J ?_
   obtain ⟨b,n,a⟩:=q7 a
   refine Q9 (enc:=qy) n J<|O (.d (.agg [G b.Lo.X,G b.Lo.Y,G b.Lo.Z,G b.Hi.X,G b.Hi.Y,G b.Hi.Z])) J ?_
   obtain ⟨o,p,a⟩:=q7 a
   refine Ye [.d (.agg [G b.Lo.X,G b.Lo.Y,G b.Lo.Z,G b.Hi.X,G b.Hi.Y,G b.Hi.Z])] (p1Ok b o p) J J J (.inl J)<|q8 ?_
   refine qm J a (fun _ a=>?_) (fun _ a=>?_)
   ·refine qb<|U J<|q9 J<|qr ?_
    refine ⟨_,(Option.some.inj a).symm,fun hm=>?_⟩
    subst hm
    obtain rfl:=qd g
    exact qz (q6 h) J
   refine qn<|Qa<|Qc<|qw<|O (.d (G (w64 (h + 1)))) J<|U J<|qs ?_
   exact ⟨_,(Option.some.inj a).symm,wkA [] [] []⟩
  refine Q6 ?_
  refine ⟨_,(Option.some.inj a).symm,fun hm=>?_⟩
  subst hm
  exact ⟨_,J,wkA [] [] []⟩
 intro k hb
 subst hb
 refine qb<|q9 J<|qr ?_
 obtain rfl:=qd g
 exact qz (q6 (-1)) J
theorem qk3 (c : List qg) (f : qg→Option Bool) (p1F : FuncId) (p1C : List DV) (p1Ok : ∀ (a : qg) (r : Bool),f a = some r→Pure Tryz.prog tab p1F ([.agg [G a.Lo.X,G a.Lo.Y,G a.Lo.Z,G a.Hi.X,G a.Hi.Y,G a.Hi.Z]] ++ p1C) (.bool r)) (r : Bool) (b : q3a c f = some r) : Pure Tryz.prog tab 57 [.sl 6 (c.map qy),.fn p1F p1C] (.bool r):=by
 unfold q3a at b
 refine Qb Tryz.func57 J (by kernel_rfl) (by kernel_rfl) J<|qb<|q9 J<|qp<|U J<|U J ?_
 obtain ⟨g,h,b⟩:=q7 b
 refine qt (qut c f p1F p1C p1Ok g h) J<|O (.d (.bool (decide (g ≥ 0)))) J<|q9 J<|qr ?_
 obtain rfl:=qd b
 exact qz (.d (.bool (decide (g ≥ 0)))) J
theorem qxi (a : qg) (r : Bool) (b : q22 a = some r) : Pure Tryz.prog tab 58 [.agg [G a.Lo.X,G a.Lo.Y,G a.Lo.Z,G a.Hi.X,G a.Hi.Y,G a.Hi.Z]] (.bool r):=by
 unfold q22 at b
 refine Qb Tryz.func58 J (by kernel_rfl) (by kernel_rfl) J<|qb<|Qg (.ref 0 6 0 0) (.dat 6 [[G a.Lo.X,G a.Lo.Y,G a.Lo.Z,G a.Hi.X,G a.Hi.Y,G a.Hi.Z]]) J<|q9 J<|qp<|O (.d (.agg [G a.Lo.X,G a.Lo.Y,G a.Lo.Z,G a.Hi.X,G a.Hi.Y,G a.Hi.Z])) J ?_
 obtain ⟨c,f,b⟩:=q7 b
 refine qt (qkl a c f) J<|O (qe (!c)) J<|q9 J<|qr ?_
 obtain rfl:=qd b
 exact qz (qe (!c)) J
theorem qup (g : List qg) (h : List qg) (r : Bool) (f : qb2 g h = some r) : Pure Tryz.prog tab 59 [.sl 6 (g.map qy),.sl 6 (h.map qy)] (.bool r):=by
 unfold qb2 at f
 refine Qb Tryz.func59 J (by kernel_rfl) (by kernel_rfl) J<|qb<|q9 J<|q8<|qf<|qb<|U J<|Qn J<|U J<|Qn J<|O (.d (.bool ((g.length : Int) != (h.length : Int)))) J<|q8 ?_
 refine qm J f (fun _ f=>?_) (fun _ f=>?_)
 ·refine qb<|q9 J<|qr ?_
  obtain rfl:=qd f
  exact qz (qe false) J
 refine qn<|qf<|qb<|U J<|Qn J<|U J<|q8 ?_
 obtain ⟨l,m,f⟩:=q7 f
 refine Qh (fun k=>.inl k = l) (fun (k : Unit)=>⟨[],[],0⟩) (by simp) ?_ ?_
 ·refine Q7 (qe9 g h) (fun (j : Int)=>⟨[(0,.d (.sl 6 (g.map qy))),(1,.d (.sl 6 (h.map qy))),(12,q6 (g.length : Int)),(13,q6 j)],[],0⟩) 0 l m (wkA [] [] []) ?_
  intro j p a
  unfold qe9 at a
  refine qb<|O (.d (.bool (decide (j < (g.length : Int))))) J<|q8<|qf ?_
  refine qm J a (fun _ a=>?_) (fun _ a=>?_)
  ·refine qn<|qf<|Q1<|qb<|U J<|q9 J<|q8<|qf<|Q5 [q0,q0,q0,q0,q0,q0,q0,q0,q0] (by kernel_rfl)<|U J<|U J ?_
   obtain ⟨b,n,a⟩:=q7 a
   refine Q9 (enc:=qy) n J<|O (.d (.agg [G b.Lo.X,G b.Lo.Y,G b.Lo.Z,G b.Hi.X,G b.Hi.Y,G b.Hi.Z])) J<|U J<|U J ?_
   obtain ⟨c,o,a⟩:=q7 a
   refine Q9 (enc:=qy) o J<|O (.d (.agg [G c.Lo.X,G c.Lo.Y,G c.Lo.Z,G c.Hi.X,G c.Hi.Y,G c.Hi.Z])) J<|O (.d (.bool (!((b.Lo.X == c.Lo.X) && ((b.Lo.Y == c.Lo.Y) && ((b.Lo.Z == c.Lo.Z) && ((b.Hi.X == c.Hi.X) && ((b.Hi.Y == c.Hi.Y) && ((b.Hi.Z == c.Hi.Z) && true))))))))) J<|q8 ?_
   refine qm J a (fun _ a=>?_) (fun _ a=>?_)
   ·refine qb<|q9 J<|qr ?_
    refine ⟨_,(Option.some.inj a).symm,fun hm=>?_⟩
    subst hm
    obtain rfl:=qd f
    exact qz (qe false) J
   refine qn<|Qa<|Qc<|qw<|O (.d (G (w64 (j + 1)))) J<|U J<|qs ?_
   exact ⟨_,(Option.some.inj a).symm,wkA [] [] []⟩
  refine Q6 ?_
  refine ⟨_,(Option.some.inj a).symm,fun hm=>?_⟩
  subst hm
  exact ⟨_,J,wkA [] [] []⟩
 intro k hb
 subst hb
 refine qb<|q9 J<|qr ?_
 obtain rfl:=qd f
 exact qz (qe true) J
theorem qef (b : List qg) (r : Int) (a : q3l b = some r) : Pure Tryz.prog tab 18 [.sl 6 (b.map qy)] (G r):=by
 unfold q3l at a
 refine Qb Tryz.func18 J (by kernel_rfl) (by kernel_rfl) J<|qb<|q9 J<|q8<|qf<|qb<|U J<|Qn J<|O (.d (.bool (decide ((b.length : Int) > 400)))) J<|q8 ?_
 refine qm J a (fun _ a=>?_) (fun _ a=>?_)
 ·refine qb<|q9 J<|qr ?_
  obtain rfl:=qd a
  exact qz (q6 4) J
 refine qn<|qf<|qb<|U J ?_
 obtain ⟨o,p,a⟩:=q7 a
 refine qt (qk3 b (fun g=>q22 g) 58 [] (fun g r hr=>qxi g r hr) o p) J<|q8 ?_
 refine qm J a (fun _ a=>?_) (fun _ a=>?_)
 ·refine qb<|q9 J<|qr ?_
  obtain rfl:=qd a
  exact qz (q6 8) J
 refine qn<|qf<|qb<|O (.d (.agg [.nilf])) J<|U J<|qdf (es:=1) ([b].map Kd) J J J J J ?_
 obtain ⟨f,q,a⟩:=q7 a
 refine qt (qkm b f q) J<|U J<|O (.d (.sl 6 (f.1.map qy))) J<|O (q6 f.2) J<|q9 J<|q9 J<|qp<|U J<|O (qe (f.2 != 0)) J ?_
 obtain ⟨s,c,a⟩:=q7 a
 refine Q3 6 (fun A st=>∃ (j k l m n : V),st = A [(24,qe s),(23,n),(22,m),(21,l),(20,k),(19,j)]) ?_ ?_
 ·refine Q2 J J c (fun c=>?_) (fun c=>?_)
  ·refine qa J<|qa J<|qa J<|qa J<|O (qe true) J<|q8 ?_
   obtain rfl:=qd c
   exact ⟨_,_,_,_,_,J⟩
  refine U J<|U J ?_
  obtain ⟨h,t,c⟩:=q7 c
  refine qt (qup f.1 b h t) J<|O (qe (!h)) J<|O (qe (!h)) J<|q8 ?_
  obtain rfl:=qd c
  exact ⟨_,_,_,_,_,J⟩
 rintro _ ⟨j,k,l,m,n,rfl⟩
 refine q8 ?_
 refine qm J a (fun _ a=>?_) (fun _ a=>?_)
 ·refine qb<|q9 J<|qr ?_
  obtain rfl:=qd a
  exact qz (q6 8) J
 refine qn<|qb<|q9 J<|qr ?_
 obtain rfl:=qd a
 exact qz (q6 0) J
theorem qkj (a : qg) (r : Int × Int × Int) (b : q6i a = some r) : Pure Tryz.prog tab 56 [.agg [G a.Lo.X,G a.Lo.Y,G a.Lo.Z,G a.Hi.X,G a.Hi.Y,G a.Hi.Z]] (.tup [G r.1,G r.2.1,G r.2.2]):=by
 unfold q6i at b
 refine Qb Tryz.func56 J (by kernel_rfl) (by kernel_rfl) J<|qb<|Qg (.ref 0 6 0 0) (.dat 6 [[G a.Lo.X,G a.Lo.Y,G a.Lo.Z,G a.Hi.X,G a.Hi.Y,G a.Hi.Z]]) J<|q9 J<|q9 J<|q9 J<|q8<|qf<|Q5 [q0,q0,q0,q0,qo 0,q0,q0,qo 0,q0,q0,q0,qo 0,q0,q0,qo 0,q0,q0,q0,qo 0,q0,q0,qo 0,q0,q0] (by kernel_rfl)<|O (.ref 0 6 0 3) J<|O (.ref 0 6 0 3) J<|O (q6 a.Hi.X) J<|O (.ref 0 6 0 0) J<|O (.ref 0 6 0 0) J<|O (q6 a.Lo.X) J<|O (.d (G (w64 (a.Hi.X - a.Lo.X)))) J<|O (.ref 0 6 0 3) J<|O (.ref 0 6 0 4) J<|O (q6 a.Hi.Y) J<|O (.ref 0 6 0 0) J<|O (.ref 0 6 0 1) J<|O (q6 a.Lo.Y) J<|O (.d (G (w64 (a.Hi.Y - a.Lo.Y)))) J<|O (.ref 0 6 0 3) J<|O (.ref 0 6 0 5) J<|O (q6 a.Hi.Z) J<|O (.ref 0 6 0 0) J<|O (.ref 0 6 0 2) J<|O (q6 a.Lo.Z) J<|O (.d (G (w64 (a.Hi.Z - a.Lo.Z)))) J<|q9 J<|q9 J<|q9 J<|qr ?_
 obtain rfl:=qd b
 exact qz (.d (.tup [G (w64 (a.Hi.X - a.Lo.X)),G (w64 (a.Hi.Y - a.Lo.Y)),G (w64 (a.Hi.Z - a.Lo.Z))])) J
theorem qek (g : List qg) (r : Int × Int) (c : q3r g = some r) : Pure Tryz.prog tab 16 [.sl 6 (g.map qy)] (.tup [G r.1,G r.2]):=by
 unfold q3r at c
 refine Qb Tryz.func16 J (by kernel_rfl) (by kernel_rfl) J<|qb<|q9 J<|q9 J<|q8<|qf<|qb<|U J ?_
 obtain ⟨k,m,c⟩:=q7 c
 refine qt (qef g k m) J<|q9 J<|qp<|U J<|O (qe (k != 0)) J<|q8 ?_
 refine qm J c (fun _ c=>?_) (fun _ c=>?_)
 ·refine qb<|U J<|q9 J<|q9 J<|qr ?_
  obtain rfl:=qd c
  exact qz (.d (.tup [G 0,G k])) J
 refine qn<|qb<|q9 J<|q8<|qf<|qb<|U J<|Qn J<|U J<|q8 ?_
 obtain ⟨l,n,c⟩:=q7 c
 refine Qh (fun j=>j = l) (fun (j : Int)=>⟨[(5,q6 j)],[],0⟩) (by simp) ?_ ?_
 ·refine Q7 (q6e g) (fun (h : Int × Int)=>⟨[(5,q6 h.1),(16,.d (.sl 6 (g.map qy))),(17,q6 (g.length : Int)),(18,q6 h.2)],[],0⟩) (0,0) l n (wkA [] [] []) ?_
  intro h q f
  unfold q6e at f
  refine qb<|O (.d (.bool (decide (h.2 < (g.length : Int))))) J<|q8<|qf ?_
  refine qm J f (fun _ f=>?_) (fun _ f=>?_)
  ·refine qn<|qf<|Q1<|qb ?_
   obtain ⟨a,o,f⟩:=q7 f
   refine Q9 (enc:=qy) o J<|O (.d (.agg [G a.Lo.X,G a.Lo.Y,G a.Lo.Z,G a.Hi.X,G a.Hi.Y,G a.Hi.Z])) J<|Qo J J<|Q8 0 (.dat 6 [[G a.Lo.X,G a.Lo.Y,G a.Lo.Z,G a.Hi.X,G a.Hi.Y,G a.Hi.Z]]) J<|qp<|O (.d (.agg [G a.Lo.X,G a.Lo.Y,G a.Lo.Z,G a.Hi.X,G a.Hi.Y,G a.Hi.Z])) J ?_
   obtain ⟨b,p,f⟩:=q7 f
   refine qt (qkj a b p) J<|U J<|O (q6 b.1) J<|O (q6 b.2.1) J<|O (q6 b.2.2) J<|q9 J<|q9 J<|q9 J<|q8<|qw<|U J<|U J<|U J<|O (.d (G (w64 (b.1 * b.2.1)))) J<|U J<|O (.d (G (w64 ((w64 (b.1 * b.2.1)) * b.2.2)))) J<|O (.d (G (w64 (h.1 + (w64 ((w64 (b.1 * b.2.1)) * b.2.2)))))) J<|q9 J<|qs<|Qc<|qw<|O (.d (G (w64 (h.2 + 1)))) J<|U J<|qs ?_
   exact ⟨_,(Option.some.inj f).symm,wkA [] [] []⟩
  refine Q6 ?_
  refine ⟨_,(Option.some.inj f).symm,fun hm=>?_⟩
  subst hm
  exact ⟨_,J,wkA [] [] []⟩
 intro j hb
 subst hb
 refine qb<|U J<|q9 J<|q9 J<|qr ?_
 obtain rfl:=qd c
 exact qz (.d (.tup [G j,G 0])) J
theorem qax (g : List qg) (h : List qg) (r : Bool) (f : q37 g h = some r) : Pure Tryz.prog tab 20 [.sl 6 (g.map qy),.sl 6 (h.map qy)] (.bool r):=by
 unfold q37 at f
 refine Qb Tryz.func20 J (by kernel_rfl) (by kernel_rfl) J<|qb<|q9 J<|q8<|qf<|qb<|U J<|Qn J<|U J<|Qn J<|O (.d (.bool ((g.length : Int) != (h.length : Int)))) J<|q8 ?_
 refine qm J f (fun _ f=>?_) (fun _ f=>?_)
 ·refine qb<|q9 J<|qr ?_
  obtain rfl:=qd f
  exact qz (qe false) J
 refine qn<|qf<|qb<|q9 J<|q8 ?_
 obtain ⟨l,m,f⟩:=q7 f
 refine Qh (fun k=>.inl k = l) (fun (k : Unit)=>⟨[],[],0⟩) (by simp) ?_ ?_
 ·refine Q7 (qaw g h) (fun (j : Int)=>⟨[(0,.d (.sl 6 (g.map qy))),(1,.d (.sl 6 (h.map qy))),(5,q6 j)],[],0⟩) 0 l m (wkA [] [] []) ?_
  intro j p a
  unfold qaw at a
  refine qf<|qb<|U J<|U J<|Qn J<|O (.d (.bool (decide (j < (g.length : Int))))) J<|q8 ?_
  refine qm J a (fun _ a=>?_) (fun _ a=>?_)
  ·refine qn<|qf<|Q1<|qf<|Q5 [q0,q0,q0,q0,q0,q0,q0,q0,q0] (by kernel_rfl)<|U J<|U J ?_
   obtain ⟨b,n,a⟩:=q7 a
   refine Q9 (enc:=qy) n J<|O (.d (.agg [G b.Lo.X,G b.Lo.Y,G b.Lo.Z,G b.Hi.X,G b.Hi.Y,G b.Hi.Z])) J<|U J<|U J ?_
   obtain ⟨c,o,a⟩:=q7 a
   refine Q9 (enc:=qy) o J<|O (.d (.agg [G c.Lo.X,G c.Lo.Y,G c.Lo.Z,G c.Hi.X,G c.Hi.Y,G c.Hi.Z])) J<|O (.d (.bool (!((b.Lo.X == c.Lo.X) && ((b.Lo.Y == c.Lo.Y) && ((b.Lo.Z == c.Lo.Z) && ((b.Hi.X == c.Hi.X) && ((b.Hi.Y == c.Hi.Y) && ((b.Hi.Z == c.Hi.Z) && true))))))))) J<|q8 ?_
   refine qm J a (fun _ a=>?_) (fun _ a=>?_)
   ·refine qb<|q9 J<|qr ?_
    refine ⟨_,(Option.some.inj a).symm,fun hm=>?_⟩
    subst hm
    obtain rfl:=qd f
    exact qz (qe false) J
   refine qn<|Qa<|Qc<|qw<|U J<|O (.d (G (w64 (j + 1)))) J<|q9 J<|qs ?_
   exact ⟨_,(Option.some.inj a).symm,wkA [] [] []⟩
  refine Q6 ?_
  refine ⟨_,(Option.some.inj a).symm,fun hm=>?_⟩
  subst hm
  exact ⟨_,J,wkA [] [] []⟩
 intro k hb
 subst hb
 refine qb<|q9 J<|qr ?_
 obtain rfl:=qd f
 exact qz (qe true) J
theorem qdu (c : List qg) (r : Int) (a : q32 c = some r) : Pure Tryz.prog tab 19 [.sl 6 (c.map qy)] (G r):=by
 unfold q32 at a
 refine Qb Tryz.func19 J (by kernel_rfl) (by kernel_rfl) J<|qb<|q9 J<|q8<|qf<|qb<|U J<|Qn J<|O (.d (.bool (decide ((c.length : Int) > 400)))) J<|q8 ?_
 refine qm J a (fun _ a=>?_) (fun _ a=>?_)
 ·refine qb<|q9 J<|qr ?_
  obtain rfl:=qd a
  exact qz (q6 4) J
 refine qn<|qf<|qb<|q9 J<|q8 ?_
 obtain ⟨m,u,a⟩:=q7 a
 refine Qh (fun k=>.inl k = m) (fun (k : Unit)=>⟨[(0,.d (.sl 6 (c.map qy)))],[],0⟩) (by simp) ?_ ?_
 ·refine Q7 (q56 c) (fun (j : Int)=>⟨[(0,.d (.sl 6 (c.map qy))),(3,q6 j)],[],0⟩) 0 m u (wkA [] [] []) ?_
  intro j aa b
  unfold q56 at b
  refine qf<|qb<|U J<|U J<|Qn J<|O (.d (.bool (decide (j < (c.length : Int))))) J<|q8 ?_
  refine qm J b (fun _ b=>?_) (fun _ b=>?_)
  ·refine qn<|qf<|Q1<|qb<|U J<|U J ?_
   obtain ⟨f,v,b⟩:=q7 b
   refine Q9 (enc:=qy) v J<|O (.d (.agg [G f.Lo.X,G f.Lo.Y,G f.Lo.Z,G f.Hi.X,G f.Hi.Y,G f.Hi.Z])) J ?_
   obtain ⟨n,w,b⟩:=q7 b
   refine qt (qsn f n w) J<|O (qe (!n)) J<|q8 ?_
   refine qm J b (fun _ b=>?_) (fun _ b=>?_)
   ·refine qb<|q9 J<|qr ?_
    refine ⟨_,(Option.some.inj b).symm,fun hm=>?_⟩
    subst hm
    obtain rfl:=qd a
    exact qz (q6 8) J
   refine qn<|Qa<|Qc<|qw<|U J<|O (.d (G (w64 (j + 1)))) J<|q9 J<|qs ?_
   exact ⟨_,(Option.some.inj b).symm,wkA [] [] []⟩
  refine Q6 ?_
  refine ⟨_,(Option.some.inj b).symm,fun hm=>?_⟩
  subst hm
  exact ⟨_,J,wkA [] [] []⟩
 intro k hb
 subst hb
 refine qb<|U J ?_
 obtain ⟨h,x,a⟩:=q7 a
 refine qt (q7f (.cons (.refl _) (.cons (.refl _) (.cons (.nil _) .nil))) (qsi 2 c [] h x)) J<|U J<|O (.d (.sl 6 (h.1.map qy))) J<|O (qe h.2) J<|q9 J<|q9 J<|q8<|qf<|qb<|U J<|O (qe (!h.2)) J ?_
 obtain ⟨y,g,a⟩:=q7 a
 refine Q3 6 (fun A st=>∃ (o p q s t : V),st = A [(33,qe y),(32,t),(31,s),(30,q),(29,p),(28,o)]) ?_ ?_
 ·refine Q2 J J g (fun g=>?_) (fun g=>?_)
  ·refine qa J<|qa J<|qa J<|qa J<|O (qe true) J<|q8 ?_
   obtain rfl:=qd g
   exact ⟨_,_,_,_,_,J⟩
  refine U J<|U J ?_
  obtain ⟨l,z,g⟩:=q7 g
  refine qt (qax h.1 c l z) J<|O (qe (!l)) J<|O (qe (!l)) J<|q8 ?_
  obtain rfl:=qd g
  exact ⟨_,_,_,_,_,J⟩
 rintro _ ⟨o,p,q,s,t,rfl⟩
 refine q8 ?_
 refine qm J a (fun _ a=>?_) (fun _ a=>?_)
 ·refine qb<|q9 J<|qr ?_
  obtain rfl:=qd a
  exact qz (q6 8) J
 refine qn<|qb<|q9 J<|qr ?_
 obtain rfl:=qd a
 exact qz (q6 0) J
theorem qxk (b : qg) (a : qj) (r : Bool) (c : q6c b a = some r) : Pure Tryz.prog tab 60 [.agg [G b.Lo.X,G b.Lo.Y,G b.Lo.Z,G b.Hi.X,G b.Hi.Y,G b.Hi.Z],.box [G a.X,G a.Y,G a.Z]] (.bool r):=by
 unfold q6c at c
 refine Qb Tryz.func60 J (by kernel_rfl) (by kernel_rfl) J<|qb<|Qg (.ref 0 6 0 0) (.dat 6 [[G b.Lo.X,G b.Lo.Y,G b.Lo.Z,G b.Hi.X,G b.Hi.Y,G b.Hi.Z]]) J<|q9 J<|qp<|O (.ref 0 6 0 0) J<|O (.ref 0 6 0 0) J<|O (q6 b.Lo.X) J<|O (.dref [G a.X,G a.Y,G a.Z] 0) J<|O (q6 a.X) J<|O (.d (.bool (decide (b.Lo.X≤a.X)))) J ?_
 obtain ⟨c1,f,c⟩:=q7 c
 refine Q3 8 (fun A st=>∃ (l m n o p q s : V),st = A [(17,qe c1),(16,s),(15,q),(14,p),(13,o),(12,n),(11,m),(10,l)]) ?_ ?_
 ·refine Q2 J J f (fun f=>?_) (fun f=>?_)
  ·refine O (.dref [G a.X,G a.Y,G a.Z] 0) J<|O (q6 a.X) J<|O (.ref 0 6 0 3) J<|O (.ref 0 6 0 3) J<|O (q6 b.Hi.X) J<|O (.d (.bool (decide (a.X < b.Hi.X)))) J<|O (.d (.bool (decide (a.X < b.Hi.X)))) J<|q8 ?_
   obtain rfl:=qd f
   exact ⟨_,_,_,_,_,_,_,J⟩
  refine qa J<|qa J<|qa J<|qa J<|qa J<|qa J<|O (qe false) J<|q8 ?_
  obtain rfl:=qd f
  exact ⟨_,_,_,_,_,_,_,J⟩
 rintro _ ⟨l,m,n,o,p,q,s,rfl⟩
 obtain ⟨az,g,c⟩:=q7 c
 refine Q3 8 (fun A st=>∃ (t u v w x y z : V),st = A [(25,qe az),(24,z),(23,y),(22,x),(21,w),(20,v),(19,u),(18,t)]) ?_ ?_
 ·refine Q2 J J g (fun g=>?_) (fun g=>?_)
  ·refine O (.ref 0 6 0 0) J<|O (.ref 0 6 0 1) J<|O (q6 b.Lo.Y) J<|O (.dref [G a.X,G a.Y,G a.Z] 1) J<|O (q6 a.Y) J<|O (.d (.bool (decide (b.Lo.Y≤a.Y)))) J<|O (.d (.bool (decide (b.Lo.Y≤a.Y)))) J<|q8 ?_
   obtain rfl:=qd g
   exact ⟨_,_,_,_,_,_,_,J⟩
  refine qa J<|qa J<|qa J<|qa J<|qa J<|qa J<|O (qe false) J<|q8 ?_
  obtain rfl:=qd g
  exact ⟨_,_,_,_,_,_,_,J⟩
 rintro _ ⟨t,u,v,w,x,y,z,rfl⟩
 obtain ⟨ba,h,c⟩:=q7 c
 refine Q3 8 (fun A st=>∃ (aa ab ac ad ae af ag : V),st = A [(33,qe ba),(32,ag),(31,af),(30,ae),(29,ad),(28,ac),(27,ab),(26,aa)]) ?_ ?_
 ·refine Q2 J J h (fun h=>?_) (fun h=>?_)
  ·refine O (.dref [G a.X,G a.Y,G a.Z] 1) J<|O (q6 a.Y) J<|O (.ref 0 6 0 3) J<|O (.ref 0 6 0 4) J<|O (q6 b.Hi.Y) J<|O (.d (.bool (decide (a.Y < b.Hi.Y)))) J<|O (.d (.bool (decide (a.Y < b.Hi.Y)))) J<|q8 ?_
   obtain rfl:=qd h
   exact ⟨_,_,_,_,_,_,_,J⟩
  refine qa J<|qa J<|qa J<|qa J<|qa J<|qa J<|O (qe false) J<|q8 ?_
  obtain rfl:=qd h
  exact ⟨_,_,_,_,_,_,_,J⟩
 rintro _ ⟨aa,ab,ac,ad,ae,af,ag,rfl⟩
 obtain ⟨bb,j,c⟩:=q7 c
 refine Q3 8 (fun A st=>∃ (ah ai aj ak al am an : V),st = A [(41,qe bb),(40,an),(39,am),(38,al),(37,ak),(36,aj),(35,ai),(34,ah)]) ?_ ?_
 ·refine Q2 J J j (fun j=>?_) (fun j=>?_)
  ·refine O (.ref 0 6 0 0) J<|O (.ref 0 6 0 2) J<|O (q6 b.Lo.Z) J<|O (.dref [G a.X,G a.Y,G a.Z] 2) J<|O (q6 a.Z) J<|O (.d (.bool (decide (b.Lo.Z≤a.Z)))) J<|O (.d (.bool (decide (b.Lo.Z≤a.Z)))) J<|q8 ?_
   obtain rfl:=qd j
   exact ⟨_,_,_,_,_,_,_,J⟩
  refine qa J<|qa J<|qa J<|qa J<|qa J<|qa J<|O (qe false) J<|q8 ?_
  obtain rfl:=qd j
  exact ⟨_,_,_,_,_,_,_,J⟩
 rintro _ ⟨ah,ai,aj,ak,al,am,an,rfl⟩
 obtain ⟨ao,k,c⟩:=q7 c
 refine Q3 8 (fun A st=>∃ (ap aq ar au av aw ax : V),st = A [(49,qe ao),(48,ax),(47,aw),(46,av),(45,au),(44,ar),(43,aq),(42,ap)]) ?_ ?_
 ·refine Q2 J J k (fun k=>?_) (fun k=>?_)
  ·refine O (.dref [G a.X,G a.Y,G a.Z] 2) J<|O (q6 a.Z) J<|O (.ref 0 6 0 3) J<|O (.ref 0 6 0 5) J<|O (q6 b.Hi.Z) J<|O (.d (.bool (decide (a.Z < b.Hi.Z)))) J<|O (.d (.bool (decide (a.Z < b.Hi.Z)))) J<|q8 ?_
   obtain rfl:=qd k
   exact ⟨_,_,_,_,_,_,_,J⟩
  refine qa J<|qa J<|qa J<|qa J<|qa J<|qa J<|O (qe false) J<|q8 ?_
  obtain rfl:=qd k
  exact ⟨_,_,_,_,_,_,_,J⟩
 rintro _ ⟨ap,aq,ar,au,av,aw,ax,rfl⟩
 refine q9 J<|qr ?_
 obtain rfl:=qd c
 exact qz (qe ao) J
theorem qb8 (b : List qg) (a : qj) (r : Bool) (c : q23 b a = some r) : Pure Tryz.prog tab 21 [.sl 6 (b.map qy),.agg [G a.X,G a.Y,G a.Z]] (.bool r):=by
 unfold q23 at c
 refine Qb Tryz.func21 J (by kernel_rfl) (by kernel_rfl) J<|qb<|Qg (.ref 0 3 0 0) (.dat 3 [[G a.X,G a.Y,G a.Z]]) J<|q9 J<|qp<|U J<|O (.fn 60 [.ref 0 3 0 0]) J ?_
 obtain ⟨g,h,c⟩:=q7 c
 refine q7d [.d (.sl 6 (b.map qy)),.fn 60 [.ref 0 3 0 0]] (qk3 b (fun f=>q6c f a) 60 [.box [G a.X,G a.Y,G a.Z]] (fun f r hr=>qxk f a r hr) g h) J J (J5 J (J5 (qys (q2q J J)) J)) (.inr J)<|q9 J<|qr ?_
 obtain rfl:=qd c
 exact qz (qe g) J
theorem qsc (b : List qg) (c : List qg) (r : Int) (a : q7r b c = some r) : Pure Tryz.prog tab 64 [.sl 6 (b.map qy),.sl 6 (c.map qy)] (G r):=by
 unfold q7r at a
 refine Qb Tryz.func64 J (by kernel_rfl) (by kernel_rfl) J<|qb<|q9 J<|q8<|qf<|qb<|U J ?_
 obtain ⟨d,h,a⟩:=q7 a
 refine qt (qdu b d h) J<|O (qe (d != 0)) J<|q8 ?_
 refine qm J a (fun _ a=>?_) (fun _ a=>?_)
 ·refine qb<|U J ?_
  obtain ⟨f,j,a⟩:=q7 a
  refine qt (qdu b f j) J<|q9 J<|qr ?_
  obtain rfl:=qd a
  exact qz (q6 f) J
 refine qn<|qb<|U J ?_
 obtain ⟨g,k,a⟩:=q7 a
 refine qt (qdu c g k) J<|q9 J<|qr ?_
 obtain rfl:=qd a
 exact qz (q6 g) J
end Go.Proofs.YtjjmcdlnadkjbaaGreat
