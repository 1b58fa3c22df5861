/- W_Allc -/
import Derived.Test.YtjjmcdlnadkjbaaGreatK16
namespace Go.Proofs.YtjjmcdlnadkjbaaGreat
open Go Go.Am Go.Sh
set_option maxHeartbeats 8000000
set_option maxRecDepth 100000
theorem qsb (g : List Int) (l : List Bool) (r : List qh) (n : q2y g l = some r) : Pure Tryz.prog tab 94 [.sl 1 (g.map (eI .i64)),.sl 1 (l.map eB)] (.sl 2 (r.map qv)):=by
 unfold q2y at n
 refine Q8 Tryz.func94 J (by kernel_rfl) (by kernel_rfl) J<|qb<|q9 J<|qm<|q9 J<|q8<|qe<|qb<|q9 J<|q8 ?_
 obtain ⟨s,aj,n⟩:=q7 n
 refine Qb (fun h=>h = s) (fun (h : List qh)=>⟨[(5,.hs 0 2 0 h.length)],[(0,.dat 2 (h.map qv))],1⟩) (by simp) ?_ ?_
 ·refine Q7 (q2z g l) (fun (b : Int × List qh)=>⟨[(0,.d (.sl 1 (g.map (eI .i64)))),(1,.d (.sl 1 (l.map eB))),(5,.hs 0 2 0 b.2.length),(6,q0 b.1)],[(0,.dat 2 (b.2.map qv))],1⟩) (0,[]) s aj (wkA [] [] [0]) ?_
  intro b av f
  unfold q2z at f
  refine qe<|qb<|U J<|O (.d (G (w64 (b.1 + 1)))) J<|U J<|Qc J<|O (.d (.bool (decide ((w64 (b.1 + 1)) < (g.length : Int))))) J<|q8 ?_
  refine ql J f (fun _ f=>?_) (fun _ f=>?_)
  ·refine qj<|qe ?_
   obtain ⟨ak,a,f⟩:=q7 f
   refine Qb (fun m=>m = ak) (fun (m : List qh)=>⟨[(0,.d (.sl 1 (g.map (eI .i64)))),(1,.d (.sl 1 (l.map eB))),(5,.hs 0 2 0 m.length),(6,q0 b.1)],[(0,.dat 2 (m.map qv))],1⟩) (by simp) ?_ ?_
   ·refine qe<|qb<|U J<|U J ?_
    obtain ⟨t,al,a⟩:=q7 a
    refine Q4 (enc:=eB) al J<|O (qd t) J<|O (qd (!t)) J<|q8 ?_
    refine ql J a (fun _ a=>?_) (fun _ a=>?_)
    ·refine Q2 ?_
     obtain rfl:=qc a
     exact ⟨_,J,wkA [(0,0)] [] []⟩
    refine qj<|qb<|U J<|O (q0 (b.2.length : Int)) J<|q9 J<|q8<|qe<|Q5 [q6,q6,q6,q6,q6,q6,qo 0,q6,q6,q6,q6,q6,q6,q6,q6] (by kernel_rfl)<|U J<|O (.d (.bool (decide ((b.2.length : Int) > 0)))) J ?_
    obtain ⟨am,c,a⟩:=q7 a
    refine qx 13 (fun A st=>∃ (u w x y z aa ab ac ad ae af ag : V),st = A [(36,qd am),(35,ag),(34,af),(33,ae),(32,ad),(31,ac),(30,ab),(29,aa),(28,z),(27,y),(26,x),(25,w),(24,u)]) ?_ ?_
    ·refine qw J J c (fun c=>?_) (fun c=>?_)
     ·refine U J<|U J<|O (.d (G (w64 ((b.2.length : Int) - 1)))) J ?_
      obtain ⟨o,ah,c⟩:=q7 c
      refine qq ah J J<|O (.ref 0 2 (w64 ((b.2.length : Int) - 1)).toNat 1) J<|Q1 (q0 o.Hi) ah J<|U J<|U J ?_
      obtain ⟨p,an,c⟩:=q7 c
      refine Q4 (enc:=(eI .i64)) an J<|O (q0 p) J<|O (qd (o.Hi == p)) J<|O (qd (o.Hi == p)) J<|q8 ?_
      obtain rfl:=qc c
      exact ⟨_,_,_,_,_,_,_,_,_,_,_,_,J⟩
     refine qa J<|qa J<|qa J<|qa J<|qa J<|qa J<|qa J<|qa J<|qa J<|qa J<|qa J<|O (qd false) J<|q8 ?_
     obtain rfl:=qc c
     exact ⟨_,_,_,_,_,_,_,_,_,_,_,_,J⟩
    rintro _ ⟨u,w,x,y,z,aa,ab,ac,ad,ae,af,ag,rfl⟩
    refine q8 ?_
    refine ql J a (fun _ a=>?_) (fun _ a=>?_)
    ·refine qt<|U J<|U J<|O (.d (G (w64 ((b.2.length : Int) - 1)))) J<|U J<|U J<|O (.d (G (w64 (b.1 + 1)))) J ?_
     obtain ⟨q,ao,a⟩:=q7 a
     refine Q4 (enc:=(eI .i64)) ao J<|O (q0 q) J ?_
     obtain ⟨ap,ai,a⟩:=q7 a
     refine qq ai J J<|O (.ref 0 2 (w64 ((b.2.length : Int) - 1)).toNat 1) J<|Qn (ds:=[G q]) ({Lo:=ap.Lo,Hi:=q} : qh) ai J J J J J J J J (leb J) J<|qr ?_
     obtain rfl:=qc a
     exact ⟨_,J,wkE [(0,0)] [] [] J ⟨⟨_,J,.d (.refl _)⟩,⟨_,J,.d (.refl _)⟩,⟨_,J,Qp (by simp) J (by decide) (ltd J)⟩,⟨_,J,.d (.refl _)⟩,trivial⟩ ⟨⟨ltd J,.inr ⟨by decide,_,J,.dat _ _⟩⟩,trivial⟩⟩
    refine Q5 [q6,(some [0,1],[0,2]),(some [],[1]),q6,q6,q6,q6,q6,q6,q6,q6,q6,q6,q6] (by kernel_rfl)<|U J<|U J<|U J ?_
    obtain ⟨j,aq,a⟩:=q7 a
    refine Q4 (enc:=(eI .i64)) aq J<|O (q0 j) J<|U J<|U J<|O (.d (G (w64 (b.1 + 1)))) J ?_
    obtain ⟨k,ar,a⟩:=q7 a
    refine Q4 (enc:=(eI .i64)) ar J<|O (q0 k) J<|O (.d (.agg [G j,G k])) J<|Qg (.hs 1 2 0 [({Lo:=j,Hi:=k} : qh)].length) (.dat 2 ([({Lo:=j,Hi:=k} : qh)].map qv)) J ?_
    obtain ⟨aw,au,a⟩:=q7 a
    refine Ka (xs:=b.2) (ys:=[({Lo:=j,Hi:=k} : qh)]) (enc:=qv) (.hs 1 2 0 [({Lo:=j,Hi:=k} : qh)].length) au J J J J J J J (K9 J J) J J J J<|q9 J<|qr ?_
    obtain rfl:=qc a
    exact ⟨_,J,wkA [(0,2)] [] []⟩
   intro m hb
   subst hb
   refine qt<|U J<|O (.d (G (w64 (b.1 + 1)))) J<|q9 J<|qr ?_
   exact ⟨_,(Option.some.inj f).symm,wkA [(0,0)] [] []⟩
  refine Q2 ?_
  refine ⟨_,(Option.some.inj f).symm,fun hm=>?_⟩
  subst hm
  exact ⟨_,J,wkA [(0,0)] [] []⟩
 intro h hb
 subst hb
 refine qb<|U J<|q9 J<|qn ?_
 obtain rfl:=qc n
 exact finD (.inr J) (v:=.hs 0 2 0 h.length) J (Z9 J J) (.refl _)
theorem qse (c : List qh) (f : List qh) (r : Bool) (b : q53 c f = some r) : Pure Tryz.prog tab 95 [.sl 2 (c.map qv),.sl 2 (f.map qv)] (.bool r):=by
 unfold q53 at b
 refine Q8 Tryz.func95 J (by kernel_rfl) (by kernel_rfl) J<|qb<|q9 J<|q8<|qe<|qb<|U J<|Qc J<|U J<|Qc J<|O (.d (.bool ((c.length : Int) != (f.length : Int)))) J<|q8 ?_
 refine ql J b (fun _ b=>?_) (fun _ b=>?_)
 ·refine qb<|q9 J<|qn ?_
  obtain rfl:=qc b
  exact qz (qd false) J
 refine qj<|qe<|qb<|q9 J<|q8 ?_
 obtain ⟨l,m,b⟩:=q7 b
 refine Qb (fun k=>.inl k = l) (fun (k : Unit)=>⟨[],[],0⟩) (by simp) ?_ ?_
 ·refine Q7 (qb4 c f) (fun (g : Int)=>⟨[(0,.d (.sl 2 (c.map qv))),(1,.d (.sl 2 (f.map qv))),(5,q0 g)],[],0⟩) 0 l m (wkA [] [] []) ?_
  intro g p a
  unfold qb4 at a
  refine qe<|qb<|U J<|U J<|Qc J<|O (.d (.bool (decide (g < (c.length : Int))))) J<|q8 ?_
  refine ql J a (fun _ a=>?_) (fun _ a=>?_)
  ·refine qj<|qe<|qu<|qe<|Q5 [q6,q6,q6,q6,q6,q6,q6,q6,q6] (by kernel_rfl)<|U J<|U J ?_
   obtain ⟨h,n,a⟩:=q7 a
   refine Q4 (enc:=qv) n J<|O (.d (.agg [G h.Lo,G h.Hi])) J<|U J<|U J ?_
   obtain ⟨j,o,a⟩:=q7 a
   refine Q4 (enc:=qv) o J<|O (.d (.agg [G j.Lo,G j.Hi])) J<|O (.d (.bool (!((h.Lo == j.Lo) && ((h.Hi == j.Hi) && true))))) J<|q8 ?_
   refine ql J a (fun _ a=>?_) (fun _ a=>?_)
   ·refine qb<|q9 J<|qn ?_
    refine ⟨_,(Option.some.inj a).symm,fun hm=>?_⟩
    subst hm
    obtain rfl:=qc b
    exact qz (qd false) J
   refine qj<|Q9<|Qa<|qt<|U J<|O (.d (G (w64 (g + 1)))) J<|q9 J<|qr ?_
   exact ⟨_,(Option.some.inj a).symm,wkA [] [] []⟩
  refine Q2 ?_
  refine ⟨_,(Option.some.inj a).symm,fun hm=>?_⟩
  subst hm
  exact ⟨_,J,wkA [] [] []⟩
 intro k hb
 subst hb
 refine qb<|q9 J<|qn ?_
 obtain rfl:=qc b
 exact qz (qd true) J
theorem qeh (k : Int) (f : List qg) (g : List qg) (r : List qg) (o : Zn k f g = some r) : Pure Tryz.prog tab 67 [G k,.sl 4 (f.map qk),.sl 4 (g.map qk)] (.sl 4 (r.map qk)):=by
 unfold Zn at o
 refine Q8 Tryz.func67 J (by kernel_rfl) (by kernel_rfl) J<|qb<|q9 J<|qm<|U J<|U J ?_
 obtain ⟨j,h2,o⟩:=q7 o
 refine qs (qsj f g j h2) J<|U J<|U J ?_
 obtain ⟨l,h4,o⟩:=q7 o
 refine qs (qsl f g l h4) J<|q9 J<|q9 J<|qm<|q9 J<|qm<|q9 J<|qm<|q9 J<|q8<|qe<|qb<|q9 J<|q8 ?_
 obtain ⟨ah,ba,o⟩:=q7 o
 refine Qb (fun z=>z = ah) (fun (z : List qg)=>⟨[(9,.hs 0 4 0 z.length)],[(0,.dat 4 (z.map qk))],1⟩) (by simp) ?_ ?_
 ·refine Q7 (q20 j l f g k) (fun (a : List qh × Int × Int × List qg)=>⟨[(0,q0 k),(1,.d (.sl 4 (f.map qk))),(2,.d (.sl 4 (g.map qk))),(7,.d (.sl 1 (j.map (eI .i64)))),(8,.d (.sl 1 (l.map (eI .i64)))),(9,.hs 0 4 0 a.2.2.2.length),(10,.d (.sl 2 (a.1.map qv))),(11,q0 a.2.1),(12,q0 a.2.2.1)],[(0,.dat 4 (a.2.2.2.map qk))],1⟩) ([],0,0,[]) ah ba (wkA [] [] [0]) ?_
  intro a bz p
  unfold q20 at p
  refine qe<|qb<|U J<|O (.d (G (w64 (a.2.2.1 + 1)))) J<|U J<|Qc J<|O (.d (.bool (decide ((w64 (a.2.2.1 + 1)) < (j.length : Int))))) J<|q8 ?_
  refine ql J p (fun _ p=>?_) (fun _ p=>?_)
  ·refine qj<|qe ?_
   obtain ⟨bb,h,p⟩:=q7 p
   refine Qb (fun t=>t = bb) (fun (t : List qh × Int × List qg)=>⟨[(0,q0 k),(1,.d (.sl 4 (f.map qk))),(2,.d (.sl 4 (g.map qk))),(7,.d (.sl 1 (j.map (eI .i64)))),(8,.d (.sl 1 (l.map (eI .i64)))),(9,.hs 0 4 0 t.2.2.length),(10,.d (.sl 2 (t.1.map qv))),(11,q0 t.2.1),(12,q0 a.2.2.1)],[(0,.dat 4 (t.2.2.map qk))],1⟩) (by simp) ?_ ?_
   ·refine qb<|q9 J<|q8<|qe<|qb<|q9 J<|q8 ?_
    obtain ⟨ai,bc,h⟩:=q7 h
    refine Qb (fun u=>u = ai) (fun (u : List Bool)=>⟨[(0,q0 k),(1,.d (.sl 4 (f.map qk))),(2,.d (.sl 4 (g.map qk))),(7,.d (.sl 1 (j.map (eI .i64)))),(8,.d (.sl 1 (l.map (eI .i64)))),(9,.hs 0 4 0 a.2.2.2.length),(10,.d (.sl 2 (a.1.map qv))),(11,q0 a.2.1),(12,q0 a.2.2.1),(13,.hs 1 1 0 u.length)],[(0,.dat 4 (a.2.2.2.map qk)),(1,.dat 1 (u.map eB))],2⟩) (by simp) ?_ ?_
    ·refine Q7 (q32 l j a f g k) (fun (w : Int × List Bool)=>⟨[(0,q0 k),(1,.d (.sl 4 (f.map qk))),(2,.d (.sl 4 (g.map qk))),(7,.d (.sl 1 (j.map (eI .i64)))),(8,.d (.sl 1 (l.map (eI .i64)))),(9,.hs 0 4 0 a.2.2.2.length),(10,.d (.sl 2 (a.1.map qv))),(11,q0 a.2.1),(12,q0 a.2.2.1),(13,.hs 1 1 0 w.2.length),(14,q0 w.1)],[(0,.dat 4 (a.2.2.2.map qk)),(1,.dat 1 (w.2.map eB))],2⟩) (0,[]) ai bc (wkA [(0,0)] [] [1]) ?_
     intro w ca b
     unfold q32 at b
     refine qe<|qb<|U J<|U J<|Qc J<|O (.d (.bool (decide (w.1 < (l.length : Int))))) J<|q8 ?_
     refine ql J b (fun _ b=>?_) (fun _ b=>?_)
     ·refine qj<|qe<|qu<|Q5 [q6,(some [1,2],[1,3]),(some [],[2]),q6,q6,q6,q6,q6,q6,q6,q6,q6,q6,q6,q6,q6,q6,q6,q6,q6,q6,q6,q6,q6,q6,q6] (by kernel_rfl)<|U J<|U J<|U J<|U J<|U J ?_
      obtain ⟨aj,bd,b⟩:=q7 b
      refine Q4 (enc:=(eI .i64)) bd J<|O (q0 aj) J<|U J<|U J ?_
      obtain ⟨ak,be,b⟩:=q7 b
      refine Q4 (enc:=(eI .i64)) be J<|O (q0 ak) J ?_
      obtain ⟨al,bf,b⟩:=q7 b
      refine qs (qk1 f aj ak al bf) J<|U J<|U J<|U J ?_
      obtain ⟨am,bg,b⟩:=q7 b
      refine Q4 (enc:=(eI .i64)) bg J<|O (q0 am) J<|U J<|U J ?_
      obtain ⟨an,bh,b⟩:=q7 b
      refine Q4 (enc:=(eI .i64)) bh J<|O (q0 an) J ?_
      obtain ⟨ao,bi,b⟩:=q7 b
      refine qs (qk1 g am an ao bi) J ?_
      obtain ⟨ad,bj,b⟩:=q7 b
      refine qs (qsd k al ao ad bj) J<|Qg (.hs 2 1 0 [ad].length) (.dat 1 ([ad].map eB)) J ?_
      obtain ⟨cb,bk,b⟩:=q7 b
      refine Ka (xs:=w.2) (ys:=[ad]) (enc:=eB) (.hs 2 1 0 [ad].length) bk J J J J J J J (K9 J J) J J J J<|q9 J<|qr<|Qa<|qt<|U J<|O (.d (G (w64 (w.1 + 1)))) J<|q9 J<|qr ?_
      exact ⟨_,(Option.some.inj b).symm,wkA [(0,0),(1,3)] [] []⟩
     refine Q2 ?_
     refine ⟨_,(Option.some.inj b).symm,fun hm=>?_⟩
     subst hm
     exact ⟨_,J,wkA [(0,0),(1,1)] [] []⟩
    intro u hb
    subst hb
    refine qe ?_
    refine Kn (st':=⟨[(0,q0 k),(1,.d (.sl 4 (f.map qk))),(2,.d (.sl 4 (g.map qk))),(7,.d (.sl 1 (j.map (eI .i64)))),(8,.d (.sl 1 (l.map (eI .i64)))),(9,.hs 0 4 0 a.2.2.2.length),(10,.d (.sl 2 (a.1.map qv))),(11,q0 a.2.1),(12,q0 a.2.2.1),(13,.d (.sl 1 (u.map eB)))],[(0,.dat 4 (a.2.2.2.map qk))],1⟩) (wkA [(0,0)] [1] []) ?_ (by simp)
    refine qt<|U J<|U J ?_
    obtain ⟨aa,bl,h⟩:=q7 h
    refine qs (qsb l u aa bl) J<|q9 J<|q8<|qe<|qb<|U J<|O (.d (.bool (decide (a.2.2.1 > 0)))) J ?_
    obtain ⟨bm,x,h⟩:=q7 h
    refine qx 5 (fun A st=>∃ (ap aq ar au : V),st = A [(71,qd bm),(70,au),(69,ar),(68,aq),(67,ap)]) ?_ ?_
    ·refine qw J J x (fun x=>?_) (fun x=>?_)
     ·refine U J<|U J ?_
      obtain ⟨av,bn,x⟩:=q7 x
      refine qs (qse aa a.1 av bn) J<|O (qd av) J<|q8 ?_
      obtain rfl:=qc x
      exact ⟨_,_,_,_,J⟩
     refine qa J<|qa J<|qa J<|O (qd false) J<|q8 ?_
     obtain rfl:=qc x
     exact ⟨_,_,_,_,J⟩
    rintro _ ⟨ap,aq,ar,au,rfl⟩
    refine q8 ?_
    refine ql J h (fun _ h=>?_) (fun _ h=>?_)
    ·refine qe<|qb<|U J<|q9 J<|q8 ?_
     obtain ⟨aw,bo,h⟩:=q7 h
     refine Qb (fun ae=>ae = aw) (fun (ae : List qg)=>⟨[(0,q0 k),(1,.d (.sl 4 (f.map qk))),(2,.d (.sl 4 (g.map qk))),(7,.d (.sl 1 (j.map (eI .i64)))),(8,.d (.sl 1 (l.map (eI .i64)))),(9,.hs 0 4 0 ae.length),(10,.d (.sl 2 (a.1.map qv))),(11,q0 a.2.1),(12,q0 a.2.2.1)],[(0,.dat 4 (ae.map qk))],1⟩) (by simp) ?_ ?_
     ·refine Q7 (q33 j a) (fun (n : Int × List qg)=>⟨[(0,q0 k),(1,.d (.sl 4 (f.map qk))),(2,.d (.sl 4 (g.map qk))),(7,.d (.sl 1 (j.map (eI .i64)))),(8,.d (.sl 1 (l.map (eI .i64)))),(9,.hs 0 4 0 n.2.length),(10,.d (.sl 2 (a.1.map qv))),(11,q0 a.2.1),(12,q0 a.2.2.1),(16,q0 n.1)],[(0,.dat 4 (n.2.map qk))],1⟩) (a.2.1,a.2.2.2) aw bo (wkA [(0,0)] [] []) ?_
      intro n cc m
      unfold q33 at m
      refine qe<|qb<|U J<|U J<|O (q0 (n.2.length : Int)) J<|O (.d (.bool (decide (n.1 < (n.2.length : Int))))) J<|q8 ?_
      refine ql J m (fun _ m=>?_) (fun _ m=>?_)
      ·refine qj<|qe<|qu<|qt<|U J<|U J<|U J<|U J<|O (.d (G (w64 (a.2.2.1 + 1)))) J ?_
       obtain ⟨af,bp,m⟩:=q7 m
       refine Q4 (enc:=(eI .i64)) bp J<|O (q0 af) J ?_
       obtain ⟨ag,ax,m⟩:=q7 m
       refine qq ax J J<|O (.ref 0 4 n.1.toNat 2) J<|Qn (ds:=[G af]) ({X0:=ag.X0,Y0:=ag.Y0,X1:=af,Y1:=ag.Y1} : qg) ax J J J J J J J J (leb J) J<|qr<|Qa<|qt<|U J<|O (.d (G (w64 (n.1 + 1)))) J<|q9 J<|qr ?_
       exact ⟨_,(Option.some.inj m).symm,wkE [(0,0)] [] [] J ⟨⟨_,J,.d (.refl _)⟩,⟨_,J,.d (.refl _)⟩,⟨_,J,.d (.refl _)⟩,⟨_,J,.d (.refl _)⟩,⟨_,J,.d (.refl _)⟩,⟨_,J,Qp (by simp) J (by decide) (ltd J)⟩,⟨_,J,.d (.refl _)⟩,⟨_,J,.d (.refl _)⟩,⟨_,J,.d (.refl _)⟩,⟨_,J,.d (.refl _)⟩,trivial⟩ ⟨⟨ltd J,.inr ⟨by decide,_,J,.dat _ _⟩⟩,trivial⟩⟩
      refine Q2 ?_
      refine ⟨_,(Option.some.inj m).symm,fun hm=>?_⟩
      subst hm
      exact ⟨_,J,wkA [(0,0)] [] []⟩
     intro ae hb
     subst hb
     refine Q2 ?_
     obtain rfl:=qc h
     exact ⟨_,J,wkA [(0,0)] [] []⟩
    refine qj<|qb<|U J<|O (q0 (a.2.2.2.length : Int)) J<|U J<|q9 J<|q9 J<|qm<|q9 J<|q8 ?_
    obtain ⟨bq,br,h⟩:=q7 h
    refine qu<|Q7 (q55 aa j a) (fun (y : Int × List qg)=>⟨[(0,q0 k),(1,.d (.sl 4 (f.map qk))),(2,.d (.sl 4 (g.map qk))),(7,.d (.sl 1 (j.map (eI .i64)))),(8,.d (.sl 1 (l.map (eI .i64)))),(9,.hs 0 4 0 y.2.length),(10,.d (.sl 2 (aa.map qv))),(11,q0 (a.2.2.2.length : Int)),(12,q0 a.2.2.1),(15,.d (.sl 2 (aa.map qv))),(17,q0 y.1)],[(0,.dat 4 (y.2.map qk))],1⟩) (0,a.2.2.2) bq br (wkA [(0,0)] [] []) ?_
    intro y cd c
    unfold q55 at c
    refine qe<|qb<|U J<|U J<|Qc J<|O (.d (.bool (decide (y.1 < (aa.length : Int))))) J<|q8 ?_
    refine ql J c (fun _ c=>?_) (fun _ c=>?_)
    ·refine qj<|qe<|qu<|Q5 [q6,(some [0,1],[0,2]),(some [],[1]),q6,q6,q6,q6,q6,q6,q6,q6,q6,q6,q6,q6,q6,q6,q6,q6,q6,q6,q6,q6,q6] (by kernel_rfl)<|U J<|U J<|U J ?_
     obtain ⟨ab,bs,c⟩:=q7 c
     refine Q4 (enc:=(eI .i64)) bs J<|O (q0 ab) J<|U J<|U J ?_
     obtain ⟨q,bt,c⟩:=q7 c
     refine Q4 (enc:=qv) bt J<|O (.dref [G q.Lo,G q.Hi] 0) J<|O (q0 q.Lo) J<|U J<|U J<|O (.d (G (w64 (a.2.2.1 + 1)))) J ?_
     obtain ⟨ac,bu,c⟩:=q7 c
     refine Q4 (enc:=(eI .i64)) bu J<|O (q0 ac) J<|U J<|U J ?_
     obtain ⟨s,bv,c⟩:=q7 c
     refine Q4 (enc:=qv) bv J<|O (.dref [G s.Lo,G s.Hi] 1) J<|O (q0 s.Hi) J<|O (.d (.agg [G ab,G q.Lo,G ac,G s.Hi])) J<|Qg (.hs 1 4 0 [({X0:=ab,Y0:=q.Lo,X1:=ac,Y1:=s.Hi} : qg)].length) (.dat 4 ([({X0:=ab,Y0:=q.Lo,X1:=ac,Y1:=s.Hi} : qg)].map qk)) J ?_
     obtain ⟨ce,bw,c⟩:=q7 c
     refine Ka (xs:=y.2) (ys:=[({X0:=ab,Y0:=q.Lo,X1:=ac,Y1:=s.Hi} : qg)]) (enc:=qk) (.hs 1 4 0 [({X0:=ab,Y0:=q.Lo,X1:=ac,Y1:=s.Hi} : qg)].length) bw J J J J J J J (K9 J J) J J J J<|q9 J<|qr<|Qa<|qt<|U J<|O (.d (G (w64 (y.1 + 1)))) J<|q9 J<|qr ?_
     exact ⟨_,(Option.some.inj c).symm,wkA [(0,2)] [] []⟩
    refine Q2 ?_
    refine ⟨_,(Option.some.inj c).symm,fun hm=>?_⟩
    subst hm
    obtain rfl:=qc h
    exact ⟨_,J,wkA [(0,0)] [] []⟩
   intro t hb
   subst hb
   refine qt<|U J<|O (.d (G (w64 (a.2.2.1 + 1)))) J<|q9 J<|qr ?_
   exact ⟨_,(Option.some.inj p).symm,wkA [(0,0)] [] []⟩
  refine Q2 ?_
  refine ⟨_,(Option.some.inj p).symm,fun hm=>?_⟩
  subst hm
  exact ⟨_,J,wkA [(0,0)] [] []⟩
 intro z hb
 subst hb
 refine qb<|U J<|q9 J<|qn ?_
 obtain rfl:=qc o
 exact finD (.inr J) (v:=.hs 0 4 0 z.length) J (Z9 J J) (.refl _)
theorem qsh (g : List qg) (h : List qg) (r : Bool) (b : q57 g h = some r) : Pure Tryz.prog tab 36 [.sl 4 (g.map qk),.sl 4 (h.map qk)] (.bool r):=by
 unfold q57 at b
 refine Q8 Tryz.func36 J (by kernel_rfl) (by kernel_rfl) J<|qb<|q9 J<|q8<|qe<|qb<|U J<|Qc J<|U J<|Qc J<|O (.d (.bool ((g.length : Int) != (h.length : Int)))) J<|q8 ?_
 refine ql J b (fun _ b=>?_) (fun _ b=>?_)
 ·refine qb<|q9 J<|qn ?_
  obtain rfl:=qc b
  exact qz (qd false) J
 refine qj<|qe<|qb<|q9 J<|q8 ?_
 obtain ⟨l,m,b⟩:=q7 b
 refine Qb (fun k=>.inl k = l) (fun (k : Unit)=>⟨[],[],0⟩) (by simp) ?_ ?_
 ·refine Q7 (qb5 g h) (fun (j : Int)=>⟨[(0,.d (.sl 4 (g.map qk))),(1,.d (.sl 4 (h.map qk))),(5,q0 j)],[],0⟩) 0 l m (wkA [] [] []) ?_
  intro j p a
  unfold qb5 at a
  refine qe<|qb<|U J<|U J<|Qc J<|O (.d (.bool (decide (j < (g.length : Int))))) J<|q8 ?_
  refine ql J a (fun _ a=>?_) (fun _ a=>?_)
  ·refine qj<|qe<|qu<|qe<|Q5 [q6,q6,q6,q6,q6,q6,q6,q6,q6] (by kernel_rfl)<|U J<|U J ?_
   obtain ⟨c,n,a⟩:=q7 a
   refine Q4 (enc:=qk) n J<|O (.d (.agg [G c.X0,G c.Y0,G c.X1,G c.Y1])) J<|U J<|U J ?_
   obtain ⟨f,o,a⟩:=q7 a
   refine Q4 (enc:=qk) o J<|O (.d (.agg [G f.X0,G f.Y0,G f.X1,G f.Y1])) J<|O (.d (.bool (!((c.X0 == f.X0) && ((c.Y0 == f.Y0) && ((c.X1 == f.X1) && ((c.Y1 == f.Y1) && true))))))) J<|q8 ?_
   refine ql J a (fun _ a=>?_) (fun _ a=>?_)
   ·refine qb<|q9 J<|qn ?_
    refine ⟨_,(Option.some.inj a).symm,fun hm=>?_⟩
    subst hm
    obtain rfl:=qc b
    exact qz (qd false) J
   refine qj<|Q9<|Qa<|qt<|U J<|O (.d (G (w64 (j + 1)))) J<|q9 J<|qr ?_
   exact ⟨_,(Option.some.inj a).symm,wkA [] [] []⟩
  refine Q2 ?_
  refine ⟨_,(Option.some.inj a).symm,fun hm=>?_⟩
  subst hm
  exact ⟨_,J,wkA [] [] []⟩
 intro k hb
 subst hb
 refine qb<|q9 J<|qn ?_
 obtain rfl:=qc b
 exact qz (qd true) J
theorem qk7 (s : Int) (f : List qf) (g : List qf) (r : List qf × Bool) (w : q21 s f g = some r) : Pure Tryz.prog tab 55 [G s,.sl 6 (f.map qp),.sl 6 (g.map qp)] (.tup [.sl 6 (r.1.map qp),.bool r.2]):=by
 unfold q21 at w
 refine Q8 Tryz.func55 J (by kernel_rfl) (by kernel_rfl) J<|qb<|q9 J<|q9 J<|qm<|U J<|U J ?_
 obtain ⟨o,h2,w⟩:=q7 w
 refine qs (qsp f g o h2) J<|q9 J<|qm<|q9 J<|qm<|q9 J<|qm<|q9 J<|q8<|qe<|qb<|q9 J<|q8 ?_
 obtain ⟨ai,bv,w⟩:=q7 w
 refine Qb (fun t=>.inl t = ai) (fun (t : List qf)=>⟨[(9,.hs 0 6 0 t.length)],[(0,.dat 6 (t.map qp))],1⟩) (by simp) ?_ ?_
 ·refine Q7 (Ux o f g s) (fun (b : List qg × Int × Int × List qf)=>⟨[(0,q0 s),(1,.d (.sl 6 (f.map qp))),(2,.d (.sl 6 (g.map qp))),(8,.d (.sl 1 (o.map (eI .i64)))),(9,.hs 0 6 0 b.2.2.2.length),(10,.d (.sl 4 (b.1.map qk))),(11,q0 b.2.1),(12,q0 b.2.2.1)],[(0,.dat 6 (b.2.2.2.map qp))],1⟩) ([],0,0,[]) ai bv (wkA [] [] [0]) ?_
  intro b cz u
  unfold Ux at u
  refine qe<|qb<|U J<|O (.d (G (w64 (b.2.2.1 + 1)))) J<|U J<|Qc J<|O (.d (.bool (decide ((w64 (b.2.2.1 + 1)) < (o.length : Int))))) J<|q8 ?_
  refine ql J u (fun _ u=>?_) (fun _ u=>?_)
  ·refine qj<|qe ?_
   obtain ⟨bw,a,u⟩:=q7 u
   refine Qb (fun x=>.inl x = bw) (fun (x : List qg × Int × List qf)=>⟨[(0,q0 s),(1,.d (.sl 6 (f.map qp))),(2,.d (.sl 6 (g.map qp))),(8,.d (.sl 1 (o.map (eI .i64)))),(9,.hs 0 6 0 x.2.2.length),(10,.d (.sl 4 (x.1.map qk))),(11,q0 x.2.1),(12,q0 b.2.2.1)],[(0,.dat 6 (x.2.2.map qp))],1⟩) (by simp) ?_ ?_
   ·refine qe<|Q5 [q6,q6,q6,q6,q6,q6,q6,q6,q6,q6,q6,q6,q6,q6,q6] (by kernel_rfl)<|U J<|U J<|U J<|U J ?_
    obtain ⟨aj,bz,a⟩:=q7 a
    refine Q4 (enc:=(eI .i64)) bz J<|O (q0 aj) J ?_
    obtain ⟨ak,ca,a⟩:=q7 a
    refine qs (qb7 f aj ak ca) J<|U J<|U J<|U J ?_
    obtain ⟨al,cb,a⟩:=q7 a
    refine Q4 (enc:=(eI .i64)) cb J<|O (q0 al) J ?_
    obtain ⟨am,cc,a⟩:=q7 a
    refine qs (qb7 g al am cc) J ?_
    obtain ⟨y,cd,a⟩:=q7 a
    refine qs (qeh s ak am y cd) J<|q9 J<|q8<|qe<|qb<|U J<|Qc J<|O (.d (.bool (decide ((y.length : Int) > 400)))) J ?_
    obtain ⟨ce,h,a⟩:=q7 a
    refine qx 11 (fun A st=>∃ (an ao ap aq ar au av aw ax ay : V),st = A [(53,qd ce),(52,ay),(51,ax),(50,aw),(49,av),(48,au),(47,ar),(46,aq),(45,ap),(44,ao),(43,an)]) ?_ ?_
    ·refine qw J J h (fun h=>?_) (fun h=>?_)
     ·refine qa J<|qa J<|qa J<|qa J<|qa J<|qa J<|qa J<|qa J<|qa J<|O (qd true) J<|q8 ?_
      obtain rfl:=qc h
      exact ⟨_,_,_,_,_,_,_,_,_,_,J⟩
     refine U J<|U J<|U J ?_
     obtain ⟨az,cf,h⟩:=q7 h
     refine Q4 (enc:=(eI .i64)) cf J<|O (q0 az) J ?_
     obtain ⟨ba,cg,h⟩:=q7 h
     refine qs (qb7 f az ba cg) J ?_
     obtain ⟨ae,ch,h⟩:=q7 h
     refine qs (qb0 (.cons (.refl _) (.cons (.refl _) (.cons (.nil _) .nil))) (qeh 2 ba [] ae ch)) J<|Qc J<|O (.d (.bool (decide ((ae.length : Int) > 400)))) J<|O (.d (.bool (decide ((ae.length : Int) > 400)))) J<|q8 ?_
     obtain rfl:=qc h
     exact ⟨_,_,_,_,_,_,_,_,_,_,J⟩
    rintro _ ⟨an,ao,ap,aq,ar,au,av,aw,ax,ay,rfl⟩
    obtain ⟨ci,j,a⟩:=q7 a
    refine qx 11 (fun A st=>∃ (bb bc bd be bf bg bh bi bj bk : V),st = A [(64,qd ci),(63,bk),(62,bj),(61,bi),(60,bh),(59,bg),(58,bf),(57,be),(56,bd),(55,bc),(54,bb)]) ?_ ?_
    ·refine qw J J j (fun j=>?_) (fun j=>?_)
     ·refine qa J<|qa J<|qa J<|qa J<|qa J<|qa J<|qa J<|qa J<|qa J<|O (qd true) J<|q8 ?_
      obtain rfl:=qc j
      exact ⟨_,_,_,_,_,_,_,_,_,_,J⟩
     refine U J<|U J<|U J ?_
     obtain ⟨bl,cj,j⟩:=q7 j
     refine Q4 (enc:=(eI .i64)) cj J<|O (q0 bl) J ?_
     obtain ⟨bm,ck,j⟩:=q7 j
     refine qs (qb7 g bl bm ck) J ?_
     obtain ⟨af,cl,j⟩:=q7 j
     refine qs (qb0 (.cons (.refl _) (.cons (.refl _) (.cons (.nil _) .nil))) (qeh 2 bm [] af cl)) J<|Qc J<|O (.d (.bool (decide ((af.length : Int) > 400)))) J<|O (.d (.bool (decide ((af.length : Int) > 400)))) J<|q8 ?_
     obtain rfl:=qc j
     exact ⟨_,_,_,_,_,_,_,_,_,_,J⟩
    rintro _ ⟨bb,bc,bd,be,bf,bg,bh,bi,bj,bk,rfl⟩
    refine q8 ?_
    refine ql J a (fun _ a=>?_) (fun _ a=>?_)
    ·refine qb<|q9 J<|q9 J<|qn ?_
     obtain rfl:=qc a
     refine ⟨_,(Option.some.inj u).symm,fun hm=>?_⟩
     subst hm
     obtain rfl:=qc w
     exact finD (.inr J) (v:=.d (.tup [.nilsl,.bool false])) J J (Kr (.cons (.nil _) (.cons (.refl _) .nil)))
    refine qj<|qe<|qb<|U J<|O (.d (.bool (decide (b.2.2.1 > 0)))) J ?_
    obtain ⟨cm,z,a⟩:=q7 a
    refine qx 5 (fun A st=>∃ (bn bo bp bq : V),st = A [(71,qd cm),(70,bq),(69,bp),(68,bo),(67,bn)]) ?_ ?_
    ·refine qw J J z (fun z=>?_) (fun z=>?_)
     ·refine U J<|U J ?_
      obtain ⟨br,cn,z⟩:=q7 z
      refine qs (qsh y b.1 br cn) J<|O (qd br) J<|q8 ?_
      obtain rfl:=qc z
      exact ⟨_,_,_,_,J⟩
     refine qa J<|qa J<|qa J<|O (qd false) J<|q8 ?_
     obtain rfl:=qc z
     exact ⟨_,_,_,_,J⟩
    rintro _ ⟨bn,bo,bp,bq,rfl⟩
    refine q8 ?_
    refine ql J a (fun _ a=>?_) (fun _ a=>?_)
    ·refine qe<|qb<|U J<|q9 J<|q8 ?_
     obtain ⟨bs,co,a⟩:=q7 a
     refine Qb (fun ad=>ad = bs) (fun (ad : List qf)=>⟨[(0,q0 s),(1,.d (.sl 6 (f.map qp))),(2,.d (.sl 6 (g.map qp))),(8,.d (.sl 1 (o.map (eI .i64)))),(9,.hs 0 6 0 ad.length),(10,.d (.sl 4 (b.1.map qk))),(11,q0 b.2.1),(12,q0 b.2.2.1)],[(0,.dat 6 (ad.map qp))],1⟩) (by simp) ?_ ?_
     ·refine Q7 (q3d o b) (fun (p : Int × List qf)=>⟨[(0,q0 s),(1,.d (.sl 6 (f.map qp))),(2,.d (.sl 6 (g.map qp))),(8,.d (.sl 1 (o.map (eI .i64)))),(9,.hs 0 6 0 p.2.length),(10,.d (.sl 4 (b.1.map qk))),(11,q0 b.2.1),(12,q0 b.2.2.1),(14,q0 p.1)],[(0,.dat 6 (p.2.map qp))],1⟩) (b.2.1,b.2.2.2) bs co (wkA [(0,0)] [] []) ?_
      intro p da q
      unfold q3d at q
      refine qe<|qb<|U J<|U J<|O (q0 (p.2.length : Int)) J<|O (.d (.bool (decide (p.1 < (p.2.length : Int))))) J<|q8 ?_
      refine ql J q (fun _ q=>?_) (fun _ q=>?_)
      ·refine qj<|qe<|qu<|qt<|U J<|U J<|U J<|U J<|O (.d (G (w64 (b.2.2.1 + 1)))) J ?_
       obtain ⟨ag,cp,q⟩:=q7 q
       refine Q4 (enc:=(eI .i64)) cp J<|O (q0 ag) J ?_
       obtain ⟨ah,bt,q⟩:=q7 q
       refine qq bt J J<|O (.ref 0 6 p.1.toNat 3) J<|O (.ref 0 6 p.1.toNat 5) J<|Qn (ds:=[G ag]) ({Lo:=ah.Lo,Hi:=({X:=ah.Hi.X,Y:=ah.Hi.Y,Z:=ag} : qy)} : qf) bt J J J J J J J J (leb J) J<|qr<|Qa<|qt<|U J<|O (.d (G (w64 (p.1 + 1)))) J<|q9 J<|qr ?_
       exact ⟨_,(Option.some.inj q).symm,wkE [(0,0)] [] [] J ⟨⟨_,J,.d (.refl _)⟩,⟨_,J,.d (.refl _)⟩,⟨_,J,.d (.refl _)⟩,⟨_,J,.d (.refl _)⟩,⟨_,J,Qp (by simp) J (by decide) (ltd J)⟩,⟨_,J,.d (.refl _)⟩,⟨_,J,.d (.refl _)⟩,⟨_,J,.d (.refl _)⟩,⟨_,J,.d (.refl _)⟩,trivial⟩ ⟨⟨ltd J,.inr ⟨by decide,_,J,.dat _ _⟩⟩,trivial⟩⟩
      refine Q2 ?_
      refine ⟨_,(Option.some.inj q).symm,fun hm=>?_⟩
      subst hm
      exact ⟨_,J,wkA [(0,0)] [] []⟩
     intro ad hb
     subst hb
     refine Q2 ?_
     obtain rfl:=qc a
     exact ⟨_,J,wkA [(0,0)] [] []⟩
    refine qj<|qb<|U J<|O (q0 (b.2.2.2.length : Int)) J<|U J<|q9 J<|q9 J<|qm<|q9 J<|q8 ?_
    obtain ⟨cq,cr,a⟩:=q7 a
    refine qu<|Q7 (q5c y o b) (fun (aa : Int × List qf)=>⟨[(0,q0 s),(1,.d (.sl 6 (f.map qp))),(2,.d (.sl 6 (g.map qp))),(8,.d (.sl 1 (o.map (eI .i64)))),(9,.hs 0 6 0 aa.2.length),(10,.d (.sl 4 (y.map qk))),(11,q0 (b.2.2.2.length : Int)),(12,q0 b.2.2.1),(13,.d (.sl 4 (y.map qk))),(15,q0 aa.1)],[(0,.dat 6 (aa.2.map qp))],1⟩) (0,b.2.2.2) cq cr (wkA [(0,0)] [] []) ?_
    intro aa dc c
    unfold q5c at c
    refine qe<|qb<|U J<|U J<|Qc J<|O (.d (.bool (decide (aa.1 < (y.length : Int))))) J<|q8 ?_
    refine ql J c (fun _ c=>?_) (fun _ c=>?_)
    ·refine qj<|qe<|qu<|Q5 [q6,(some [0,1],[0,2]),(some [],[1]),q6,q6,q6,q6,q6,q6,q6,q6,q6,q6,q6,q6,q6,q6,q6,q6,q6,q6,q6,q6,q6,q6,q6,q6,q6,q6,q6,q6,q6,q6,q6,q6,q6] (by kernel_rfl)<|U J<|U J<|U J ?_
     obtain ⟨k,cs,c⟩:=q7 c
     refine Q4 (enc:=qk) cs J<|O (.dref [G k.X0,G k.Y0,G k.X1,G k.Y1] 0) J<|O (q0 k.X0) J<|U J<|U J ?_
     obtain ⟨l,ct,c⟩:=q7 c
     refine Q4 (enc:=qk) ct J<|O (.dref [G l.X0,G l.Y0,G l.X1,G l.Y1] 1) J<|O (q0 l.Y0) J<|U J<|U J ?_
     obtain ⟨ab,cu,c⟩:=q7 c
     refine Q4 (enc:=(eI .i64)) cu J<|O (q0 ab) J<|O (.d (.agg [G k.X0,G l.Y0,G ab])) J<|U J<|U J ?_
     obtain ⟨m,cv,c⟩:=q7 c
     refine Q4 (enc:=qk) cv J<|O (.dref [G m.X0,G m.Y0,G m.X1,G m.Y1] 2) J<|O (q0 m.X1) J<|U J<|U J ?_
     obtain ⟨n,cw,c⟩:=q7 c
     refine Q4 (enc:=qk) cw J<|O (.dref [G n.X0,G n.Y0,G n.X1,G n.Y1] 3) J<|O (q0 n.Y1) J<|U J<|U J<|O (.d (G (w64 (b.2.2.1 + 1)))) J ?_
     obtain ⟨ac,cx,c⟩:=q7 c
     refine Q4 (enc:=(eI .i64)) cx J<|O (q0 ac) J<|O (.d (.agg [G m.X1,G n.Y1,G ac])) J<|O (.d (.agg [G k.X0,G l.Y0,G ab,G m.X1,G n.Y1,G ac])) J<|Qg (.hs 1 6 0 [({Lo:=({X:=k.X0,Y:=l.Y0,Z:=ab} : qy),Hi:=({X:=m.X1,Y:=n.Y1,Z:=ac} : qy)} : qf)].length) (.dat 6 ([({Lo:=({X:=k.X0,Y:=l.Y0,Z:=ab} : qy),Hi:=({X:=m.X1,Y:=n.Y1,Z:=ac} : qy)} : qf)].map qp)) J ?_
     obtain ⟨dd,cy,c⟩:=q7 c
     refine Ka (xs:=aa.2) (ys:=[({Lo:=({X:=k.X0,Y:=l.Y0,Z:=ab} : qy),Hi:=({X:=m.X1,Y:=n.Y1,Z:=ac} : qy)} : qf)]) (enc:=qp) (.hs 1 6 0 [({Lo:=({X:=k.X0,Y:=l.Y0,Z:=ab} : qy),Hi:=({X:=m.X1,Y:=n.Y1,Z:=ac} : qy)} : qf)].length) cy J J J J J J J (K9 J J) J J J J<|q9 J<|qr<|Qa<|qt<|U J<|O (.d (G (w64 (aa.1 + 1)))) J<|q9 J<|qr ?_
     exact ⟨_,(Option.some.inj c).symm,wkA [(0,2)] [] []⟩
    refine Q2 ?_
    refine ⟨_,(Option.some.inj c).symm,fun hm=>?_⟩
    subst hm
    obtain rfl:=qc a
    exact ⟨_,J,wkA [(0,0)] [] []⟩
   intro x hb
   subst hb
   refine qt<|U J<|O (.d (G (w64 (b.2.2.1 + 1)))) J<|q9 J<|qr ?_
   exact ⟨_,(Option.some.inj u).symm,wkA [(0,0)] [] []⟩
  refine Q2 ?_
  refine ⟨_,(Option.some.inj u).symm,fun hm=>?_⟩
  subst hm
  exact ⟨_,J,wkA [(0,0)] [] []⟩
 intro t hb
 subst hb
 refine qb<|U J<|U J<|O (q0 (t.length : Int)) J<|O (.d (.bool (decide ((t.length : Int)≤400)))) J<|q9 J<|q9 J<|qn ?_
 obtain rfl:=qc w
 exact finD (.inr J) (v:=.tup [.hs 0 6 0 t.length,.d (.bool (decide ((t.length : Int)≤400)))]) J (q9o (Jq (Z9 J J) (Jq J J))) (.refl _)
theorem qv9 (f : List qf) (j : qf→Option Bool) (p1F : FuncId) (p1C : List DV) (p1Ok : ∀ (c : qf) (r : Bool),j c = some r→Pure Tryz.prog tab p1F ([.agg [G c.Lo.X,G c.Lo.Y,G c.Lo.Z,G c.Hi.X,G c.Hi.Y,G c.Hi.Z]] ++ p1C) (.bool r)) (r : Int) (g : q8f f j = some r) : Pure Tryz.prog tab 86 [.sl 6 (f.map qp),.fn p1F p1C] (G r):=by
 unfold q8f at g
 refine Q8 Tryz.func86 J (by kernel_rfl) (by kernel_rfl) J<|qb<|q9 J<|q8<|qe<|qb<|U J<|Qc J<|U J<|q8 ?_
 obtain ⟨l,m,g⟩:=q7 g
 refine Qb (fun k=>.inl k = l) (fun (k : Unit)=>⟨[],[],0⟩) (by simp) ?_ ?_
 ·refine Q7 (Ua f j) (fun (h : Int)=>⟨[(0,.d (.sl 6 (f.map qp))),(1,.d (.fn p1F p1C)),(7,q0 (f.length : Int)),(8,q0 h)],[],0⟩) 0 l m (wkA [] [] []) ?_
  intro h q a
  unfold Ua at a
  refine qb<|O (.d (.bool (decide (h < (f.length : Int))))) J<|q8<|qe ?_
  refine ql J a (fun _ a=>?_) (fun _ a=>?_)
  ·refine qj<|qe<|qu<|qb<|U J<|q9 J<|qm<|U J<|U J<|U J ?_
   obtain ⟨b,n,a⟩:=q7 a
   refine Q4 (enc:=qp) n J<|O (.d (.agg [G b.Lo.X,G b.Lo.Y,G b.Lo.Z,G b.Hi.X,G b.Hi.Y,G b.Hi.Z])) J ?_
   obtain ⟨o,p,a⟩:=q7 a
   refine Kz [.d (.agg [G b.Lo.X,G b.Lo.Y,G b.Lo.Z,G b.Hi.X,G b.Hi.Y,G b.Hi.Z])] (p1Ok b o p) J J J (.inl J)<|q8 ?_
   refine ql J a (fun _ a=>?_) (fun _ a=>?_)
   ·refine qb<|U J<|q9 J<|qn ?_
    refine ⟨_,(Option.some.inj a).symm,fun hm=>?_⟩
    subst hm
    obtain rfl:=qc g
    exact qz (q0 h) J
   refine qj<|Q9<|Qa<|qt<|O (.d (G (w64 (h + 1)))) J<|U J<|qr ?_
   exact ⟨_,(Option.some.inj a).symm,wkA [] [] []⟩
  refine Q2 ?_
  refine ⟨_,(Option.some.inj a).symm,fun hm=>?_⟩
  subst hm
  exact ⟨_,J,wkA [] [] []⟩
 intro k hb
 subst hb
 refine qb<|q9 J<|qn ?_
 obtain rfl:=qc g
 exact qz (q0 (-1)) J
theorem qky (c : List qf) (f : qf→Option Bool) (p1F : FuncId) (p1C : List DV) (p1Ok : ∀ (a : qf) (r : Bool),f a = some r→Pure Tryz.prog tab p1F ([.agg [G a.Lo.X,G a.Lo.Y,G a.Lo.Z,G a.Hi.X,G a.Hi.Y,G a.Hi.Z]] ++ p1C) (.bool r)) (r : Bool) (b : q3h c f = some r) : Pure Tryz.prog tab 57 [.sl 6 (c.map qp),.fn p1F p1C] (.bool r):=by
 unfold q3h at b
 refine Q8 Tryz.func57 J (by kernel_rfl) (by kernel_rfl) J<|qb<|q9 J<|qm<|U J<|U J ?_
 obtain ⟨g,h,b⟩:=q7 b
 refine qs (qv9 c f p1F p1C p1Ok g h) J<|O (.d (.bool (decide (g ≥ 0)))) J<|q9 J<|qn ?_
 obtain rfl:=qc b
 exact qz (.d (.bool (decide (g ≥ 0)))) J
theorem qxy (a : qf) (r : Bool) (b : q2c a = some r) : Pure Tryz.prog tab 58 [.agg [G a.Lo.X,G a.Lo.Y,G a.Lo.Z,G a.Hi.X,G a.Hi.Y,G a.Hi.Z]] (.bool r):=by
 unfold q2c at b
 refine Q8 Tryz.func58 J (by kernel_rfl) (by kernel_rfl) J<|qb<|Qg (.ref 0 6 0 0) (.dat 6 [[G a.Lo.X,G a.Lo.Y,G a.Lo.Z,G a.Hi.X,G a.Hi.Y,G a.Hi.Z]]) J<|q9 J<|qm<|O (.d (.agg [G a.Lo.X,G a.Lo.Y,G a.Lo.Z,G a.Hi.X,G a.Hi.Y,G a.Hi.Z])) J ?_
 obtain ⟨c,f,b⟩:=q7 b
 refine qs (qlh a c f) J<|O (qd (!c)) J<|q9 J<|qn ?_
 obtain rfl:=qc b
 exact qz (qd (!c)) J
theorem qv4 (g : List qf) (h : List qf) (r : Bool) (f : qbj g h = some r) : Pure Tryz.prog tab 59 [.sl 6 (g.map qp),.sl 6 (h.map qp)] (.bool r):=by
 unfold qbj at f
 refine Q8 Tryz.func59 J (by kernel_rfl) (by kernel_rfl) J<|qb<|q9 J<|q8<|qe<|qb<|U J<|Qc J<|U J<|Qc J<|O (.d (.bool ((g.length : Int) != (h.length : Int)))) J<|q8 ?_
 refine ql J f (fun _ f=>?_) (fun _ f=>?_)
 ·refine qb<|q9 J<|qn ?_
  obtain rfl:=qc f
  exact qz (qd false) J
 refine qj<|qe<|qb<|U J<|Qc J<|U J<|q8 ?_
 obtain ⟨l,m,f⟩:=q7 f
 refine Qb (fun k=>.inl k = l) (fun (k : Unit)=>⟨[],[],0⟩) (by simp) ?_ ?_
 ·refine Q7 (qex g h) (fun (j : Int)=>⟨[(0,.d (.sl 6 (g.map qp))),(1,.d (.sl 6 (h.map qp))),(12,q0 (g.length : Int)),(13,q0 j)],[],0⟩) 0 l m (wkA [] [] []) ?_
  intro j p a
  unfold qex at a
  refine qb<|O (.d (.bool (decide (j < (g.length : Int))))) J<|q8<|qe ?_
  refine ql J a (fun _ a=>?_) (fun _ a=>?_)
  ·refine qj<|qe<|qu<|qb<|U J<|q9 J<|q8<|qe<|Q5 [q6,q6,q6,q6,q6,q6,q6,q6,q6] (by kernel_rfl)<|U J<|U J ?_
   obtain ⟨b,n,a⟩:=q7 a
   refine Q4 (enc:=qp) n J<|O (.d (.agg [G b.Lo.X,G b.Lo.Y,G b.Lo.Z,G b.Hi.X,G b.Hi.Y,G b.Hi.Z])) J<|U J<|U J ?_
   obtain ⟨c,o,a⟩:=q7 a
   refine Q4 (enc:=qp) o J<|O (.d (.agg [G c.Lo.X,G c.Lo.Y,G c.Lo.Z,G c.Hi.X,G c.Hi.Y,G c.Hi.Z])) J<|O (.d (.bool (!((b.Lo.X == c.Lo.X) && ((b.Lo.Y == c.Lo.Y) && ((b.Lo.Z == c.Lo.Z) && ((b.Hi.X == c.Hi.X) && ((b.Hi.Y == c.Hi.Y) && ((b.Hi.Z == c.Hi.Z) && true))))))))) J<|q8 ?_
   refine ql J a (fun _ a=>?_) (fun _ a=>?_)
   ·refine qb<|q9 J<|qn ?_
    refine ⟨_,(Option.some.inj a).symm,fun hm=>?_⟩
    subst hm
    obtain rfl:=qc f
    exact qz (qd false) J
   refine qj<|Q9<|Qa<|qt<|O (.d (G (w64 (j + 1)))) J<|U J<|qr ?_
   exact ⟨_,(Option.some.inj a).symm,wkA [] [] []⟩
  refine Q2 ?_
  refine ⟨_,(Option.some.inj a).symm,fun hm=>?_⟩
  subst hm
  exact ⟨_,J,wkA [] [] []⟩
 intro k hb
 subst hb
 refine qb<|q9 J<|qn ?_
 obtain rfl:=qc f
 exact qz (qd true) J
theorem q2d (b : List qf) (r : Int) (a : Jb b = some r) : Pure Tryz.prog tab 18 [.sl 6 (b.map qp)] (G r):=by
 unfold Jb at a
 refine Q8 Tryz.func18 J (by kernel_rfl) (by kernel_rfl) J<|qb<|q9 J<|q8<|qe<|qb<|U J<|Qc J<|O (.d (.bool (decide ((b.length : Int) > 400)))) J<|q8 ?_
 refine ql J a (fun _ a=>?_) (fun _ a=>?_)
 ·refine qb<|q9 J<|qn ?_
  obtain rfl:=qc a
  exact qz (q0 4) J
 refine qj<|qe<|qb<|U J ?_
 obtain ⟨o,p,a⟩:=q7 a
 refine qs (qky b (fun g=>q2c g) 58 [] (fun g r hr=>qxy g r hr) o p) J<|q8 ?_
 refine ql J a (fun _ a=>?_) (fun _ a=>?_)
 ·refine qb<|q9 J<|qn ?_
  obtain rfl:=qc a
  exact qz (q0 8) J
 refine qj<|qe<|qb<|O (.d (.agg [.nilf])) J<|U J<|qav (es:=1) ([b].map Ql) J J J J J ?_
 obtain ⟨f,q,a⟩:=q7 a
 refine qs (qli b f q) J<|U J<|O (.d (.sl 6 (f.1.map qp))) J<|O (q0 f.2) J<|q9 J<|q9 J<|qm<|U J<|O (qd (f.2 != 0)) J ?_
 obtain ⟨s,c,a⟩:=q7 a
 refine qx 6 (fun A st=>∃ (j k l m n : V),st = A [(24,qd s),(23,n),(22,m),(21,l),(20,k),(19,j)]) ?_ ?_
 ·refine qw J J c (fun c=>?_) (fun c=>?_)
  ·refine qa J<|qa J<|qa J<|qa J<|O (qd true) J<|q8 ?_
   obtain rfl:=qc c
   exact ⟨_,_,_,_,_,J⟩
  refine U J<|U J ?_
  obtain ⟨h,t,c⟩:=q7 c
  refine qs (qv4 f.1 b h t) J<|O (qd (!h)) J<|O (qd (!h)) J<|q8 ?_
  obtain rfl:=qc c
  exact ⟨_,_,_,_,_,J⟩
 rintro _ ⟨j,k,l,m,n,rfl⟩
 refine q8 ?_
 refine ql J a (fun _ a=>?_) (fun _ a=>?_)
 ·refine qb<|q9 J<|qn ?_
  obtain rfl:=qc a
  exact qz (q0 8) J
 refine qj<|qb<|q9 J<|qn ?_
 obtain rfl:=qc a
 exact qz (q0 0) J
theorem qlf (a : qf) (r : Int × Int × Int) (b : q6u a = some r) : Pure Tryz.prog tab 56 [.agg [G a.Lo.X,G a.Lo.Y,G a.Lo.Z,G a.Hi.X,G a.Hi.Y,G a.Hi.Z]] (.tup [G r.1,G r.2.1,G r.2.2]):=by
 unfold q6u at b
 refine Q8 Tryz.func56 J (by kernel_rfl) (by kernel_rfl) J<|qb<|Qg (.ref 0 6 0 0) (.dat 6 [[G a.Lo.X,G a.Lo.Y,G a.Lo.Z,G a.Hi.X,G a.Hi.Y,G a.Hi.Z]]) J<|q9 J<|q9 J<|q9 J<|q8<|qe<|Q5 [q6,q6,q6,q6,qo 0,q6,q6,qo 0,q6,q6,q6,qo 0,q6,q6,qo 0,q6,q6,q6,qo 0,q6,q6,qo 0,q6,q6] (by kernel_rfl)<|O (.ref 0 6 0 3) J<|O (.ref 0 6 0 3) J<|O (q0 a.Hi.X) J<|O (.ref 0 6 0 0) J<|O (.ref 0 6 0 0) J<|O (q0 a.Lo.X) J<|O (.d (G (w64 (a.Hi.X - a.Lo.X)))) J<|O (.ref 0 6 0 3) J<|O (.ref 0 6 0 4) J<|O (q0 a.Hi.Y) J<|O (.ref 0 6 0 0) J<|O (.ref 0 6 0 1) J<|O (q0 a.Lo.Y) J<|O (.d (G (w64 (a.Hi.Y - a.Lo.Y)))) J<|O (.ref 0 6 0 3) J<|O (.ref 0 6 0 5) J<|O (q0 a.Hi.Z) J<|O (.ref 0 6 0 0) J<|O (.ref 0 6 0 2) J<|O (q0 a.Lo.Z) J<|O (.d (G (w64 (a.Hi.Z - a.Lo.Z)))) J<|q9 J<|q9 J<|q9 J<|qn ?_
 obtain rfl:=qc b
 exact qz (.d (.tup [G (w64 (a.Hi.X - a.Lo.X)),G (w64 (a.Hi.Y - a.Lo.Y)),G (w64 (a.Hi.Z - a.Lo.Z))])) J
theorem q9b (g : List qf) (r : Int × Int) (c : q14 g = some r) : Pure Tryz.prog tab 16 [.sl 6 (g.map qp)] (.tup [G r.1,G r.2]):=by
 unfold q14 at c
 refine Q8 Tryz.func16 J (by kernel_rfl) (by kernel_rfl) J<|qb<|q9 J<|q9 J<|q8<|qe<|qb<|U J ?_
 obtain ⟨k,m,c⟩:=q7 c
 refine qs (q2d g k m) J<|q9 J<|qm<|U J<|O (qd (k != 0)) J<|q8 ?_
 refine ql J c (fun _ c=>?_) (fun _ c=>?_)
 ·refine qb<|U J<|q9 J<|q9 J<|qn ?_
  obtain rfl:=qc c
  exact qz (.d (.tup [G 0,G k])) J
 refine qj<|qb<|q9 J<|q8<|qe<|qb<|U J<|Qc J<|U J<|q8 ?_
 obtain ⟨l,n,c⟩:=q7 c
 refine Qb (fun j=>j = l) (fun (j : Int)=>⟨[(5,q0 j)],[],0⟩) (by simp) ?_ ?_
 ·refine Q7 (q6p g) (fun (h : Int × Int)=>⟨[(5,q0 h.1),(16,.d (.sl 6 (g.map qp))),(17,q0 (g.length : Int)),(18,q0 h.2)],[],0⟩) (0,0) l n (wkA [] [] []) ?_
  intro h q f
  unfold q6p at f
  refine qb<|O (.d (.bool (decide (h.2 < (g.length : Int))))) J<|q8<|qe ?_
  refine ql J f (fun _ f=>?_) (fun _ f=>?_)
  ·refine qj<|qe<|qu<|qb ?_
   obtain ⟨a,o,f⟩:=q7 f
   refine Q4 (enc:=qp) o J<|O (.d (.agg [G a.Lo.X,G a.Lo.Y,G a.Lo.Z,G a.Hi.X,G a.Hi.Y,G a.Hi.Z])) J<|Qo J J<|Q6 0 (.dat 6 [[G a.Lo.X,G a.Lo.Y,G a.Lo.Z,G a.Hi.X,G a.Hi.Y,G a.Hi.Z]]) J<|qm<|O (.d (.agg [G a.Lo.X,G a.Lo.Y,G a.Lo.Z,G a.Hi.X,G a.Hi.Y,G a.Hi.Z])) J ?_
   obtain ⟨b,p,f⟩:=q7 f
   refine qs (qlf a b p) J<|U J<|O (q0 b.1) J<|O (q0 b.2.1) J<|O (q0 b.2.2) J<|q9 J<|q9 J<|q9 J<|q8<|qt<|U J<|U J<|U J<|O (.d (G (w64 (b.1 * b.2.1)))) J<|U J<|O (.d (G (w64 ((w64 (b.1 * b.2.1)) * b.2.2)))) J<|O (.d (G (w64 (h.1 + (w64 ((w64 (b.1 * b.2.1)) * b.2.2)))))) J<|q9 J<|qr<|Qa<|qt<|O (.d (G (w64 (h.2 + 1)))) J<|U J<|qr ?_
   exact ⟨_,(Option.some.inj f).symm,wkA [] [] []⟩
  refine Q2 ?_
  refine ⟨_,(Option.some.inj f).symm,fun hm=>?_⟩
  subst hm
  exact ⟨_,J,wkA [] [] []⟩
 intro j hb
 subst hb
 refine qb<|U J<|q9 J<|q9 J<|qn ?_
 obtain rfl:=qc c
 exact qz (.d (.tup [G j,G 0])) J
theorem q3e (g : List qf) (h : List qf) (r : Bool) (f : U8 g h = some r) : Pure Tryz.prog tab 20 [.sl 6 (g.map qp),.sl 6 (h.map qp)] (.bool r):=by
 unfold U8 at f
 refine Q8 Tryz.func20 J (by kernel_rfl) (by kernel_rfl) J<|qb<|q9 J<|q8<|qe<|qb<|U J<|Qc J<|U J<|Qc J<|O (.d (.bool ((g.length : Int) != (h.length : Int)))) J<|q8 ?_
 refine ql J f (fun _ f=>?_) (fun _ f=>?_)
 ·refine qb<|q9 J<|qn ?_
  obtain rfl:=qc f
  exact qz (qd false) J
 refine qj<|qe<|qb<|q9 J<|q8 ?_
 obtain ⟨l,m,f⟩:=q7 f
 refine Qb (fun k=>.inl k = l) (fun (k : Unit)=>⟨[],[],0⟩) (by simp) ?_ ?_
 ·refine Q7 (qb8 g h) (fun (j : Int)=>⟨[(0,.d (.sl 6 (g.map qp))),(1,.d (.sl 6 (h.map qp))),(5,q0 j)],[],0⟩) 0 l m (wkA [] [] []) ?_
  intro j p a
  unfold qb8 at a
  refine qe<|qb<|U J<|U J<|Qc J<|O (.d (.bool (decide (j < (g.length : Int))))) J<|q8 ?_
  refine ql J a (fun _ a=>?_) (fun _ a=>?_)
  ·refine qj<|qe<|qu<|qe<|Q5 [q6,q6,q6,q6,q6,q6,q6,q6,q6] (by kernel_rfl)<|U J<|U J ?_
   obtain ⟨b,n,a⟩:=q7 a
   refine Q4 (enc:=qp) n J<|O (.d (.agg [G b.Lo.X,G b.Lo.Y,G b.Lo.Z,G b.Hi.X,G b.Hi.Y,G b.Hi.Z])) J<|U J<|U J ?_
   obtain ⟨c,o,a⟩:=q7 a
   refine Q4 (enc:=qp) o J<|O (.d (.agg [G c.Lo.X,G c.Lo.Y,G c.Lo.Z,G c.Hi.X,G c.Hi.Y,G c.Hi.Z])) J<|O (.d (.bool (!((b.Lo.X == c.Lo.X) && ((b.Lo.Y == c.Lo.Y) && ((b.Lo.Z == c.Lo.Z) && ((b.Hi.X == c.Hi.X) && ((b.Hi.Y == c.Hi.Y) && ((b.Hi.Z == c.Hi.Z) && true))))))))) J<|q8 ?_
   refine ql J a (fun _ a=>?_) (fun _ a=>?_)
   ·refine qb<|q9 J<|qn ?_
    refine ⟨_,(Option.some.inj a).symm,fun hm=>?_⟩
    subst hm
    obtain rfl:=qc f
    exact qz (qd false) J
   refine qj<|Q9<|Qa<|qt<|U J<|O (.d (G (w64 (j + 1)))) J<|q9 J<|qr ?_
   exact ⟨_,(Option.some.inj a).symm,wkA [] [] []⟩
  refine Q2 ?_
  refine ⟨_,(Option.some.inj a).symm,fun hm=>?_⟩
  subst hm
  exact ⟨_,J,wkA [] [] []⟩
 intro k hb
 subst hb
 refine qb<|q9 J<|qn ?_
 obtain rfl:=qc f
 exact qz (qd true) J
theorem qej (c : List qf) (r : Int) (a : q39 c = some r) : Pure Tryz.prog tab 19 [.sl 6 (c.map qp)] (G r):=by
 unfold q39 at a
 refine Q8 Tryz.func19 J (by kernel_rfl) (by kernel_rfl) J<|qb<|q9 J<|q8<|qe<|qb<|U J<|Qc J<|O (.d (.bool (decide ((c.length : Int) > 400)))) J<|q8 ?_
 refine ql J a (fun _ a=>?_) (fun _ a=>?_)
 ·refine qb<|q9 J<|qn ?_
  obtain rfl:=qc a
  exact qz (q0 4) J
 refine qj<|qe<|qb<|q9 J<|q8 ?_
 obtain ⟨m,u,a⟩:=q7 a
 refine Qb (fun k=>.inl k = m) (fun (k : Unit)=>⟨[(0,.d (.sl 6 (c.map qp)))],[],0⟩) (by simp) ?_ ?_
 ·refine Q7 (q5a c) (fun (j : Int)=>⟨[(0,.d (.sl 6 (c.map qp))),(3,q0 j)],[],0⟩) 0 m u (wkA [] [] []) ?_
  intro j aa b
  unfold q5a at b
  refine qe<|qb<|U J<|U J<|Qc J<|O (.d (.bool (decide (j < (c.length : Int))))) J<|q8 ?_
  refine ql J b (fun _ b=>?_) (fun _ b=>?_)
  ·refine qj<|qe<|qu<|qb<|U J<|U J ?_
   obtain ⟨f,v,b⟩:=q7 b
   refine Q4 (enc:=qp) v J<|O (.d (.agg [G f.Lo.X,G f.Lo.Y,G f.Lo.Z,G f.Hi.X,G f.Hi.Y,G f.Hi.Z])) J ?_
   obtain ⟨n,w,b⟩:=q7 b
   refine qs (qsv f n w) J<|O (qd (!n)) J<|q8 ?_
   refine ql J b (fun _ b=>?_) (fun _ b=>?_)
   ·refine qb<|q9 J<|qn ?_
    refine ⟨_,(Option.some.inj b).symm,fun hm=>?_⟩
    subst hm
    obtain rfl:=qc a
    exact qz (q0 8) J
   refine qj<|Q9<|Qa<|qt<|U J<|O (.d (G (w64 (j + 1)))) J<|q9 J<|qr ?_
   exact ⟨_,(Option.some.inj b).symm,wkA [] [] []⟩
  refine Q2 ?_
  refine ⟨_,(Option.some.inj b).symm,fun hm=>?_⟩
  subst hm
  exact ⟨_,J,wkA [] [] []⟩
 intro k hb
 subst hb
 refine qb<|U J ?_
 obtain ⟨h,x,a⟩:=q7 a
 refine qs (qb0 (.cons (.refl _) (.cons (.refl _) (.cons (.nil _) .nil))) (qk7 2 c [] h x)) J<|U J<|O (.d (.sl 6 (h.1.map qp))) J<|O (qd h.2) J<|q9 J<|q9 J<|q8<|qe<|qb<|U J<|O (qd (!h.2)) J ?_
 obtain ⟨y,g,a⟩:=q7 a
 refine qx 6 (fun A st=>∃ (o p q s t : V),st = A [(33,qd y),(32,t),(31,s),(30,q),(29,p),(28,o)]) ?_ ?_
 ·refine qw J J g (fun g=>?_) (fun g=>?_)
  ·refine qa J<|qa J<|qa J<|qa J<|O (qd true) J<|q8 ?_
   obtain rfl:=qc g
   exact ⟨_,_,_,_,_,J⟩
  refine U J<|U J ?_
  obtain ⟨l,z,g⟩:=q7 g
  refine qs (q3e h.1 c l z) J<|O (qd (!l)) J<|O (qd (!l)) J<|q8 ?_
  obtain rfl:=qc g
  exact ⟨_,_,_,_,_,J⟩
 rintro _ ⟨o,p,q,s,t,rfl⟩
 refine q8 ?_
 refine ql J a (fun _ a=>?_) (fun _ a=>?_)
 ·refine qb<|q9 J<|qn ?_
  obtain rfl:=qc a
  exact qz (q0 8) J
 refine qj<|qb<|q9 J<|qn ?_
 obtain rfl:=qc a
 exact qz (q0 0) J
theorem qy0 (b : qf) (a : qy) (r : Bool) (c : q6n b a = some r) : Pure Tryz.prog tab 60 [.agg [G b.Lo.X,G b.Lo.Y,G b.Lo.Z,G b.Hi.X,G b.Hi.Y,G b.Hi.Z],.box [G a.X,G a.Y,G a.Z]] (.bool r):=by
 unfold q6n at c
 refine Q8 Tryz.func60 J (by kernel_rfl) (by kernel_rfl) J<|qb<|Qg (.ref 0 6 0 0) (.dat 6 [[G b.Lo.X,G b.Lo.Y,G b.Lo.Z,G b.Hi.X,G b.Hi.Y,G b.Hi.Z]]) J<|q9 J<|qm<|O (.ref 0 6 0 0) J<|O (.ref 0 6 0 0) J<|O (q0 b.Lo.X) J<|O (.dref [G a.X,G a.Y,G a.Z] 0) J<|O (q0 a.X) J<|O (.d (.bool (decide (b.Lo.X≤a.X)))) J ?_
 obtain ⟨c1,f,c⟩:=q7 c
 refine qx 8 (fun A st=>∃ (l m n o p q s : V),st = A [(17,qd c1),(16,s),(15,q),(14,p),(13,o),(12,n),(11,m),(10,l)]) ?_ ?_
 ·refine qw J J f (fun f=>?_) (fun f=>?_)
  ·refine O (.dref [G a.X,G a.Y,G a.Z] 0) J<|O (q0 a.X) J<|O (.ref 0 6 0 3) J<|O (.ref 0 6 0 3) J<|O (q0 b.Hi.X) J<|O (.d (.bool (decide (a.X < b.Hi.X)))) J<|O (.d (.bool (decide (a.X < b.Hi.X)))) J<|q8 ?_
   obtain rfl:=qc f
   exact ⟨_,_,_,_,_,_,_,J⟩
  refine qa J<|qa J<|qa J<|qa J<|qa J<|qa J<|O (qd false) J<|q8 ?_
  obtain rfl:=qc f
  exact ⟨_,_,_,_,_,_,_,J⟩
 rintro _ ⟨l,m,n,o,p,q,s,rfl⟩
 obtain ⟨az,g,c⟩:=q7 c
 refine qx 8 (fun A st=>∃ (t u v w x y z : V),st = A [(25,qd az),(24,z),(23,y),(22,x),(21,w),(20,v),(19,u),(18,t)]) ?_ ?_
 ·refine qw J J g (fun g=>?_) (fun g=>?_)
  ·refine O (.ref 0 6 0 0) J<|O (.ref 0 6 0 1) J<|O (q0 b.Lo.Y) J<|O (.dref [G a.X,G a.Y,G a.Z] 1) J<|O (q0 a.Y) J<|O (.d (.bool (decide (b.Lo.Y≤a.Y)))) J<|O (.d (.bool (decide (b.Lo.Y≤a.Y)))) J<|q8 ?_
   obtain rfl:=qc g
   exact ⟨_,_,_,_,_,_,_,J⟩
  refine qa J<|qa J<|qa J<|qa J<|qa J<|qa J<|O (qd false) J<|q8 ?_
  obtain rfl:=qc g
  exact ⟨_,_,_,_,_,_,_,J⟩
 rintro _ ⟨t,u,v,w,x,y,z,rfl⟩
 obtain ⟨ba,h,c⟩:=q7 c
 refine qx 8 (fun A st=>∃ (aa ab ac ad ae af ag : V),st = A [(33,qd ba),(32,ag),(31,af),(30,ae),(29,ad),(28,ac),(27,ab),(26,aa)]) ?_ ?_
 ·refine qw J J h (fun h=>?_) (fun h=>?_)
  ·refine O (.dref [G a.X,G a.Y,G a.Z] 1) J<|O (q0 a.Y) J<|O (.ref 0 6 0 3) J<|O (.ref 0 6 0 4) J<|O (q0 b.Hi.Y) J<|O (.d (.bool (decide (a.Y < b.Hi.Y)))) J<|O (.d (.bool (decide (a.Y < b.Hi.Y)))) J<|q8 ?_
   obtain rfl:=qc h
   exact ⟨_,_,_,_,_,_,_,J⟩
  refine qa J<|qa J<|qa J<|qa J<|qa J<|qa J<|O (qd false) J<|q8 ?_
  obtain rfl:=qc h
  exact ⟨_,_,_,_,_,_,_,J⟩
 rintro _ ⟨aa,ab,ac,ad,ae,af,ag,rfl⟩
 obtain ⟨bb,j,c⟩:=q7 c
 refine qx 8 (fun A st=>∃ (ah ai aj ak al am an : V),st = A [(41,qd bb),(40,an),(39,am),(38,al),(37,ak),(36,aj),(35,ai),(34,ah)]) ?_ ?_
 ·refine qw J J j (fun j=>?_) (fun j=>?_)
  ·refine O (.ref 0 6 0 0) J<|O (.ref 0 6 0 2) J<|O (q0 b.Lo.Z) J<|O (.dref [G a.X,G a.Y,G a.Z] 2) J<|O (q0 a.Z) J<|O (.d (.bool (decide (b.Lo.Z≤a.Z)))) J<|O (.d (.bool (decide (b.Lo.Z≤a.Z)))) J<|q8 ?_
   obtain rfl:=qc j
   exact ⟨_,_,_,_,_,_,_,J⟩
  refine qa J<|qa J<|qa J<|qa J<|qa J<|qa J<|O (qd false) J<|q8 ?_
  obtain rfl:=qc j
  exact ⟨_,_,_,_,_,_,_,J⟩
 rintro _ ⟨ah,ai,aj,ak,al,am,an,rfl⟩
 obtain ⟨ao,k,c⟩:=q7 c
 refine qx 8 (fun A st=>∃ (ap aq ar au av aw ax : V),st = A [(49,qd ao),(48,ax),(47,aw),(46,av),(45,au),(44,ar),(43,aq),(42,ap)]) ?_ ?_
 ·refine qw J J k (fun k=>?_) (fun k=>?_)
  ·refine O (.dref [G a.X,G a.Y,G a.Z] 2) J<|O (q0 a.Z) J<|O (.ref 0 6 0 3) J<|O (.ref 0 6 0 5) J<|O (q0 b.Hi.Z) J<|O (.d (.bool (decide (a.Z < b.Hi.Z)))) J<|O (.d (.bool (decide (a.Z < b.Hi.Z)))) J<|q8 ?_
   obtain rfl:=qc k
   exact ⟨_,_,_,_,_,_,_,J⟩
  refine qa J<|qa J<|qa J<|qa J<|qa J<|qa J<|O (qd false) J<|q8 ?_
  obtain rfl:=qc k
  exact ⟨_,_,_,_,_,_,_,J⟩
 rintro _ ⟨ap,aq,ar,au,av,aw,ax,rfl⟩
 refine q9 J<|qn ?_
 obtain rfl:=qc c
 exact qz (qd ao) J
theorem q3t (b : List qf) (a : qy) (r : Bool) (c : Jc b a = some r) : Pure Tryz.prog tab 21 [.sl 6 (b.map qp),.agg [G a.X,G a.Y,G a.Z]] (.bool r):=by
 unfold Jc at c
 refine Q8 Tryz.func21 J (by kernel_rfl) (by kernel_rfl) J<|qb<|Qg (.ref 0 3 0 0) (.dat 3 [[G a.X,G a.Y,G a.Z]]) J<|q9 J<|qm<|U J<|O (.fn 60 [.ref 0 3 0 0]) J ?_
 obtain ⟨g,h,c⟩:=q7 c
 refine q7s [.d (.sl 6 (b.map qp)),.fn 60 [.ref 0 3 0 0]] (qky b (fun f=>q6n f a) 60 [.box [G a.X,G a.Y,G a.Z]] (fun f r hr=>qy0 f a r hr) g h) J J (Jg J (Jg (qzd (Jq J J)) J)) (.inr J)<|q9 J<|qn ?_
 obtain rfl:=qc c
 exact qz (qd g) J
theorem qyb (p0 : List qg→List qg→Option (List qg × Int)) (f : List qf) (g : List qf) (p0F : FuncId) (p0C : List DV) (p0Ok : ∀ (x0 : List qg) (x1 : List qg) (r : List qg × Int),p0 x0 x1 = some r→Pure Tryz.prog tab p0F ([.sl 4 (x0.map qk),.sl 4 (x1.map qk)] ++ p0C) (.tup [.sl 4 (r.1.map qk),G r.2])) (r : List qf × Int) (w : q9d p0 f g = some r) : Pure Tryz.prog tab 53 [.agg [.fn p0F p0C],.sl 1 ([f,g].map Ql)] (.tup [.sl 6 (r.1.map qp),G r.2]):=by
 unfold q9d at w
 refine Q8 Tryz.func53 J (by kernel_rfl) (by kernel_rfl) J<|qb<|Qg (.ref 0 1 0 0) (.dat 1 [[.fn p0F p0C]]) J<|Qo J J<|Qo J J<|qm<|Qo J J<|q8<|qe<|qb<|U J ?_
 obtain ⟨bz,p,w⟩:=q7 w
 refine q4z [.d (.sl 1 ([f,g].map Ql))] (fun j=>j = bz) (fun (j : List Int)=>⟨[(2,.ref 0 1 0 0),(4,.ref 1 1 0 0),(5,.ref 2 1 0 0),(6,.ref 3 4 0 0),(14,.fn 112 [.ref 4 1 0 0,.ref 5 1 0 0])],[(0,.dat 1 [[.fn p0F p0C]]),(1,.dat 1 [[.nilsl]]),(2,.dat 1 [[G 0]]),(3,.dat 4 [[.nilsl,.nilsl,G 0,G 0]]),(4,.cel 1 [[.d (.sl 1 (j.map (eI .i64)))]]),(5,.dat 1 [[.sl 1 ([f,g].map Ql)]])],6⟩) J J Tryz.func82 J (by kernel_rfl) (by kernel_rfl) J ?_ ?_
 ·refine qb<|Qg (.ref 4 1 0 0) (.dat 1 [[.sl 1 ([f,g].map Ql)]]) J<|q9 J<|qm<|Qo J J<|q8<|qe<|qb<|O (.d (.sl 1 ([f,g].map Ql))) J<|q50 2 J J J J J<|U J<|q8<|qu<|Kw<|qb<|O (qd true) J<|q8<|qe<|Yn J<|qj<|qe ?_
  obtain ⟨ca,ar,p⟩:=q7 p
  refine Qb (fun an=>an = ca) (fun (an : List Int)=>⟨[(1,.ref 4 1 0 0),(3,.ref 5 1 0 0),(8,.d (.sl 1 ([f,g].map Ql))),(9,q0 2),(10,q0 0)],[(0,.dat 1 [[.fn p0F p0C]]),(1,.dat 1 [[.nilsl]]),(2,.dat 1 [[G 0]]),(3,.dat 4 [[.nilsl,.nilsl,G 0,G 0]]),(4,.dat 1 [[.sl 1 ([f,g].map Ql)]]),(5,.cel 1 [[.hs 6 1 0 an.length]]),(6,.dat 1 (an.map (eI .i64)))],7⟩) (by simp) ?_ ?_
  ·refine qb ?_
   obtain ⟨au,cb,ar⟩:=q7 ar
   refine Q4 (enc:=Ql) cb J<|O (.d (.sl 6 (au.map qp))) J<|q9 J<|qm<|U J<|Qc J<|U J<|q8 ?_
   obtain ⟨cc,cd,ar⟩:=q7 ar
   refine qu<|Q7 (qbu au) (fun (af : Int × List Int)=>⟨[(1,.ref 4 1 0 0),(3,.ref 5 1 0 0),(8,.d (.sl 1 ([f,g].map Ql))),(9,q0 2),(10,q0 0),(14,.d (.sl 6 (au.map qp))),(15,q0 (au.length : Int)),(16,q0 af.1)],[(0,.dat 1 [[.fn p0F p0C]]),(1,.dat 1 [[.nilsl]]),(2,.dat 1 [[G 0]]),(3,.dat 4 [[.nilsl,.nilsl,G 0,G 0]]),(4,.dat 1 [[.sl 1 ([f,g].map Ql)]]),(5,.cel 1 [[.hs 6 1 0 af.2.length]]),(6,.dat 1 (af.2.map (eI .i64)))],7⟩) (0,[]) cc cd (wkA [(4,4),(5,5)] [] [6]) ?_
   intro af fb aa
   unfold qbu at aa
   refine qb<|O (.d (.bool (decide (af.1 < (au.length : Int))))) J<|q8<|qe ?_
   refine ql J aa (fun _ aa=>?_) (fun _ aa=>?_)
   ·refine qj<|qe<|qu<|qb ?_
    obtain ⟨k,ce,aa⟩:=q7 aa
    refine Q4 (enc:=qp) ce J<|O (.d (.agg [G k.Lo.X,G k.Lo.Y,G k.Lo.Z,G k.Hi.X,G k.Hi.Y,G k.Hi.Z])) J<|Qo J J<|Q6 7 (.dat 6 [[G k.Lo.X,G k.Lo.Y,G k.Lo.Z,G k.Hi.X,G k.Hi.Y,G k.Hi.Z]]) J<|q8<|qt<|O (.hs 6 1 0 af.2.length) J<|O (.ref 7 6 0 0) J<|O (.ref 7 6 0 2) J<|O (q0 k.Lo.Z) J<|O (.ref 7 6 0 3) J<|O (.ref 7 6 0 5) J<|O (q0 k.Hi.Z) J<|Qg (.hs 8 1 0 [k.Lo.Z,k.Hi.Z].length) (.dat 1 ([k.Lo.Z,k.Hi.Z].map (eI .i64))) J ?_
    obtain ⟨cf,cg,aa⟩:=q7 aa
    refine Ka (xs:=af.2) (ys:=[k.Lo.Z,k.Hi.Z]) (enc:=(eI .i64)) (.hs 8 1 0 [k.Lo.Z,k.Hi.Z].length) cg J J J J J J J (K9 J J) J J J J<|Q6 5 (.cel 1 [[.hs 9 1 0 cf.length]]) J<|qr<|Qa<|qt<|O (.d (G (w64 (af.1 + 1)))) J<|U J<|qr ?_
    exact ⟨_,(Option.some.inj aa).symm,wkA [(4,4),(5,5),(6,9)] [] []⟩
   refine Q2 ?_
   refine ⟨_,(Option.some.inj aa).symm,fun hm=>?_⟩
   subst hm
   obtain rfl:=qc ar
   exact ⟨_,J,wkA [(4,4),(5,5),(6,6)] [] []⟩
  intro an hb
  subst hb
  refine qt<|O (q0 1) J<|U J<|q8<|Kw<|qb<|O (qd true) J<|q8<|qe<|Yn J<|qj<|qe ?_
  obtain ⟨ch,av,p⟩:=q7 p
  refine Qb (fun t=>t = ch) (fun (t : List Int)=>⟨[(1,.ref 4 1 0 0),(3,.ref 5 1 0 0),(8,.d (.sl 1 ([f,g].map Ql))),(9,q0 2),(10,q0 1)],[(0,.dat 1 [[.fn p0F p0C]]),(1,.dat 1 [[.nilsl]]),(2,.dat 1 [[G 0]]),(3,.dat 4 [[.nilsl,.nilsl,G 0,G 0]]),(4,.dat 1 [[.sl 1 ([f,g].map Ql)]]),(5,.cel 1 [[.hs 6 1 0 t.length]]),(6,.dat 1 (t.map (eI .i64)))],7⟩) (by simp) ?_ ?_
  ·refine qb ?_
   obtain ⟨aw,ci,av⟩:=q7 av
   refine Q4 (enc:=Ql) ci J<|O (.d (.sl 6 (aw.map qp))) J<|q9 J<|qm<|U J<|Qc J<|U J<|q8 ?_
   obtain ⟨cj,ck,av⟩:=q7 av
   refine qu<|Q7 (qbv aw) (fun (ag : Int × List Int)=>⟨[(1,.ref 4 1 0 0),(3,.ref 5 1 0 0),(8,.d (.sl 1 ([f,g].map Ql))),(9,q0 2),(10,q0 1),(14,.d (.sl 6 (aw.map qp))),(15,q0 (aw.length : Int)),(16,q0 ag.1)],[(0,.dat 1 [[.fn p0F p0C]]),(1,.dat 1 [[.nilsl]]),(2,.dat 1 [[G 0]]),(3,.dat 4 [[.nilsl,.nilsl,G 0,G 0]]),(4,.dat 1 [[.sl 1 ([f,g].map Ql)]]),(5,.cel 1 [[.hs 6 1 0 ag.2.length]]),(6,.dat 1 (ag.2.map (eI .i64)))],7⟩) (0,an) cj ck (wkA [(4,4),(5,5),(6,6)] [] []) ?_
   intro ag fc ab
   unfold qbv at ab
   refine qb<|O (.d (.bool (decide (ag.1 < (aw.length : Int))))) J<|q8<|qe ?_
   refine ql J ab (fun _ ab=>?_) (fun _ ab=>?_)
   ·refine qj<|qe<|qu<|qb ?_
    obtain ⟨l,cl,ab⟩:=q7 ab
    refine Q4 (enc:=qp) cl J<|O (.d (.agg [G l.Lo.X,G l.Lo.Y,G l.Lo.Z,G l.Hi.X,G l.Hi.Y,G l.Hi.Z])) J<|Qo J J<|Q6 7 (.dat 6 [[G l.Lo.X,G l.Lo.Y,G l.Lo.Z,G l.Hi.X,G l.Hi.Y,G l.Hi.Z]]) J<|q8<|qt<|O (.hs 6 1 0 ag.2.length) J<|O (.ref 7 6 0 0) J<|O (.ref 7 6 0 2) J<|O (q0 l.Lo.Z) J<|O (.ref 7 6 0 3) J<|O (.ref 7 6 0 5) J<|O (q0 l.Hi.Z) J<|Qg (.hs 8 1 0 [l.Lo.Z,l.Hi.Z].length) (.dat 1 ([l.Lo.Z,l.Hi.Z].map (eI .i64))) J ?_
    obtain ⟨cm,cn,ab⟩:=q7 ab
    refine Ka (xs:=ag.2) (ys:=[l.Lo.Z,l.Hi.Z]) (enc:=(eI .i64)) (.hs 8 1 0 [l.Lo.Z,l.Hi.Z].length) cn J J J J J J J (K9 J J) J J J J<|Q6 5 (.cel 1 [[.hs 9 1 0 cm.length]]) J<|qr<|Qa<|qt<|O (.d (G (w64 (ag.1 + 1)))) J<|U J<|qr ?_
    exact ⟨_,(Option.some.inj ab).symm,wkA [(4,4),(5,5),(6,9)] [] []⟩
   refine Q2 ?_
   refine ⟨_,(Option.some.inj ab).symm,fun hm=>?_⟩
   subst hm
   obtain rfl:=qc av
   exact ⟨_,J,wkA [(4,4),(5,5),(6,6)] [] []⟩
  intro t hb
  subst hb
  refine qt<|O (q0 2) J<|U J<|q8<|Kw<|qb<|O (qd false) J<|q8<|qe<|Ym J<|Q2<|J0<|qb<|O (.hs 6 1 0 t.length) J ?_
  obtain ⟨bf,co,p⟩:=q7 p
  obtain ⟨fd,cp,p⟩:=q7 p
  have cq:=Qy cp
  refine Qr [(0,6)] [(0,1),(1,1),(2,1),(3,1),(4,1),(5,1),(6,0)] [.hs 6 1 0 t.length] (.d (.tup [])) 1 [(6,.dat 1 (bf.map (eI .i64))),(0,.dat 1 [[.fn p0F p0C]]),(1,.dat 1 [[.nilsl]]),(2,.dat 1 [[G 0]]),(3,.dat 4 [[.nilsl,.nilsl,G 0,G 0]]),(4,.dat 1 [[.sl 1 ([f,g].map Ql)]]),(5,.cel 1 [[.hs 6 1 0 t.length]])] 7 (qbo t bf co)<|qm<|O (.hs 6 1 0 t.length) J ?_
  obtain ⟨ak,cr,p⟩:=q7 p
  obtain ⟨fe,cs,p⟩:=q7 p
  have ff:=Qy cs
  obtain ⟨fg,ct,p⟩:=q7 p
  have cu:=qca ct
  refine J7 [(0,6)] [(0,1),(1,1),(2,1),(3,1),(4,1),(5,1),(6,0)] [.hs 6 1 0 t.length] (.hs 6 1 ak.1.1 ak.1.2) [(6,.dat 1 (ak.2.map (eI .i64)))] [(6,.dat 1 (ak.2.map (eI .i64))),(0,.dat 1 [[.fn p0F p0C]]),(1,.dat 1 [[.nilsl]]),(2,.dat 1 [[G 0]]),(3,.dat 4 [[.nilsl,.nilsl,G 0,G 0]]),(4,.dat 1 [[.sl 1 ([f,g].map Ql)]]),(5,.cel 1 [[.hs 6 1 0 t.length]])] 7 (qbh bf ak cr) J J J (Ko [(0,6)] [] [] J ⟨⟨_,J,Qp (by simp [cq]) J (by decide) (ltd J)⟩,trivial⟩ ⟨⟨ltd J,.inr ⟨by decide,_,J,.dat _ _⟩⟩,trivial⟩) (Ko [(0,1),(1,1),(2,1),(3,1),(4,1),(5,1),(6,0)] [] [] J ⟨⟨_,J,.hs J (by decide) (ltd J)⟩,trivial⟩ ⟨⟨ltd J,.inr ⟨by decide,_,J,.dat _ _⟩⟩,trivial⟩) J ⟨.inl J,.inr ⟨J,J⟩,.inr ⟨J,J⟩,.inr ⟨J,J⟩,.inr ⟨J,J⟩,.inr ⟨J,J⟩,.inr ⟨J,J⟩,trivial⟩<|Q6 5 (.cel 1 [[.hs 6 1 ak.1.1 ak.1.2]]) J<|qm<|O (.fn 112 [.ref 5 1 0 0,.ref 4 1 0 0]) J<|q9 J<|qn ?_
  refine ⟨.inr J,_,J,?_⟩
  obtain rfl:=qc p
  exact ⟨_,J,wkE [(0,0),(1,1),(2,2),(3,3),(4,5),(5,4)] [6] [] J ⟨⟨_,J,.ref J (by decide) (ltd J)⟩,⟨_,J,.ref J (by decide) (ltd J)⟩,⟨_,J,.ref J (by decide) (ltd J)⟩,⟨_,J,.ref J (by decide) (ltd J)⟩,⟨_,J,(q1d (.cons (.ref J (by decide) (ltd J)) (.cons (.ref J (by decide) (ltd J)) .nil)))⟩,trivial⟩ ⟨⟨ltd J,.inr ⟨by decide,_,J,.dat _ _⟩⟩,⟨ltd J,.inr ⟨by decide,_,J,.dat _ _⟩⟩,⟨ltd J,.inr ⟨by decide,_,J,.dat _ _⟩⟩,⟨ltd J,.inr ⟨by decide,_,J,.dat _ _⟩⟩,⟨ltd J,.inr ⟨by decide,_,J,Zs (.cons (qcc cu J (by decide)) J .nil)⟩⟩,⟨ltd J,.inr ⟨by decide,_,J,.dat _ _⟩⟩,trivial⟩⟩
 intro j hb
 subst hb
 refine q8<|qu ?_
 obtain ⟨cv,bd,w⟩:=q7 w
 refine q85 (fun q=>.inl q = cv) (fun (q : List qg × Int × Int × List qf)=>⟨[(4,.ref 0 1 0 0),(5,.ref 1 1 0 0),(6,.ref 2 4 0 0)],[(0,.dat 1 [[.nilsl]]),(1,.dat 1 [[G 0]]),(2,.cel 4 [[.hs 3 6 0 q.2.2.2.length,.d (.sl 4 (q.1.map qk)),q0 q.2.1,q0 q.2.2.1]]),(3,.dat 6 (q.2.2.2.map qp))],4⟩) ?_ ?_
 ·refine Kn (st':=⟨[(2,.ref 0 1 0 0),(4,.ref 1 1 0 0),(5,.ref 2 1 0 0),(6,.ref 3 4 0 0),(14,.fn 112 [.ref 4 1 0 0,.ref 5 1 0 0])],[(0,.dat 1 [[.fn p0F p0C]]),(1,.dat 1 [[.nilsl]]),(2,.dat 1 [[G 0]]),(3,.dat 4 [[.nilsl,.nilsl,G 0,G 0]]),(4,.cel 1 [[.d (.sl 1 (j.map (eI .i64)))]]),(5,.dat 1 [[.sl 1 ([f,g].map Ql)]])],6⟩) (wkA [(0,0),(1,1),(2,2),(3,3),(4,4),(5,5)] [] []) ?_ (by simp)
  refine q86 [.ref 4 1 0 0,.ref 5 1 0 0] (.inl J) Tryz.func112 J (by kernel_rfl) (by kernel_rfl) J ?_
  intro A1597 B1598 hA1597 hB1598
  refine qb<|q9 J<|q8 ?_
  obtain ⟨cw,cx,bd⟩:=q7 bd
  refine qu<|Q7 (q3z j f g p0) (fun (a : Int × List qg × Int × Int × List qf)=>⟨[(0,.yld 6),(1,.ref 4 1 0 0),(2,.ref 5 1 0 0),(4,q0 a.1)],[(0,.dat 1 [[.fn p0F p0C]]),(1,.dat 1 [[.nilsl]]),(2,.dat 1 [[G 0]]),(3,.cel 4 [[.hs 7 6 0 a.2.2.2.2.length,.d (.sl 4 (a.2.1.map qk)),q0 a.2.2.1,q0 a.2.2.2.1]]),(4,.cel 1 [[.d (.sl 1 (j.map (eI .i64)))]]),(5,.dat 1 [[.sl 1 ([f,g].map Ql)]]),(6,.loop [(2,.ref 0 1 0 0),(4,.ref 1 1 0 0),(5,.ref 2 1 0 0),(6,.ref 3 4 0 0),(14,.fn 112 [.ref 4 1 0 0,.ref 5 1 0 0])] [15] A1597 B1598 .ready none),(7,.dat 6 (a.2.2.2.2.map qp))],8⟩) (1,[],0,0,[]) cw cx (wkA [] [] [7]) ?_
  intro a fh o
  unfold q3z at o
  refine qe<|qb<|U J<|O (.d (.sl 1 (j.map (eI .i64)))) J<|Qc J<|O (.d (.bool (decide (a.1 < (j.length : Int))))) J<|q8 ?_
  refine ql J o (fun _ o=>?_) (fun _ o=>?_)
  ·refine qj<|qe<|qu<|qe<|Q5 [Qe 9,(some [],[9]),q6,(some [],[8]),q6,qo 5,q6,q6,q6,qo 4,q6,q6,q6,q6,qo 4] (by kernel_rfl)<|O (.d (.sl 1 (j.map (eI .i64)))) J<|U J<|O (.d (G (w64 (a.1 - 1)))) J ?_
   obtain ⟨h,cy,o⟩:=q7 o
   refine Q4 (enc:=(eI .i64)) cy J<|O (q0 h) J<|O (.d (.sl 1 (j.map (eI .i64)))) J<|U J ?_
   obtain ⟨m,cz,o⟩:=q7 o
   refine Q4 (enc:=(eI .i64)) cz J<|O (q0 m) J<|O (.d (.sl 1 ([f,g].map Ql))) J<|q50 2 J J J J J<|Qg (.hs 8 1 0 2) (.dat 1 [[.nilsl],[.nilsl]]) J<|O (.agg [q0 h,q0 m,.hs 8 1 0 2]) J<|Qo J J<|Q6 9 (.cel 3 [[q0 h,q0 m,.hs 8 1 0 2]]) J<|q8<|qe<|qb<|O (.d (.sl 1 ([f,g].map Ql))) J<|q50 2 J J J J J<|U J<|q8<|qu<|Kw<|qb<|O (qd true) J<|q8<|qe<|Yn J<|qj<|qe ?_
   obtain ⟨da,ax,o⟩:=q7 o
   refine Qb (fun n=>n = da) (fun (n : List qg)=>⟨[(0,.yld 6),(1,.ref 4 1 0 0),(2,.ref 5 1 0 0),(4,q0 a.1),(5,.ref 7 3 0 0),(29,.d (.sl 1 ([f,g].map Ql))),(30,q0 2),(31,q0 0)],[(0,.dat 1 [[.fn p0F p0C]]),(1,.dat 1 [[.nilsl]]),(2,.dat 1 [[G 0]]),(3,.cel 4 [[.hs 8 6 0 a.2.2.2.2.length,.d (.sl 4 (a.2.1.map qk)),q0 a.2.2.1,q0 a.2.2.2.1]]),(4,.cel 1 [[.d (.sl 1 (j.map (eI .i64)))]]),(5,.dat 1 [[.sl 1 ([f,g].map Ql)]]),(6,.loop [(2,.ref 0 1 0 0),(4,.ref 1 1 0 0),(5,.ref 2 1 0 0),(6,.ref 3 4 0 0),(14,.fn 112 [.ref 4 1 0 0,.ref 5 1 0 0])] [15] A1597 B1598 .ready none),(7,.cel 3 [[q0 h,q0 m,.hs 9 1 0 2]]),(8,.dat 6 (a.2.2.2.2.map qp)),(9,.cel 1 [[.hs 10 4 0 n.length],[.d (.nilsl)]]),(10,.dat 4 (n.map qk))],11⟩) (by simp) ?_ ?_
   ·refine qb<|U J ?_
    obtain ⟨al,dc,ax⟩:=q7 ax
    refine Q4 (enc:=Ql) dc J<|O (.d (.sl 6 (al.map qp))) J<|q9 J<|q9 J<|qm<|U J<|Qc J<|U J<|q8 ?_
    obtain ⟨dd,de,ax⟩:=q7 ax
    refine qu<|Q7 (qbw al h) (fun (ad : Int × List qg)=>⟨[(0,.yld 6),(1,.ref 4 1 0 0),(2,.ref 5 1 0 0),(4,q0 a.1),(5,.ref 7 3 0 0),(6,q0 0),(29,.d (.sl 1 ([f,g].map Ql))),(30,q0 2),(31,q0 0),(36,.d (.sl 6 (al.map qp))),(37,q0 (al.length : Int)),(38,q0 ad.1)],[(0,.dat 1 [[.fn p0F p0C]]),(1,.dat 1 [[.nilsl]]),(2,.dat 1 [[G 0]]),(3,.cel 4 [[.hs 8 6 0 a.2.2.2.2.length,.d (.sl 4 (a.2.1.map qk)),q0 a.2.2.1,q0 a.2.2.2.1]]),(4,.cel 1 [[.d (.sl 1 (j.map (eI .i64)))]]),(5,.dat 1 [[.sl 1 ([f,g].map Ql)]]),(6,.loop [(2,.ref 0 1 0 0),(4,.ref 1 1 0 0),(5,.ref 2 1 0 0),(6,.ref 3 4 0 0),(14,.fn 112 [.ref 4 1 0 0,.ref 5 1 0 0])] [15] A1597 B1598 .ready none),(7,.cel 3 [[q0 h,q0 m,.hs 9 1 0 2]]),(8,.dat 6 (a.2.2.2.2.map qp)),(9,.cel 1 [[.hs 10 4 0 ad.2.length],[.d (.nilsl)]]),(10,.dat 4 (ad.2.map qk))],11⟩) (0,[]) dd de (wkA [(7,9),(8,7),(9,8)] [] [10]) ?_
    intro ad fi ah
    unfold qbw at ah
    refine qb<|O (.d (.bool (decide (ad.1 < (al.length : Int))))) J<|q8<|qe ?_
    refine ql J ah (fun _ ah=>?_) (fun _ ah=>?_)
    ·refine qj<|qe ?_
     obtain ⟨df,x,ah⟩:=q7 ah
     refine Qb (fun ay=>ay = df) (fun (ay : List qg)=>⟨[(0,.yld 6),(1,.ref 4 1 0 0),(2,.ref 5 1 0 0),(4,q0 a.1),(5,.ref 7 3 0 0),(6,q0 0),(29,.d (.sl 1 ([f,g].map Ql))),(30,q0 2),(31,q0 0),(36,.d (.sl 6 (al.map qp))),(37,q0 (al.length : Int)),(38,q0 ad.1)],[(0,.dat 1 [[.fn p0F p0C]]),(1,.dat 1 [[.nilsl]]),(2,.dat 1 [[G 0]]),(3,.cel 4 [[.hs 8 6 0 a.2.2.2.2.length,.d (.sl 4 (a.2.1.map qk)),q0 a.2.2.1,q0 a.2.2.2.1]]),(4,.cel 1 [[.d (.sl 1 (j.map (eI .i64)))]]),(5,.dat 1 [[.sl 1 ([f,g].map Ql)]]),(6,.loop [(2,.ref 0 1 0 0),(4,.ref 1 1 0 0),(5,.ref 2 1 0 0),(6,.ref 3 4 0 0),(14,.fn 112 [.ref 4 1 0 0,.ref 5 1 0 0])] [15] A1597 B1598 .ready none),(7,.cel 3 [[q0 h,q0 m,.hs 9 1 0 2]]),(8,.dat 6 (a.2.2.2.2.map qp)),(9,.cel 1 [[.hs 10 4 0 ay.length],[.d (.nilsl)]]),(10,.dat 4 (ay.map qk))],11⟩) (by simp) ?_ ?_
     ·refine qb ?_
      obtain ⟨b,dg,x⟩:=q7 x
      refine Q4 (enc:=qp) dg J<|O (.d (.agg [G b.Lo.X,G b.Lo.Y,G b.Lo.Z,G b.Hi.X,G b.Hi.Y,G b.Hi.Z])) J<|Qo J J<|Q6 11 (.dat 6 [[G b.Lo.X,G b.Lo.Y,G b.Lo.Z,G b.Hi.X,G b.Hi.Y,G b.Hi.Z]]) J<|qm<|O (.ref 11 6 0 0) J<|O (.ref 11 6 0 2) J<|O (q0 b.Lo.Z) J<|O (.ref 7 3 0 0) J<|O (q0 h) J<|O (.d (.bool (decide (b.Lo.Z≤h)))) J ?_
      obtain ⟨dh,az,x⟩:=q7 x
      refine qx 8 (fun A st=>∃ (bj bk bl bm bn bo bp : V),st = A [(55,qd dh),(54,bp),(53,bo),(52,bn),(51,bm),(50,bl),(49,bk),(48,bj)]) ?_ ?_
      ·refine qw J J az (fun az=>?_) (fun az=>?_)
       ·refine O (.ref 7 3 0 0) J<|O (q0 h) J<|O (.ref 11 6 0 3) J<|O (.ref 11 6 0 5) J<|O (q0 b.Hi.Z) J<|O (.d (.bool (decide (h < b.Hi.Z)))) J<|O (.d (.bool (decide (h < b.Hi.Z)))) J<|q8 ?_
        obtain rfl:=qc az
        exact ⟨_,_,_,_,_,_,_,J⟩
       refine qa J<|qa J<|qa J<|qa J<|qa J<|qa J<|O (qd false) J<|q8 ?_
       obtain rfl:=qc az
       exact ⟨_,_,_,_,_,_,_,J⟩
      rintro _ ⟨bj,bk,bl,bm,bn,bo,bp,rfl⟩
      refine q8 ?_
      refine ql J x (fun _ x=>?_) (fun _ x=>?_)
      ·refine Q5 [Qe 9,q6,(some [10,12],[10,13]),(some [],[12]),q6,qo 11,q6,q6,qo 11,q6,q6,qo 11,q6,q6,qo 11,q6,q6,qo 9,q6,q6,qo 7,q6,q6,qo 7,q6] (by kernel_rfl)<|O (.ref 7 3 0 2) J<|O (.hs 9 1 0 2) J<|U J<|O (.ref 7 3 0 2) J<|O (.hs 9 1 0 2) J<|U J<|O (.ref 9 1 0 0) J<|O (.hs 10 4 0 ad.2.length) J<|O (.ref 11 6 0 0) J<|O (.ref 11 6 0 0) J<|O (q0 b.Lo.X) J<|O (.ref 11 6 0 0) J<|O (.ref 11 6 0 1) J<|O (q0 b.Lo.Y) J<|O (.ref 11 6 0 3) J<|O (.ref 11 6 0 3) J<|O (q0 b.Hi.X) J<|O (.ref 11 6 0 3) J<|O (.ref 11 6 0 4) J<|O (q0 b.Hi.Y) J<|O (.d (.agg [G b.Lo.X,G b.Lo.Y,G b.Hi.X,G b.Hi.Y])) J<|Qg (.hs 12 4 0 [({X0:=b.Lo.X,Y0:=b.Lo.Y,X1:=b.Hi.X,Y1:=b.Hi.Y} : qg)].length) (.dat 4 ([({X0:=b.Lo.X,Y0:=b.Lo.Y,X1:=b.Hi.X,Y1:=b.Hi.Y} : qg)].map qk)) J ?_
       obtain ⟨dj,dk,x⟩:=q7 x
       refine Ka (xs:=ad.2) (ys:=[({X0:=b.Lo.X,Y0:=b.Lo.Y,X1:=b.Hi.X,Y1:=b.Hi.Y} : qg)]) (enc:=qk) (.hs 12 4 0 [({X0:=b.Lo.X,Y0:=b.Lo.Y,X1:=b.Hi.X,Y1:=b.Hi.Y} : qg)].length) dk J J J J J J J (K9 J J) J J J J<|O (.ref 9 1 0 0) J<|Q6 9 (.cel 1 [[.hs 13 4 0 dj.length],[.d (.nilsl)]]) J<|qr ?_
       obtain rfl:=qc x
       exact ⟨_,J,wkA [(7,7),(8,8),(9,9),(10,13)] [] []⟩
      refine qj<|Q9 ?_
      obtain rfl:=qc x
      exact ⟨_,J,wkA [(7,7),(8,8),(9,9),(10,10)] [] []⟩
     intro ay hb
     subst hb
     refine qt<|O (.d (G (w64 (ad.1 + 1)))) J<|U J<|qr ?_
     exact ⟨_,(Option.some.inj ah).symm,wkA [(7,7),(8,8),(9,9),(10,10)] [] []⟩
    refine Q2 ?_
    refine ⟨_,(Option.some.inj ah).symm,fun hm=>?_⟩
    subst hm
    obtain rfl:=qc ax
    exact ⟨_,J,wkA [(7,7),(8,8),(9,9),(10,10)] [] []⟩
   intro n hb
   subst hb
   refine qt<|O (q0 1) J<|U J<|q8<|Kw<|qb<|O (qd true) J<|q8<|qe<|Yn J<|qj<|qe ?_
   obtain ⟨dl,ba,o⟩:=q7 o
   refine Qb (fun u=>u = dl) (fun (u : List qg)=>⟨[(0,.yld 6),(1,.ref 4 1 0 0),(2,.ref 5 1 0 0),(4,q0 a.1),(5,.ref 7 3 0 0),(29,.d (.sl 1 ([f,g].map Ql))),(30,q0 2),(31,q0 1)],[(0,.dat 1 [[.fn p0F p0C]]),(1,.dat 1 [[.nilsl]]),(2,.dat 1 [[G 0]]),(3,.cel 4 [[.hs 8 6 0 a.2.2.2.2.length,.d (.sl 4 (a.2.1.map qk)),q0 a.2.2.1,q0 a.2.2.2.1]]),(4,.cel 1 [[.d (.sl 1 (j.map (eI .i64)))]]),(5,.dat 1 [[.sl 1 ([f,g].map Ql)]]),(6,.loop [(2,.ref 0 1 0 0),(4,.ref 1 1 0 0),(5,.ref 2 1 0 0),(6,.ref 3 4 0 0),(14,.fn 112 [.ref 4 1 0 0,.ref 5 1 0 0])] [15] A1597 B1598 .ready none),(7,.cel 3 [[q0 h,q0 m,.hs 9 1 0 2]]),(8,.dat 6 (a.2.2.2.2.map qp)),(9,.cel 1 [[.hs 10 4 0 n.length],[.hs 11 4 0 u.length]]),(10,.dat 4 (n.map qk)),(11,.dat 4 (u.map qk))],12⟩) (by simp) ?_ ?_
   ·refine qb<|U J ?_
    obtain ⟨am,dm,ba⟩:=q7 ba
    refine Q4 (enc:=Ql) dm J<|O (.d (.sl 6 (am.map qp))) J<|q9 J<|q9 J<|qm<|U J<|Qc J<|U J<|q8 ?_
    obtain ⟨dn,dp,ba⟩:=q7 ba
    refine qu<|Q7 (qbx am h) (fun (ae : Int × List qg)=>⟨[(0,.yld 6),(1,.ref 4 1 0 0),(2,.ref 5 1 0 0),(4,q0 a.1),(5,.ref 7 3 0 0),(6,q0 1),(29,.d (.sl 1 ([f,g].map Ql))),(30,q0 2),(31,q0 1),(36,.d (.sl 6 (am.map qp))),(37,q0 (am.length : Int)),(38,q0 ae.1)],[(0,.dat 1 [[.fn p0F p0C]]),(1,.dat 1 [[.nilsl]]),(2,.dat 1 [[G 0]]),(3,.cel 4 [[.hs 8 6 0 a.2.2.2.2.length,.d (.sl 4 (a.2.1.map qk)),q0 a.2.2.1,q0 a.2.2.2.1]]),(4,.cel 1 [[.d (.sl 1 (j.map (eI .i64)))]]),(5,.dat 1 [[.sl 1 ([f,g].map Ql)]]),(6,.loop [(2,.ref 0 1 0 0),(4,.ref 1 1 0 0),(5,.ref 2 1 0 0),(6,.ref 3 4 0 0),(14,.fn 112 [.ref 4 1 0 0,.ref 5 1 0 0])] [15] A1597 B1598 .ready none),(7,.cel 3 [[q0 h,q0 m,.hs 9 1 0 2]]),(8,.dat 6 (a.2.2.2.2.map qp)),(9,.cel 1 [[.hs 10 4 0 n.length],[.hs 11 4 0 ae.2.length]]),(10,.dat 4 (n.map qk)),(11,.dat 4 (ae.2.map qk))],12⟩) (0,[]) dn dp (wkA [(7,7),(8,8),(9,9),(10,10)] [] [11]) ?_
    intro ae fj ai
    unfold qbx at ai
    refine qb<|O (.d (.bool (decide (ae.1 < (am.length : Int))))) J<|q8<|qe ?_
    refine ql J ai (fun _ ai=>?_) (fun _ ai=>?_)
    ·refine qj<|qe ?_
     obtain ⟨dq,y,ai⟩:=q7 ai
     refine Qb (fun bb=>bb = dq) (fun (bb : List qg)=>⟨[(0,.yld 6),(1,.ref 4 1 0 0),(2,.ref 5 1 0 0),(4,q0 a.1),(5,.ref 7 3 0 0),(6,q0 1),(29,.d (.sl 1 ([f,g].map Ql))),(30,q0 2),(31,q0 1),(36,.d (.sl 6 (am.map qp))),(37,q0 (am.length : Int)),(38,q0 ae.1)],[(0,.dat 1 [[.fn p0F p0C]]),(1,.dat 1 [[.nilsl]]),(2,.dat 1 [[G 0]]),(3,.cel 4 [[.hs 8 6 0 a.2.2.2.2.length,.d (.sl 4 (a.2.1.map qk)),q0 a.2.2.1,q0 a.2.2.2.1]]),(4,.cel 1 [[.d (.sl 1 (j.map (eI .i64)))]]),(5,.dat 1 [[.sl 1 ([f,g].map Ql)]]),(6,.loop [(2,.ref 0 1 0 0),(4,.ref 1 1 0 0),(5,.ref 2 1 0 0),(6,.ref 3 4 0 0),(14,.fn 112 [.ref 4 1 0 0,.ref 5 1 0 0])] [15] A1597 B1598 .ready none),(7,.cel 3 [[q0 h,q0 m,.hs 9 1 0 2]]),(8,.dat 6 (a.2.2.2.2.map qp)),(9,.cel 1 [[.hs 10 4 0 n.length],[.hs 11 4 0 bb.length]]),(10,.dat 4 (n.map qk)),(11,.dat 4 (bb.map qk))],12⟩) (by simp) ?_ ?_
     ·refine qb ?_
      obtain ⟨c,dr,y⟩:=q7 y
      refine Q4 (enc:=qp) dr J<|O (.d (.agg [G c.Lo.X,G c.Lo.Y,G c.Lo.Z,G c.Hi.X,G c.Hi.Y,G c.Hi.Z])) J<|Qo J J<|Q6 12 (.dat 6 [[G c.Lo.X,G c.Lo.Y,G c.Lo.Z,G c.Hi.X,G c.Hi.Y,G c.Hi.Z]]) J<|qm<|O (.ref 12 6 0 0) J<|O (.ref 12 6 0 2) J<|O (q0 c.Lo.Z) J<|O (.ref 7 3 0 0) J<|O (q0 h) J<|O (.d (.bool (decide (c.Lo.Z≤h)))) J ?_
      obtain ⟨ds,bc,y⟩:=q7 y
      refine qx 8 (fun A st=>∃ (bq br bs bt bu bv bw : V),st = A [(55,qd ds),(54,bw),(53,bv),(52,bu),(51,bt),(50,bs),(49,br),(48,bq)]) ?_ ?_
      ·refine qw J J bc (fun bc=>?_) (fun bc=>?_)
       ·refine O (.ref 7 3 0 0) J<|O (q0 h) J<|O (.ref 12 6 0 3) J<|O (.ref 12 6 0 5) J<|O (q0 c.Hi.Z) J<|O (.d (.bool (decide (h < c.Hi.Z)))) J<|O (.d (.bool (decide (h < c.Hi.Z)))) J<|q8 ?_
        obtain rfl:=qc bc
        exact ⟨_,_,_,_,_,_,_,J⟩
       refine qa J<|qa J<|qa J<|qa J<|qa J<|qa J<|O (qd false) J<|q8 ?_
       obtain rfl:=qc bc
       exact ⟨_,_,_,_,_,_,_,J⟩
      rintro _ ⟨bq,br,bs,bt,bu,bv,bw,rfl⟩
      refine q8 ?_
      refine ql J y (fun _ y=>?_) (fun _ y=>?_)
      ·refine Q5 [Qe 9,q6,(some [11,13],[11,14]),(some [],[13]),q6,qo 12,q6,q6,qo 12,q6,q6,qo 12,q6,q6,qo 12,q6,q6,qo 9,q6,q6,qo 7,q6,q6,qo 7,q6] (by kernel_rfl)<|O (.ref 7 3 0 2) J<|O (.hs 9 1 0 2) J<|U J<|O (.ref 7 3 0 2) J<|O (.hs 9 1 0 2) J<|U J<|O (.ref 9 1 1 0) J<|O (.hs 11 4 0 ae.2.length) J<|O (.ref 12 6 0 0) J<|O (.ref 12 6 0 0) J<|O (q0 c.Lo.X) J<|O (.ref 12 6 0 0) J<|O (.ref 12 6 0 1) J<|O (q0 c.Lo.Y) J<|O (.ref 12 6 0 3) J<|O (.ref 12 6 0 3) J<|O (q0 c.Hi.X) J<|O (.ref 12 6 0 3) J<|O (.ref 12 6 0 4) J<|O (q0 c.Hi.Y) J<|O (.d (.agg [G c.Lo.X,G c.Lo.Y,G c.Hi.X,G c.Hi.Y])) J<|Qg (.hs 13 4 0 [({X0:=c.Lo.X,Y0:=c.Lo.Y,X1:=c.Hi.X,Y1:=c.Hi.Y} : qg)].length) (.dat 4 ([({X0:=c.Lo.X,Y0:=c.Lo.Y,X1:=c.Hi.X,Y1:=c.Hi.Y} : qg)].map qk)) J ?_
       obtain ⟨dt,du,y⟩:=q7 y
       refine Ka (xs:=ae.2) (ys:=[({X0:=c.Lo.X,Y0:=c.Lo.Y,X1:=c.Hi.X,Y1:=c.Hi.Y} : qg)]) (enc:=qk) (.hs 13 4 0 [({X0:=c.Lo.X,Y0:=c.Lo.Y,X1:=c.Hi.X,Y1:=c.Hi.Y} : qg)].length) du J J J J J J J (K9 J J) J J J J<|O (.ref 9 1 1 0) J<|Q6 9 (.cel 1 [[.hs 10 4 0 n.length],[.hs 14 4 0 dt.length]]) J<|qr ?_
       obtain rfl:=qc y
       exact ⟨_,J,wkA [(7,7),(8,8),(9,9),(10,10),(11,14)] [] []⟩
      refine qj<|Q9 ?_
      obtain rfl:=qc y
      exact ⟨_,J,wkA [(7,7),(8,8),(9,9),(10,10),(11,11)] [] []⟩
     intro bb hb
     subst hb
     refine qt<|O (.d (G (w64 (ae.1 + 1)))) J<|U J<|qr ?_
     exact ⟨_,(Option.some.inj ai).symm,wkA [(7,7),(8,8),(9,9),(10,10),(11,11)] [] []⟩
    refine Q2 ?_
    refine ⟨_,(Option.some.inj ai).symm,fun hm=>?_⟩
    subst hm
    obtain rfl:=qc ba
    exact ⟨_,J,wkA [(7,7),(8,8),(9,9),(10,10),(11,11)] [] []⟩
   intro u hb
   subst hb
   refine qt<|O (q0 2) J<|U J<|q8<|Kw<|qb<|O (qd false) J<|q8<|qe<|Ym J<|Q2<|J0<|qe ?_
   refine Kn (st':=⟨[(0,.yld 6),(1,.ref 4 1 0 0),(2,.ref 5 1 0 0),(4,q0 a.1),(5,.ref 7 3 0 0)],[(0,.dat 1 [[.fn p0F p0C]]),(1,.dat 1 [[.nilsl]]),(2,.dat 1 [[G 0]]),(3,.cel 4 [[.hs 8 6 0 a.2.2.2.2.length,.d (.sl 4 (a.2.1.map qk)),q0 a.2.2.1,q0 a.2.2.2.1]]),(4,.cel 1 [[.d (.sl 1 (j.map (eI .i64)))]]),(5,.dat 1 [[.sl 1 ([f,g].map Ql)]]),(6,.loop [(2,.ref 0 1 0 0),(4,.ref 1 1 0 0),(5,.ref 2 1 0 0),(6,.ref 3 4 0 0),(14,.fn 112 [.ref 4 1 0 0,.ref 5 1 0 0])] [15] A1597 B1598 .ready none),(7,.cel 3 [[q0 h,q0 m,.hs 9 1 0 2]]),(8,.dat 6 (a.2.2.2.2.map qp)),(9,.cel 1 [[.d (.sl 4 (n.map qk))],[.hs 10 4 0 u.length]]),(10,.dat 4 (u.map qk))],11⟩) (wkA [(7,7),(8,8),(9,9),(10,11)] [10] []) ?_ (by simp)
   refine Kn (st':=⟨[(0,.yld 6),(1,.ref 4 1 0 0),(2,.ref 5 1 0 0),(4,q0 a.1),(5,.ref 7 3 0 0)],[(0,.dat 1 [[.fn p0F p0C]]),(1,.dat 1 [[.nilsl]]),(2,.dat 1 [[G 0]]),(3,.cel 4 [[.hs 8 6 0 a.2.2.2.2.length,.d (.sl 4 (a.2.1.map qk)),q0 a.2.2.1,q0 a.2.2.2.1]]),(4,.cel 1 [[.d (.sl 1 (j.map (eI .i64)))]]),(5,.dat 1 [[.sl 1 ([f,g].map Ql)]]),(6,.loop [(2,.ref 0 1 0 0),(4,.ref 1 1 0 0),(5,.ref 2 1 0 0),(6,.ref 3 4 0 0),(14,.fn 112 [.ref 4 1 0 0,.ref 5 1 0 0])] [15] A1597 B1598 .ready none),(7,.cel 3 [[q0 h,q0 m,.hs 9 1 0 2]]),(8,.dat 6 (a.2.2.2.2.map qp)),(9,.cel 1 [[.d (.sl 4 (n.map qk))],[.d (.sl 4 (u.map qk))]])],10⟩) (wkA [(7,7),(8,8),(9,9)] [10] []) ?_ (by simp)
   refine qt<|U J<|O (.agg [q0 h,q0 m,.hs 9 1 0 2]) J ?_
   obtain ⟨dv,z,o⟩:=q7 o
   refine q7u (fun aj=>.inl aj = dv) (fun (aj : List qg × Int × Int × List qf)=>⟨[(0,.yld 6),(1,.ref 4 1 0 0),(2,.ref 5 1 0 0),(4,q0 a.1),(84,qd true)],[(0,.dat 1 [[.fn p0F p0C]]),(1,.dat 1 [[.nilsl]]),(2,.dat 1 [[G 0]]),(3,.cel 4 [[.hs 7 6 0 aj.2.2.2.length,.d (.sl 4 (aj.1.map qk)),q0 aj.2.1,q0 aj.2.2.1]]),(4,.cel 1 [[.d (.sl 1 (j.map (eI .i64)))]]),(5,.dat 1 [[.sl 1 ([f,g].map Ql)]]),(6,.loop [(2,.ref 0 1 0 0),(4,.ref 1 1 0 0),(5,.ref 2 1 0 0),(6,.ref 3 4 0 0),(14,.fn 112 [.ref 4 1 0 0,.ref 5 1 0 0])] [15] A1597 B1598 .ready none),(7,.dat 6 (aj.2.2.2.map qp))],8⟩) hA1597 hB1598 J J J J J J ?_ ?_
   ·refine qt<|Qo J J<|Q6 10 (.cel 3 [[q0 h,q0 m,.hs 9 1 0 2]]) J<|qr ?_
    refine ⟨J,_,J,?_⟩
    refine qu<|qb<|O (.ref 10 3 0 2) J<|O (.hs 9 1 0 2) J<|O (.ref 9 1 0 0) J<|O (.d (.sl 4 (n.map qk))) J ?_
    obtain ⟨ao,dw,z⟩:=q7 z
    refine qs (qel n ao dw) J<|U J<|O (.d (.sl 4 (ao.1.map qk))) J<|O (q0 ao.2) J<|q9 J<|q9 J<|q8<|qe<|qb<|O (.ref 10 3 0 2) J<|O (.hs 9 1 0 2) J<|O (.hs 9 1 1 1) J<|O (q0 1) J<|U J<|q8<|qu<|Kw<|qb<|O (qd true) J<|q8<|qe<|Yn J<|qj<|qe ?_
    obtain ⟨dx,s,z⟩:=q7 z
    refine Qb (fun ac=>ac = dx) (fun (ac : List qg × Int)=>⟨[(2,.ref 0 1 0 0),(4,.ref 1 1 0 0),(5,.ref 2 1 0 0),(6,.ref 3 4 0 0),(7,.ref 10 3 0 0),(8,.d (.sl 4 (ac.1.map qk))),(9,q0 ac.2),(26,.hs 9 1 1 1),(27,q0 1),(28,q0 0)],[(0,.dat 1 [[.fn p0F p0C]]),(1,.dat 1 [[.nilsl]]),(2,.dat 1 [[G 0]]),(3,.cel 4 [[.hs 8 6 0 a.2.2.2.2.length,.d (.sl 4 (a.2.1.map qk)),q0 a.2.2.1,q0 a.2.2.2.1]]),(4,.cel 1 [[.d (.sl 1 (j.map (eI .i64)))]]),(5,.dat 1 [[.sl 1 ([f,g].map Ql)]]),(6,.loop [(2,.ref 0 1 0 0),(4,.ref 1 1 0 0),(5,.ref 2 1 0 0),(6,.ref 3 4 0 0),(14,.fn 112 [.ref 4 1 0 0,.ref 5 1 0 0])] [15] A1597 B1598 .busy none),(7,.cel 3 [[q0 h,q0 m,.hs 9 1 0 2]]),(8,.dat 6 (a.2.2.2.2.map qp)),(9,.cel 1 [[.d (.sl 4 (n.map qk))],[.d (.sl 4 (u.map qk))]]),(10,.cel 3 [[q0 h,q0 m,.hs 9 1 0 2]])],11⟩) (by simp) ?_ ?_
    ·refine qb<|O (.ref 9 1 1 0) J<|O (.d (.sl 4 (u.map qk))) J<|q9 J<|qm<|U J<|O (qd (ao.2 == 0)) J<|q8 ?_
     refine ql J s (fun _ s=>?_) (fun _ s=>?_)
     ·refine qb<|q9 J<|qm<|U J ?_
      obtain ⟨ap,dy,s⟩:=q7 s
      refine qs (qel u ap dy) J<|U J<|O (.d (.sl 4 (ap.1.map qk))) J<|O (q0 ap.2) J<|q9 J<|q9 J<|qm<|U J<|O (qd (ap.2 == 0)) J<|q8 ?_
      refine ql J s (fun _ s=>?_) (fun _ s=>?_)
      ·refine qt<|O (.ref 0 1 0 0) J<|O (.d (.fn p0F p0C)) J<|U J<|U J ?_
       obtain ⟨bg,dz,s⟩:=q7 s
       refine Kz [.d (.sl 4 (ao.1.map qk)),.d (.sl 4 (ap.1.map qk))] (p0Ok ao.1 ap.1 bg dz) J J J (.inl J)<|U J<|O (.d (.sl 4 (bg.1.map qk))) J<|O (q0 bg.2) J<|q9 J<|q9 J<|qr ?_
       obtain rfl:=qc s
       exact ⟨_,J,wkA [(10,10)] [] []⟩
      refine qj<|Q9 ?_
      obtain rfl:=qc s
      exact ⟨_,J,wkA [(10,10)] [] []⟩
     refine qj<|Q9 ?_
     obtain rfl:=qc s
     exact ⟨_,J,wkA [(10,10)] [] []⟩
    intro ac hb
    subst hb
    refine qt<|O (q0 1) J<|U J<|q8<|Kw<|qb<|O (qd false) J<|q8<|qe<|Ym J<|Q2<|J0<|qe<|qb<|U J<|O (qd (ac.2 != 0)) J<|q8 ?_
    refine ql J z (fun _ z=>?_) (fun _ z=>?_)
    ·refine qb<|U J<|Q6 1 (.dat 1 [[.nilsl]]) J<|Q6 2 (.dat 1 [[G ac.2]]) J<|qn ?_
     obtain rfl:=qc z
     refine ⟨_,J,?_⟩
     refine O (qd true) J<|q8<|Yn J<|Uz ?_
     refine ⟨_,(Option.some.inj o).symm,fun hm=>?_⟩
     subst hm
     refine ⟨.inr J,_,J,_,_,.ret,J,by decide,?_⟩
     refine qck ?_
     obtain rfl:=qc bd
     obtain rfl:=qc w
     exact finD (.inr J) (v:=.d (.tup [.nilsl,G ac.2])) J J (Kr (.cons (.nil _) (.cons (.refl _) .nil)))
    refine qj<|qt<|O (.ref 10 3 0 0) J<|O (q0 h) J<|O (.ref 10 3 0 1) J<|O (q0 m) J<|U J ?_
    obtain ⟨aq,fa,z⟩:=q7 z
    refine Qr [(0,3),(1,8)] [(0,3),(1,3),(2,3),(3,0),(4,3),(5,3),(6,3),(7,3),(8,1),(9,3),(10,3),(11,2)] [.ref 3 4 0 0,q0 h,q0 m,.d (.sl 4 (ac.1.map qk))] (.d (.tup [])) 2 [(3,.cel 4 [[.hs 11 6 0 aq.2.2.2.length,.d (.sl 4 (aq.1.map qk)),q0 aq.2.1,q0 aq.2.2.1]]),(11,.dat 6 (aq.2.2.2.map qp)),(0,.dat 1 [[.fn p0F p0C]]),(1,.dat 1 [[.nilsl]]),(2,.dat 1 [[G 0]]),(4,.cel 1 [[.d (.sl 1 (j.map (eI .i64)))]]),(5,.dat 1 [[.sl 1 ([f,g].map Ql)]]),(6,.loop [(2,.ref 0 1 0 0),(4,.ref 1 1 0 0),(5,.ref 2 1 0 0),(6,.ref 3 4 0 0),(14,.fn 112 [.ref 4 1 0 0,.ref 5 1 0 0])] [15] A1597 B1598 .busy none),(7,.cel 3 [[q0 h,q0 m,.hs 9 1 0 2]]),(9,.cel 1 [[.d (.sl 4 (n.map qk))],[.d (.sl 4 (u.map qk))]]),(10,.cel 3 [[q0 h,q0 m,.hs 9 1 0 2]])] 12 (qld a.2.2.2.2 a.2.1 a.2.2.1 a.2.2.2.1 h m ac.1 aq fa)<|qr<|Qa<|Q9 ?_
    refine ⟨_,J,?_⟩
    obtain rfl:=qc z
    exact ⟨_,J,wkA [(7,11)] [] []⟩
   intro aj hb
   subst hb
   refine O (qd false) J<|q8<|Ym J<|qj<|Q9<|Qa<|qt<|U J<|O (.d (G (w64 (a.1 + 1)))) J<|q9 J<|qr ?_
   exact ⟨_,(Option.some.inj o).symm,wkA [(7,7)] [] []⟩
  refine Q2 ?_
  refine ⟨_,(Option.some.inj o).symm,fun hm=>?_⟩
  subst hm
  refine ⟨.inl J,_,J,_,_,.nor,J,by decide,?_⟩
  refine q73<|Q9 ?_
  obtain rfl:=qc bd
  exact ⟨_,J,wkA [(0,1),(1,2),(2,3),(3,7)] [] []⟩
 intro q st hb hw
 subst hb
 refine Kn hw ?_ (by simp)
 refine qe<|qb<|O (.ref 2 4 0 0) J<|O (.hs 3 6 0 q.2.2.2.length) J<|O (q0 (q.2.2.2.length : Int)) J<|O (.d (.bool (decide ((q.2.2.2.length : Int) > 400)))) J<|q8 ?_
 refine ql J w (fun _ w=>?_) (fun _ w=>?_)
 ·refine qb<|Q6 0 (.dat 1 [[.nilsl]]) J<|Q6 1 (.dat 1 [[G 4]]) J<|qn ?_
  obtain rfl:=qc w
  exact finD (.inr J) (v:=.d (.tup [.nilsl,G 4])) J J (Kr (.cons (.nil _) (.cons (.refl _) .nil)))
 refine qj<|qb<|O (.ref 2 4 0 0) J<|O (.hs 3 6 0 q.2.2.2.length) J<|Q6 0 (.cel 1 [[.hs 3 6 0 q.2.2.2.length]]) J<|Q6 1 (.dat 1 [[G 0]]) J<|qn ?_
 obtain rfl:=qc w
 exact finD (.inr J) (v:=.tup [.hs 3 6 0 q.2.2.2.length,q0 0]) J (q9o (Jq (Z9 J J) (Jq J J))) (.refl _)
theorem qf6 (b : List qf) (c : List qf) (g : List qg→List qg→Option (List qg × Int)) (p2F : FuncId) (p2C : List DV) (p2Ok : ∀ (k : List qg) (l : List qg) (r : List qg × Int),g k l = some r→Pure Tryz.prog tab p2F ([.sl 4 (k.map qk),.sl 4 (l.map qk)] ++ p2C) (.tup [.sl 4 (r.1.map qk),G r.2])) (r : List qf × Int) (a : q3y b c g = some r) : Pure Tryz.prog tab 62 [.sl 6 (b.map qp),.sl 6 (c.map qp),.agg [.fn p2F p2C]] (.tup [.sl 6 (r.1.map qp),G r.2]):=by
 unfold q3y at a
 refine Q8 Tryz.func62 J (by kernel_rfl) (by kernel_rfl) J<|qb<|Qg (.ref 0 1 0 0) (.dat 1 [[.fn p2F p2C]]) J<|q9 J<|q9 J<|q8<|qe<|qb<|U J ?_
 obtain ⟨h,m,a⟩:=q7 a
 refine qs (q2d b h m) J<|q9 J<|qm<|U J<|O (qd (h != 0)) J<|q8 ?_
 refine ql J a (fun _ a=>?_) (fun _ a=>?_)
 ·refine qb<|U J<|q9 J<|q9 J<|qn ?_
  obtain rfl:=qc a
  exact finD (.inr J) (v:=.d (.tup [.nilsl,G h])) J J (Kr (.cons (.nil _) (.cons (.refl _) .nil)))
 refine qj<|qe<|qb<|U J ?_
 obtain ⟨j,n,a⟩:=q7 a
 refine qs (q2d c j n) J<|q9 J<|qm<|U J<|O (qd (j != 0)) J<|q8 ?_
 refine ql J a (fun _ a=>?_) (fun _ a=>?_)
 ·refine qb<|U J<|q9 J<|q9 J<|qn ?_
  obtain rfl:=qc a
  exact finD (.inr J) (v:=.d (.tup [.nilsl,G j])) J J (Kr (.cons (.nil _) (.cons (.refl _) .nil)))
 refine qj<|qb<|O (.d (.agg [.fn p2F p2C])) J<|U J<|U J<|qav (es:=1) ([b,c].map Ql) J J J J J ?_
 obtain ⟨f,o,a⟩:=q7 a
 refine qs (qyb g b c p2F p2C p2Ok f o) J<|O (.d (.sl 6 (f.1.map qp))) J<|O (q0 f.2) J<|q9 J<|q9 J<|qn ?_
 obtain rfl:=qc a
 exact qz (.d (.tup [.sl 6 (f.1.map qp),G f.2])) J
theorem qv8 (c : List qg) (j : qg→Option Bool) (p1F : FuncId) (p1C : List DV) (p1Ok : ∀ (f : qg) (r : Bool),j f = some r→Pure Tryz.prog tab p1F ([.agg [G f.X0,G f.Y0,G f.X1,G f.Y1]] ++ p1C) (.bool r)) (r : Int) (g : qbn c j = some r) : Pure Tryz.prog tab 128 [.sl 4 (c.map qk),.fn p1F p1C] (G r):=by
 unfold qbn at g
 refine Q8 Tryz.func128 J (by kernel_rfl) (by kernel_rfl) J<|qb<|q9 J<|q8<|qe<|qb<|U J<|Qc J<|U J<|q8 ?_
 obtain ⟨l,m,g⟩:=q7 g
 refine Qb (fun k=>.inl k = l) (fun (k : Unit)=>⟨[],[],0⟩) (by simp) ?_ ?_
 ·refine Q7 (q3k c j) (fun (h : Int)=>⟨[(0,.d (.sl 4 (c.map qk))),(1,.d (.fn p1F p1C)),(7,q0 (c.length : Int)),(8,q0 h)],[],0⟩) 0 l m (wkA [] [] []) ?_
  intro h q a
  unfold q3k at a
  refine qb<|O (.d (.bool (decide (h < (c.length : Int))))) J<|q8<|qe ?_
  refine ql J a (fun _ a=>?_) (fun _ a=>?_)
  ·refine qj<|qe<|qu<|qb<|U J<|q9 J<|qm<|U J<|U J<|U J ?_
   obtain ⟨b,n,a⟩:=q7 a
   refine Q4 (enc:=qk) n J<|O (.d (.agg [G b.X0,G b.Y0,G b.X1,G b.Y1])) J ?_
   obtain ⟨o,p,a⟩:=q7 a
   refine Kz [.d (.agg [G b.X0,G b.Y0,G b.X1,G b.Y1])] (p1Ok b o p) J J J (.inl J)<|q8 ?_
   refine ql J a (fun _ a=>?_) (fun _ a=>?_)
   ·refine qb<|U J<|q9 J<|qn ?_
    refine ⟨_,(Option.some.inj a).symm,fun hm=>?_⟩
    subst hm
    obtain rfl:=qc g
    exact qz (q0 h) J
   refine qj<|Q9<|Qa<|qt<|O (.d (G (w64 (h + 1)))) J<|U J<|qr ?_
   exact ⟨_,(Option.some.inj a).symm,wkA [] [] []⟩
  refine Q2 ?_
  refine ⟨_,(Option.some.inj a).symm,fun hm=>?_⟩
  subst hm
  exact ⟨_,J,wkA [] [] []⟩
 intro k hb
 subst hb
 refine qb<|q9 J<|qn ?_
 obtain rfl:=qc g
 exact qz (q0 (-1)) J
theorem qv2 (c : List qg) (f : qg→Option Bool) (p1F : FuncId) (p1C : List DV) (p1Ok : ∀ (a : qg) (r : Bool),f a = some r→Pure Tryz.prog tab p1F ([.agg [G a.X0,G a.Y0,G a.X1,G a.Y1]] ++ p1C) (.bool r)) (r : Bool) (b : q8c c f = some r) : Pure Tryz.prog tab 105 [.sl 4 (c.map qk),.fn p1F p1C] (.bool r):=by
 unfold q8c at b
 refine Q8 Tryz.func105 J (by kernel_rfl) (by kernel_rfl) J<|qb<|q9 J<|qm<|U J<|U J ?_
 obtain ⟨g,h,b⟩:=q7 b
 refine qs (qv8 c f p1F p1C p1Ok g h) J<|O (.d (.bool (decide (g ≥ 0)))) J<|q9 J<|qn ?_
 obtain rfl:=qc b
 exact qz (.d (.bool (decide (g ≥ 0)))) J
theorem qsy (a : qg) (r : Bool) (b : q22 a = some r) : Pure Tryz.prog tab 106 [.agg [G a.X0,G a.Y0,G a.X1,G a.Y1]] (.bool r):=by
 unfold q22 at b
 refine Q8 Tryz.func106 J (by kernel_rfl) (by kernel_rfl) J<|qb<|Qg (.ref 0 4 0 0) (.dat 4 [[G a.X0,G a.Y0,G a.X1,G a.Y1]]) J<|q9 J<|qm<|O (.d (.agg [G a.X0,G a.Y0,G a.X1,G a.Y1])) J ?_
 obtain ⟨c,f,b⟩:=q7 b
 refine qs (qkc a c f) J<|O (qd (!c)) J<|q9 J<|qn ?_
 obtain rfl:=qc b
 exact qz (qd (!c)) J
theorem qk8 (c : List qg) (r : Int) (a : q5e c = some r) : Pure Tryz.prog tab 79 [.sl 4 (c.map qk)] (G r):=by
 unfold q5e at a
 refine Q8 Tryz.func79 J (by kernel_rfl) (by kernel_rfl) J<|qb<|q9 J<|q8<|qe<|qb<|U J<|Qc J<|O (.d (.bool (decide ((c.length : Int) > 400)))) J<|q8 ?_
 refine ql J a (fun _ a=>?_) (fun _ a=>?_)
 ·refine qb<|q9 J<|qn ?_
  obtain rfl:=qc a
  exact qz (q0 4) J
 refine qj<|qe<|qb<|U J ?_
 obtain ⟨o,p,a⟩:=q7 a
 refine qs (qv2 c (fun g=>q22 g) 106 [] (fun g r hr=>qsy g r hr) o p) J<|q8 ?_
 refine ql J a (fun _ a=>?_) (fun _ a=>?_)
 ·refine qb<|q9 J<|qn ?_
  obtain rfl:=qc a
  exact qz (q0 8) J
 refine qj<|qe<|qb<|U J ?_
 obtain ⟨f,q,a⟩:=q7 a
 refine qs (qkb c f q) J<|U J<|O (.d (.sl 4 (f.1.map qk))) J<|O (q0 f.2) J<|q9 J<|q9 J<|qm<|U J<|O (qd (f.2 != 0)) J ?_
 obtain ⟨s,b,a⟩:=q7 a
 refine qx 6 (fun A st=>∃ (j k l m n : V),st = A [(22,qd s),(21,n),(20,m),(19,l),(18,k),(17,j)]) ?_ ?_
 ·refine qw J J b (fun b=>?_) (fun b=>?_)
  ·refine qa J<|qa J<|qa J<|qa J<|O (qd true) J<|q8 ?_
   obtain rfl:=qc b
   exact ⟨_,_,_,_,_,J⟩
  refine U J<|U J ?_
  obtain ⟨h,t,b⟩:=q7 b
  refine qs (qkz f.1 c h t) J<|O (qd (!h)) J<|O (qd (!h)) J<|q8 ?_
  obtain rfl:=qc b
  exact ⟨_,_,_,_,_,J⟩
 rintro _ ⟨j,k,l,m,n,rfl⟩
 refine q8 ?_
 refine ql J a (fun _ a=>?_) (fun _ a=>?_)
 ·refine qb<|q9 J<|qn ?_
  obtain rfl:=qc a
  exact qz (q0 8) J
 refine qj<|qb<|q9 J<|qn ?_
 obtain rfl:=qc a
 exact qz (q0 0) J
theorem qt8 (b : List qg) (c : List qg) (r : Int) (a : q83 b c = some r) : Pure Tryz.prog tab 116 [.sl 4 (b.map qk),.sl 4 (c.map qk)] (G r):=by
 unfold q83 at a
 refine Q8 Tryz.func116 J (by kernel_rfl) (by kernel_rfl) J<|qb<|q9 J<|q8<|qe<|qb<|U J ?_
 obtain ⟨d,g,a⟩:=q7 a
 refine qs (qk8 b d g) J<|q9 J<|qm<|U J<|O (qd (d != 0)) J<|q8 ?_
 refine ql J a (fun _ a=>?_) (fun _ a=>?_)
 ·refine qb<|U J<|q9 J<|qn ?_
  obtain rfl:=qc a
  exact qz (q0 d) J
 refine qj<|qb<|U J ?_
 obtain ⟨f,h,a⟩:=q7 a
 refine qs (qk8 c f h) J<|q9 J<|qn ?_
 obtain rfl:=qc a
 exact qz (q0 f) J
theorem qen (b : List qg) (c : List qg) (p2 : List qh→List qh→Option (List qh × Int)) (p2F : FuncId) (p2C : List DV) (p2Ok : ∀ (x0 : List qh) (x1 : List qh) (r : List qh × Int),p2 x0 x1 = some r→Pure Tryz.prog tab p2F ([.sl 2 (x0.map qv),.sl 2 (x1.map qv)] ++ p2C) (.tup [.sl 2 (r.1.map qv),G r.2])) (r : List qg × Int) (p : q3f b c p2 = some r) : Pure Tryz.prog tab 87 [.sl 4 (b.map qk),.sl 4 (c.map qk),.fn p2F p2C] (.tup [.sl 4 (r.1.map qk),G r.2]):=by
 unfold q3f at p
 refine Q8 Tryz.func87 J (by kernel_rfl) (by kernel_rfl) J<|qb<|Qg (.ref 0 1 0 0) (.dat 1 [[.fn p2F p2C]]) J<|Qo J J<|Qo J J<|q8<|qe<|qb<|U J<|U J ?_
 obtain ⟨r1,h2,p⟩:=q7 p
 refine qs (qt8 b c r1 h2) J<|q9 J<|qm<|U J<|O (qd (r1 != 0)) J<|q8 ?_
 refine ql J p (fun _ p=>?_) (fun _ p=>?_)
 ·refine qb<|U J<|Q6 1 (.dat 1 [[.nilsl]]) J<|Q6 2 (.dat 1 [[G r1]]) J<|qn ?_
  obtain rfl:=qc p
  exact finD (.inr J) (v:=.d (.tup [.nilsl,G r1])) J J (Kr (.cons (.nil _) (.cons (.refl _) .nil)))
 refine qj<|qb<|Qo J J<|q8<|qe<|qb<|U J<|U J<|Qg (.hs 4 1 0 [b,c].length) (.dat 1 ([b,c].map Qz)) J ?_
 obtain ⟨cb,q,p⟩:=q7 p
 refine q4z [.hs 4 1 0 [b,c].length] (fun j=>j = cb) (fun (j : List Int)=>⟨[(5,.ref 0 1 0 0),(6,.ref 1 1 0 0),(7,.ref 2 1 0 0),(9,.ref 3 4 0 0),(22,.fn 135 [.ref 4 1 0 0,.ref 5 1 0 0])],[(0,.dat 1 [[.fn p2F p2C]]),(1,.dat 1 [[.nilsl]]),(2,.dat 1 [[G 0]]),(3,.dat 4 [[.nilsl,.nilsl,G 0,G 0]]),(4,.cel 1 [[.d (.sl 1 (j.map (eI .i64)))]]),(5,.cel 1 [[.hs 6 1 0 [b,c].length]]),(6,.dat 1 ([b,c].map Qz))],7⟩) J J Tryz.func117 J (by kernel_rfl) (by kernel_rfl) J ?_ ?_
 ·refine qb<|Qg (.ref 5 1 0 0) (.cel 1 [[.hs 4 1 0 [b,c].length]]) J<|q9 J<|qm<|Qo J J<|q8<|qe<|qb<|O (.hs 4 1 0 [b,c].length) J<|O (q0 2) J<|U J<|q8<|qu<|Kw<|qb<|O (qd true) J<|q8<|qe<|Yn J<|qj<|qe ?_
  obtain ⟨cc,ap,q⟩:=q7 q
  refine Qb (fun an=>an = cc) (fun (an : List Int)=>⟨[(1,.ref 5 1 0 0),(3,.ref 6 1 0 0),(8,.hs 4 1 0 [b,c].length),(9,q0 2),(10,q0 0)],[(0,.dat 1 [[.fn p2F p2C]]),(1,.dat 1 [[.nilsl]]),(2,.dat 1 [[G 0]]),(3,.dat 4 [[.nilsl,.nilsl,G 0,G 0]]),(4,.dat 1 ([b,c].map Qz)),(5,.cel 1 [[.hs 4 1 0 [b,c].length]]),(6,.cel 1 [[.hs 7 1 0 an.length]]),(7,.dat 1 (an.map (eI .i64)))],8⟩) (by simp) ?_ ?_
  ·refine qb ?_
   obtain ⟨aq,bi,ap⟩:=q7 ap
   refine qq bi J J<|Q1 (.d (.sl 4 (aq.map qk))) bi J<|q9 J<|qm<|U J<|Qc J<|U J<|q8 ?_
   obtain ⟨cd,ce,ap⟩:=q7 ap
   refine qu<|Q7 (qba aq) (fun (ae : Int × List Int)=>⟨[(1,.ref 5 1 0 0),(3,.ref 6 1 0 0),(8,.hs 4 1 0 [b,c].length),(9,q0 2),(10,q0 0),(14,.d (.sl 4 (aq.map qk))),(15,q0 (aq.length : Int)),(16,q0 ae.1)],[(0,.dat 1 [[.fn p2F p2C]]),(1,.dat 1 [[.nilsl]]),(2,.dat 1 [[G 0]]),(3,.dat 4 [[.nilsl,.nilsl,G 0,G 0]]),(4,.dat 1 ([b,c].map Qz)),(5,.cel 1 [[.hs 4 1 0 [b,c].length]]),(6,.cel 1 [[.hs 7 1 0 ae.2.length]]),(7,.dat 1 (ae.2.map (eI .i64)))],8⟩) (0,[]) cd ce (wkA [(5,5),(6,6)] [] [7]) ?_
   intro ae dx z
   unfold qba at z
   refine qb<|O (.d (.bool (decide (ae.1 < (aq.length : Int))))) J<|q8<|qe ?_
   refine ql J z (fun _ z=>?_) (fun _ z=>?_)
   ·refine qj<|qe<|qu<|qb ?_
    obtain ⟨k,cf,z⟩:=q7 z
    refine Q4 (enc:=qk) cf J<|O (.d (.agg [G k.X0,G k.Y0,G k.X1,G k.Y1])) J<|Qo J J<|Q6 8 (.dat 4 [[G k.X0,G k.Y0,G k.X1,G k.Y1]]) J<|q8<|qt<|O (.hs 7 1 0 ae.2.length) J<|O (.ref 8 4 0 0) J<|O (q0 k.X0) J<|O (.ref 8 4 0 2) J<|O (q0 k.X1) J<|Qg (.hs 9 1 0 [k.X0,k.X1].length) (.dat 1 ([k.X0,k.X1].map (eI .i64))) J ?_
    obtain ⟨cg,ch,z⟩:=q7 z
    refine Ka (xs:=ae.2) (ys:=[k.X0,k.X1]) (enc:=(eI .i64)) (.hs 9 1 0 [k.X0,k.X1].length) ch J J J J J J J (K9 J J) J J J J<|Q6 6 (.cel 1 [[.hs 10 1 0 cg.length]]) J<|qr<|Qa<|qt<|O (.d (G (w64 (ae.1 + 1)))) J<|U J<|qr ?_
    exact ⟨_,(Option.some.inj z).symm,wkA [(5,5),(6,6),(7,10)] [] []⟩
   refine Q2 ?_
   refine ⟨_,(Option.some.inj z).symm,fun hm=>?_⟩
   subst hm
   obtain rfl:=qc ap
   exact ⟨_,J,wkA [(5,5),(6,6),(7,7)] [] []⟩
  intro an hb
  subst hb
  refine qt<|O (q0 1) J<|U J<|q8<|Kw<|qb<|O (qd true) J<|q8<|qe<|Yn J<|qj<|qe ?_
  obtain ⟨ci,ar,q⟩:=q7 q
  refine Qb (fun s=>s = ci) (fun (s : List Int)=>⟨[(1,.ref 5 1 0 0),(3,.ref 6 1 0 0),(8,.hs 4 1 0 [b,c].length),(9,q0 2),(10,q0 1)],[(0,.dat 1 [[.fn p2F p2C]]),(1,.dat 1 [[.nilsl]]),(2,.dat 1 [[G 0]]),(3,.dat 4 [[.nilsl,.nilsl,G 0,G 0]]),(4,.dat 1 ([b,c].map Qz)),(5,.cel 1 [[.hs 4 1 0 [b,c].length]]),(6,.cel 1 [[.hs 7 1 0 s.length]]),(7,.dat 1 (s.map (eI .i64)))],8⟩) (by simp) ?_ ?_
  ·refine qb ?_
   obtain ⟨au,bj,ar⟩:=q7 ar
   refine qq bj J J<|Q1 (.d (.sl 4 (au.map qk))) bj J<|q9 J<|qm<|U J<|Qc J<|U J<|q8 ?_
   obtain ⟨cj,ck,ar⟩:=q7 ar
   refine qu<|Q7 (qbb au) (fun (af : Int × List Int)=>⟨[(1,.ref 5 1 0 0),(3,.ref 6 1 0 0),(8,.hs 4 1 0 [b,c].length),(9,q0 2),(10,q0 1),(14,.d (.sl 4 (au.map qk))),(15,q0 (au.length : Int)),(16,q0 af.1)],[(0,.dat 1 [[.fn p2F p2C]]),(1,.dat 1 [[.nilsl]]),(2,.dat 1 [[G 0]]),(3,.dat 4 [[.nilsl,.nilsl,G 0,G 0]]),(4,.dat 1 ([b,c].map Qz)),(5,.cel 1 [[.hs 4 1 0 [b,c].length]]),(6,.cel 1 [[.hs 7 1 0 af.2.length]]),(7,.dat 1 (af.2.map (eI .i64)))],8⟩) (0,an) cj ck (wkA [(5,5),(6,6),(7,7)] [] []) ?_
   intro af dy aa
   unfold qbb at aa
   refine qb<|O (.d (.bool (decide (af.1 < (au.length : Int))))) J<|q8<|qe ?_
   refine ql J aa (fun _ aa=>?_) (fun _ aa=>?_)
   ·refine qj<|qe<|qu<|qb ?_
    obtain ⟨l,cl,aa⟩:=q7 aa
    refine Q4 (enc:=qk) cl J<|O (.d (.agg [G l.X0,G l.Y0,G l.X1,G l.Y1])) J<|Qo J J<|Q6 8 (.dat 4 [[G l.X0,G l.Y0,G l.X1,G l.Y1]]) J<|q8<|qt<|O (.hs 7 1 0 af.2.length) J<|O (.ref 8 4 0 0) J<|O (q0 l.X0) J<|O (.ref 8 4 0 2) J<|O (q0 l.X1) J<|Qg (.hs 9 1 0 [l.X0,l.X1].length) (.dat 1 ([l.X0,l.X1].map (eI .i64))) J ?_
    obtain ⟨cm,cn,aa⟩:=q7 aa
    refine Ka (xs:=af.2) (ys:=[l.X0,l.X1]) (enc:=(eI .i64)) (.hs 9 1 0 [l.X0,l.X1].length) cn J J J J J J J (K9 J J) J J J J<|Q6 6 (.cel 1 [[.hs 10 1 0 cm.length]]) J<|qr<|Qa<|qt<|O (.d (G (w64 (af.1 + 1)))) J<|U J<|qr ?_
    exact ⟨_,(Option.some.inj aa).symm,wkA [(5,5),(6,6),(7,10)] [] []⟩
   refine Q2 ?_
   refine ⟨_,(Option.some.inj aa).symm,fun hm=>?_⟩
   subst hm
   obtain rfl:=qc ar
   exact ⟨_,J,wkA [(5,5),(6,6),(7,7)] [] []⟩
  intro s hb
  subst hb
  refine qt<|O (q0 2) J<|U J<|q8<|Kw<|qb<|O (qd false) J<|q8<|qe<|Ym J<|Q2<|J0<|qb<|O (.hs 7 1 0 s.length) J ?_
  obtain ⟨bf,co,q⟩:=q7 q
  obtain ⟨dz,cp,q⟩:=q7 q
  have cq:=Qy cp
  refine Qr [(0,7)] [(0,1),(1,1),(2,1),(3,1),(4,1),(5,1),(6,1),(7,0)] [.hs 7 1 0 s.length] (.d (.tup [])) 1 [(7,.dat 1 (bf.map (eI .i64))),(0,.dat 1 [[.fn p2F p2C]]),(1,.dat 1 [[.nilsl]]),(2,.dat 1 [[G 0]]),(3,.dat 4 [[.nilsl,.nilsl,G 0,G 0]]),(4,.dat 1 ([b,c].map Qz)),(5,.cel 1 [[.hs 4 1 0 [b,c].length]]),(6,.cel 1 [[.hs 7 1 0 s.length]])] 8 (qbo s bf co)<|qm<|O (.hs 7 1 0 s.length) J ?_
  obtain ⟨ak,cr,q⟩:=q7 q
  obtain ⟨fa,cs,q⟩:=q7 q
  have fb:=Qy cs
  obtain ⟨fc,ct,q⟩:=q7 q
  have cu:=qca ct
  refine J7 [(0,7)] [(0,1),(1,1),(2,1),(3,1),(4,1),(5,1),(6,1),(7,0)] [.hs 7 1 0 s.length] (.hs 7 1 ak.1.1 ak.1.2) [(7,.dat 1 (ak.2.map (eI .i64)))] [(7,.dat 1 (ak.2.map (eI .i64))),(0,.dat 1 [[.fn p2F p2C]]),(1,.dat 1 [[.nilsl]]),(2,.dat 1 [[G 0]]),(3,.dat 4 [[.nilsl,.nilsl,G 0,G 0]]),(4,.dat 1 ([b,c].map Qz)),(5,.cel 1 [[.hs 4 1 0 [b,c].length]]),(6,.cel 1 [[.hs 7 1 0 s.length]])] 8 (qbh bf ak cr) J J J (Ko [(0,7)] [] [] J ⟨⟨_,J,Qp (by simp [cq]) J (by decide) (ltd J)⟩,trivial⟩ ⟨⟨ltd J,.inr ⟨by decide,_,J,.dat _ _⟩⟩,trivial⟩) (Ko [(0,1),(1,1),(2,1),(3,1),(4,1),(5,1),(6,1),(7,0)] [] [] J ⟨⟨_,J,.hs J (by decide) (ltd J)⟩,trivial⟩ ⟨⟨ltd J,.inr ⟨by decide,_,J,.dat _ _⟩⟩,trivial⟩) J ⟨.inl J,.inr ⟨J,J⟩,.inr ⟨J,J⟩,.inr ⟨J,J⟩,.inr ⟨J,J⟩,.inr ⟨J,J⟩,.inr ⟨J,J⟩,.inr ⟨J,J⟩,trivial⟩<|Q6 6 (.cel 1 [[.hs 7 1 ak.1.1 ak.1.2]]) J<|qm<|O (.fn 135 [.ref 6 1 0 0,.ref 5 1 0 0]) J<|q9 J<|qn ?_
  refine ⟨.inr J,_,J,?_⟩
  obtain rfl:=qc q
  exact ⟨_,J,wkE [(0,0),(1,1),(2,2),(3,3),(4,6),(5,5),(6,4)] [7] [] J ⟨⟨_,J,.ref J (by decide) (ltd J)⟩,⟨_,J,.ref J (by decide) (ltd J)⟩,⟨_,J,.ref J (by decide) (ltd J)⟩,⟨_,J,.ref J (by decide) (ltd J)⟩,⟨_,J,(q1d (.cons (.ref J (by decide) (ltd J)) (.cons (.ref J (by decide) (ltd J)) .nil)))⟩,trivial⟩ ⟨⟨ltd J,.inr ⟨by decide,_,J,.dat _ _⟩⟩,⟨ltd J,.inr ⟨by decide,_,J,.dat _ _⟩⟩,⟨ltd J,.inr ⟨by decide,_,J,.dat _ _⟩⟩,⟨ltd J,.inr ⟨by decide,_,J,.dat _ _⟩⟩,⟨ltd J,.inr ⟨by decide,_,J,Zs (.cons (qcc cu J (by decide)) J .nil)⟩⟩,⟨ltd J,.inr ⟨by decide,_,J,Zs (.cons (.hs J (by decide) (ltd J)) J .nil)⟩⟩,⟨ltd J,.inr ⟨by decide,_,J,.dat _ _⟩⟩,trivial⟩⟩
 intro j hb
 subst hb
 refine q8<|qu ?_
 obtain ⟨cv,bd,p⟩:=q7 p
 refine q85 (fun t=>.inl t = cv) (fun (t : List qh × Int × Int × List qg)=>⟨[(6,.ref 0 1 0 0),(7,.ref 1 1 0 0),(9,.ref 2 4 0 0)],[(0,.dat 1 [[.nilsl]]),(1,.dat 1 [[G 0]]),(2,.cel 4 [[.hs 3 4 0 t.2.2.2.length,.d (.sl 2 (t.1.map qv)),q0 t.2.1,q0 t.2.2.1]]),(3,.dat 4 (t.2.2.2.map qk))],4⟩) ?_ ?_
 ·refine Kn (st':=⟨[(5,.ref 0 1 0 0),(6,.ref 1 1 0 0),(7,.ref 2 1 0 0),(9,.ref 3 4 0 0),(22,.fn 135 [.ref 4 1 0 0,.ref 5 1 0 0])],[(0,.dat 1 [[.fn p2F p2C]]),(1,.dat 1 [[.nilsl]]),(2,.dat 1 [[G 0]]),(3,.dat 4 [[.nilsl,.nilsl,G 0,G 0]]),(4,.cel 1 [[.d (.sl 1 (j.map (eI .i64)))]]),(5,.cel 1 [[.hs 6 1 0 [b,c].length]]),(6,.dat 1 ([b,c].map Qz))],7⟩) (wkA [(0,0),(1,1),(2,2),(3,3),(4,4),(5,5),(6,6)] [] []) ?_ (by simp)
  refine q86 [.ref 4 1 0 0,.ref 5 1 0 0] (.inl J) Tryz.func135 J (by kernel_rfl) (by kernel_rfl) J ?_
  intro A1439 B1440 hA1439 hB1440
  refine qb<|q9 J<|q8 ?_
  obtain ⟨cw,cx,bd⟩:=q7 bd
  refine qu<|Q7 (q3g j b c p2) (fun (a : Int × List qh × Int × Int × List qg)=>⟨[(0,.yld 7),(1,.ref 4 1 0 0),(2,.ref 5 1 0 0),(4,q0 a.1)],[(0,.dat 1 [[.fn p2F p2C]]),(1,.dat 1 [[.nilsl]]),(2,.dat 1 [[G 0]]),(3,.cel 4 [[.hs 8 4 0 a.2.2.2.2.length,.d (.sl 2 (a.2.1.map qv)),q0 a.2.2.1,q0 a.2.2.2.1]]),(4,.cel 1 [[.d (.sl 1 (j.map (eI .i64)))]]),(5,.cel 1 [[.hs 6 1 0 [b,c].length]]),(6,.dat 1 ([b,c].map Qz)),(7,.loop [(5,.ref 0 1 0 0),(6,.ref 1 1 0 0),(7,.ref 2 1 0 0),(9,.ref 3 4 0 0),(22,.fn 135 [.ref 4 1 0 0,.ref 5 1 0 0])] [23] A1439 B1440 .ready none),(8,.dat 4 (a.2.2.2.2.map qk))],9⟩) (1,[],0,0,[]) cw cx (wkA [] [] [8]) ?_
  intro a fd o
  unfold q3g at o
  refine qe<|qb<|U J<|O (.d (.sl 1 (j.map (eI .i64)))) J<|Qc J<|O (.d (.bool (decide (a.1 < (j.length : Int))))) J<|q8 ?_
  refine ql J o (fun _ o=>?_) (fun _ o=>?_)
  ·refine qj<|qe<|qu<|qe<|Q5 [Qe 10,(some [],[10]),q6,(some [],[9]),q6,qo 5,q6,q6,q6,qo 4,q6,q6,q6,q6,qo 4] (by kernel_rfl)<|O (.d (.sl 1 (j.map (eI .i64)))) J<|U J<|O (.d (G (w64 (a.1 - 1)))) J ?_
   obtain ⟨f,cy,o⟩:=q7 o
   refine Q4 (enc:=(eI .i64)) cy J<|O (q0 f) J<|O (.d (.sl 1 (j.map (eI .i64)))) J<|U J ?_
   obtain ⟨m,cz,o⟩:=q7 o
   refine Q4 (enc:=(eI .i64)) cz J<|O (q0 m) J<|O (.hs 6 1 0 [b,c].length) J<|O (q0 2) J<|Qg (.hs 9 1 0 2) (.dat 1 [[.nilsl],[.nilsl]]) J<|O (.agg [q0 f,q0 m,.hs 9 1 0 2]) J<|Qo J J<|Q6 10 (.cel 3 [[q0 f,q0 m,.hs 9 1 0 2]]) J<|q8<|qe<|qb<|O (.hs 6 1 0 [b,c].length) J<|O (q0 2) J<|U J<|q8<|qu<|Kw<|qb<|O (qd true) J<|q8<|qe<|Yn J<|qj<|qe ?_
   obtain ⟨da,av,o⟩:=q7 o
   refine Qb (fun n=>n = da) (fun (n : List qh)=>⟨[(0,.yld 7),(1,.ref 4 1 0 0),(2,.ref 5 1 0 0),(4,q0 a.1),(5,.ref 8 3 0 0),(29,.hs 6 1 0 [b,c].length),(30,q0 2),(31,q0 0)],[(0,.dat 1 [[.fn p2F p2C]]),(1,.dat 1 [[.nilsl]]),(2,.dat 1 [[G 0]]),(3,.cel 4 [[.hs 9 4 0 a.2.2.2.2.length,.d (.sl 2 (a.2.1.map qv)),q0 a.2.2.1,q0 a.2.2.2.1]]),(4,.cel 1 [[.d (.sl 1 (j.map (eI .i64)))]]),(5,.cel 1 [[.hs 6 1 0 [b,c].length]]),(6,.dat 1 ([b,c].map Qz)),(7,.loop [(5,.ref 0 1 0 0),(6,.ref 1 1 0 0),(7,.ref 2 1 0 0),(9,.ref 3 4 0 0),(22,.fn 135 [.ref 4 1 0 0,.ref 5 1 0 0])] [23] A1439 B1440 .ready none),(8,.cel 3 [[q0 f,q0 m,.hs 10 1 0 2]]),(9,.dat 4 (a.2.2.2.2.map qk)),(10,.cel 1 [[.hs 11 2 0 n.length],[.d (.nilsl)]]),(11,.dat 2 (n.map qv))],12⟩) (by simp) ?_ ?_
   ·refine qb<|U J ?_
    obtain ⟨al,bk,av⟩:=q7 av
    refine qq bk J J<|Q1 (.d (.sl 4 (al.map qk))) bk J<|q9 J<|q9 J<|qm<|U J<|Qc J<|U J<|q8 ?_
    obtain ⟨dc,dd,av⟩:=q7 av
    refine qu<|Q7 (qbc al f) (fun (ab : Int × List qh)=>⟨[(0,.yld 7),(1,.ref 4 1 0 0),(2,.ref 5 1 0 0),(4,q0 a.1),(5,.ref 8 3 0 0),(6,q0 0),(29,.hs 6 1 0 [b,c].length),(30,q0 2),(31,q0 0),(36,.d (.sl 4 (al.map qk))),(37,q0 (al.length : Int)),(38,q0 ab.1)],[(0,.dat 1 [[.fn p2F p2C]]),(1,.dat 1 [[.nilsl]]),(2,.dat 1 [[G 0]]),(3,.cel 4 [[.hs 9 4 0 a.2.2.2.2.length,.d (.sl 2 (a.2.1.map qv)),q0 a.2.2.1,q0 a.2.2.2.1]]),(4,.cel 1 [[.d (.sl 1 (j.map (eI .i64)))]]),(5,.cel 1 [[.hs 6 1 0 [b,c].length]]),(6,.dat 1 ([b,c].map Qz)),(7,.loop [(5,.ref 0 1 0 0),(6,.ref 1 1 0 0),(7,.ref 2 1 0 0),(9,.ref 3 4 0 0),(22,.fn 135 [.ref 4 1 0 0,.ref 5 1 0 0])] [23] A1439 B1440 .ready none),(8,.cel 3 [[q0 f,q0 m,.hs 10 1 0 2]]),(9,.dat 4 (a.2.2.2.2.map qk)),(10,.cel 1 [[.hs 11 2 0 ab.2.length],[.d (.nilsl)]]),(11,.dat 2 (ab.2.map qv))],12⟩) (0,[]) dc dd (wkA [(8,10),(9,8),(10,9)] [] [11]) ?_
    intro ab fe ag
    unfold qbc at ag
    refine qb<|O (.d (.bool (decide (ab.1 < (al.length : Int))))) J<|q8<|qe ?_
    refine ql J ag (fun _ ag=>?_) (fun _ ag=>?_)
    ·refine qj<|qe ?_
     obtain ⟨de,x,ag⟩:=q7 ag
     refine Qb (fun aw=>aw = de) (fun (aw : List qh)=>⟨[(0,.yld 7),(1,.ref 4 1 0 0),(2,.ref 5 1 0 0),(4,q0 a.1),(5,.ref 8 3 0 0),(6,q0 0),(29,.hs 6 1 0 [b,c].length),(30,q0 2),(31,q0 0),(36,.d (.sl 4 (al.map qk))),(37,q0 (al.length : Int)),(38,q0 ab.1)],[(0,.dat 1 [[.fn p2F p2C]]),(1,.dat 1 [[.nilsl]]),(2,.dat 1 [[G 0]]),(3,.cel 4 [[.hs 9 4 0 a.2.2.2.2.length,.d (.sl 2 (a.2.1.map qv)),q0 a.2.2.1,q0 a.2.2.2.1]]),(4,.cel 1 [[.d (.sl 1 (j.map (eI .i64)))]]),(5,.cel 1 [[.hs 6 1 0 [b,c].length]]),(6,.dat 1 ([b,c].map Qz)),(7,.loop [(5,.ref 0 1 0 0),(6,.ref 1 1 0 0),(7,.ref 2 1 0 0),(9,.ref 3 4 0 0),(22,.fn 135 [.ref 4 1 0 0,.ref 5 1 0 0])] [23] A1439 B1440 .ready none),(8,.cel 3 [[q0 f,q0 m,.hs 10 1 0 2]]),(9,.dat 4 (a.2.2.2.2.map qk)),(10,.cel 1 [[.hs 11 2 0 aw.length],[.d (.nilsl)]]),(11,.dat 2 (aw.map qv))],12⟩) (by simp) ?_ ?_
     ·refine qb ?_
      obtain ⟨g,df,x⟩:=q7 x
      refine Q4 (enc:=qk) df J<|O (.d (.agg [G g.X0,G g.Y0,G g.X1,G g.Y1])) J<|Qo J J<|Q6 12 (.dat 4 [[G g.X0,G g.Y0,G g.X1,G g.Y1]]) J<|qm<|O (.ref 12 4 0 0) J<|O (q0 g.X0) J<|O (.ref 8 3 0 0) J<|O (q0 f) J<|O (.d (.bool (decide (g.X0≤f)))) J ?_
      obtain ⟨dg,ax,x⟩:=q7 x
      refine qx 7 (fun A st=>∃ (bl bm bn bo bp bq : V),st = A [(53,qd dg),(52,bq),(51,bp),(50,bo),(49,bn),(48,bm),(47,bl)]) ?_ ?_
      ·refine qw J J ax (fun ax=>?_) (fun ax=>?_)
       ·refine O (.ref 8 3 0 0) J<|O (q0 f) J<|O (.ref 12 4 0 2) J<|O (q0 g.X1) J<|O (.d (.bool (decide (f < g.X1)))) J<|O (.d (.bool (decide (f < g.X1)))) J<|q8 ?_
        obtain rfl:=qc ax
        exact ⟨_,_,_,_,_,_,J⟩
       refine qa J<|qa J<|qa J<|qa J<|qa J<|O (qd false) J<|q8 ?_
       obtain rfl:=qc ax
       exact ⟨_,_,_,_,_,_,J⟩
      rintro _ ⟨bl,bm,bn,bo,bp,bq,rfl⟩
      refine q8 ?_
      refine ql J x (fun _ x=>?_) (fun _ x=>?_)
      ·refine Q5 [Qe 10,q6,(some [11,13],[11,14]),(some [],[13]),q6,qo 12,q6,qo 12,q6,qo 10,q6,q6,qo 8,q6,q6,qo 8,q6] (by kernel_rfl)<|O (.ref 8 3 0 2) J<|O (.hs 10 1 0 2) J<|U J<|O (.ref 8 3 0 2) J<|O (.hs 10 1 0 2) J<|U J<|O (.ref 10 1 0 0) J<|O (.hs 11 2 0 ab.2.length) J<|O (.ref 12 4 0 1) J<|O (q0 g.Y0) J<|O (.ref 12 4 0 3) J<|O (q0 g.Y1) J<|O (.d (.agg [G g.Y0,G g.Y1])) J<|Qg (.hs 13 2 0 [({Lo:=g.Y0,Hi:=g.Y1} : qh)].length) (.dat 2 ([({Lo:=g.Y0,Hi:=g.Y1} : qh)].map qv)) J ?_
       obtain ⟨dh,dj,x⟩:=q7 x
       refine Ka (xs:=ab.2) (ys:=[({Lo:=g.Y0,Hi:=g.Y1} : qh)]) (enc:=qv) (.hs 13 2 0 [({Lo:=g.Y0,Hi:=g.Y1} : qh)].length) dj J J J J J J J (K9 J J) J J J J<|O (.ref 10 1 0 0) J<|Q6 10 (.cel 1 [[.hs 14 2 0 dh.length],[.d (.nilsl)]]) J<|qr ?_
       obtain rfl:=qc x
       exact ⟨_,J,wkA [(8,8),(9,9),(10,10),(11,14)] [] []⟩
      refine qj<|Q9 ?_
      obtain rfl:=qc x
      exact ⟨_,J,wkA [(8,8),(9,9),(10,10),(11,11)] [] []⟩
     intro aw hb
     subst hb
     refine qt<|O (.d (G (w64 (ab.1 + 1)))) J<|U J<|qr ?_
     exact ⟨_,(Option.some.inj ag).symm,wkA [(8,8),(9,9),(10,10),(11,11)] [] []⟩
    refine Q2 ?_
    refine ⟨_,(Option.some.inj ag).symm,fun hm=>?_⟩
    subst hm
    obtain rfl:=qc av
    exact ⟨_,J,wkA [(8,8),(9,9),(10,10),(11,11)] [] []⟩
   intro n hb
   subst hb
   refine qt<|O (q0 1) J<|U J<|q8<|Kw<|qb<|O (qd true) J<|q8<|qe<|Yn J<|qj<|qe ?_
   obtain ⟨dk,ay,o⟩:=q7 o
   refine Qb (fun u=>u = dk) (fun (u : List qh)=>⟨[(0,.yld 7),(1,.ref 4 1 0 0),(2,.ref 5 1 0 0),(4,q0 a.1),(5,.ref 8 3 0 0),(29,.hs 6 1 0 [b,c].length),(30,q0 2),(31,q0 1)],[(0,.dat 1 [[.fn p2F p2C]]),(1,.dat 1 [[.nilsl]]),(2,.dat 1 [[G 0]]),(3,.cel 4 [[.hs 9 4 0 a.2.2.2.2.length,.d (.sl 2 (a.2.1.map qv)),q0 a.2.2.1,q0 a.2.2.2.1]]),(4,.cel 1 [[.d (.sl 1 (j.map (eI .i64)))]]),(5,.cel 1 [[.hs 6 1 0 [b,c].length]]),(6,.dat 1 ([b,c].map Qz)),(7,.loop [(5,.ref 0 1 0 0),(6,.ref 1 1 0 0),(7,.ref 2 1 0 0),(9,.ref 3 4 0 0),(22,.fn 135 [.ref 4 1 0 0,.ref 5 1 0 0])] [23] A1439 B1440 .ready none),(8,.cel 3 [[q0 f,q0 m,.hs 10 1 0 2]]),(9,.dat 4 (a.2.2.2.2.map qk)),(10,.cel 1 [[.hs 11 2 0 n.length],[.hs 12 2 0 u.length]]),(11,.dat 2 (n.map qv)),(12,.dat 2 (u.map qv))],13⟩) (by simp) ?_ ?_
   ·refine qb<|U J ?_
    obtain ⟨am,br,ay⟩:=q7 ay
    refine qq br J J<|Q1 (.d (.sl 4 (am.map qk))) br J<|q9 J<|q9 J<|qm<|U J<|Qc J<|U J<|q8 ?_
    obtain ⟨dl,dm,ay⟩:=q7 ay
    refine qu<|Q7 (qbd am f) (fun (ac : Int × List qh)=>⟨[(0,.yld 7),(1,.ref 4 1 0 0),(2,.ref 5 1 0 0),(4,q0 a.1),(5,.ref 8 3 0 0),(6,q0 1),(29,.hs 6 1 0 [b,c].length),(30,q0 2),(31,q0 1),(36,.d (.sl 4 (am.map qk))),(37,q0 (am.length : Int)),(38,q0 ac.1)],[(0,.dat 1 [[.fn p2F p2C]]),(1,.dat 1 [[.nilsl]]),(2,.dat 1 [[G 0]]),(3,.cel 4 [[.hs 9 4 0 a.2.2.2.2.length,.d (.sl 2 (a.2.1.map qv)),q0 a.2.2.1,q0 a.2.2.2.1]]),(4,.cel 1 [[.d (.sl 1 (j.map (eI .i64)))]]),(5,.cel 1 [[.hs 6 1 0 [b,c].length]]),(6,.dat 1 ([b,c].map Qz)),(7,.loop [(5,.ref 0 1 0 0),(6,.ref 1 1 0 0),(7,.ref 2 1 0 0),(9,.ref 3 4 0 0),(22,.fn 135 [.ref 4 1 0 0,.ref 5 1 0 0])] [23] A1439 B1440 .ready none),(8,.cel 3 [[q0 f,q0 m,.hs 10 1 0 2]]),(9,.dat 4 (a.2.2.2.2.map qk)),(10,.cel 1 [[.hs 11 2 0 n.length],[.hs 12 2 0 ac.2.length]]),(11,.dat 2 (n.map qv)),(12,.dat 2 (ac.2.map qv))],13⟩) (0,[]) dl dm (wkA [(8,8),(9,9),(10,10),(11,11)] [] [12]) ?_
    intro ac ff ah
    unfold qbd at ah
    refine qb<|O (.d (.bool (decide (ac.1 < (am.length : Int))))) J<|q8<|qe ?_
    refine ql J ah (fun _ ah=>?_) (fun _ ah=>?_)
    ·refine qj<|qe ?_
     obtain ⟨dn,y,ah⟩:=q7 ah
     refine Qb (fun az=>az = dn) (fun (az : List qh)=>⟨[(0,.yld 7),(1,.ref 4 1 0 0),(2,.ref 5 1 0 0),(4,q0 a.1),(5,.ref 8 3 0 0),(6,q0 1),(29,.hs 6 1 0 [b,c].length),(30,q0 2),(31,q0 1),(36,.d (.sl 4 (am.map qk))),(37,q0 (am.length : Int)),(38,q0 ac.1)],[(0,.dat 1 [[.fn p2F p2C]]),(1,.dat 1 [[.nilsl]]),(2,.dat 1 [[G 0]]),(3,.cel 4 [[.hs 9 4 0 a.2.2.2.2.length,.d (.sl 2 (a.2.1.map qv)),q0 a.2.2.1,q0 a.2.2.2.1]]),(4,.cel 1 [[.d (.sl 1 (j.map (eI .i64)))]]),(5,.cel 1 [[.hs 6 1 0 [b,c].length]]),(6,.dat 1 ([b,c].map Qz)),(7,.loop [(5,.ref 0 1 0 0),(6,.ref 1 1 0 0),(7,.ref 2 1 0 0),(9,.ref 3 4 0 0),(22,.fn 135 [.ref 4 1 0 0,.ref 5 1 0 0])] [23] A1439 B1440 .ready none),(8,.cel 3 [[q0 f,q0 m,.hs 10 1 0 2]]),(9,.dat 4 (a.2.2.2.2.map qk)),(10,.cel 1 [[.hs 11 2 0 n.length],[.hs 12 2 0 az.length]]),(11,.dat 2 (n.map qv)),(12,.dat 2 (az.map qv))],13⟩) (by simp) ?_ ?_
     ·refine qb ?_
      obtain ⟨h,dp,y⟩:=q7 y
      refine Q4 (enc:=qk) dp J<|O (.d (.agg [G h.X0,G h.Y0,G h.X1,G h.Y1])) J<|Qo J J<|Q6 13 (.dat 4 [[G h.X0,G h.Y0,G h.X1,G h.Y1]]) J<|qm<|O (.ref 13 4 0 0) J<|O (q0 h.X0) J<|O (.ref 8 3 0 0) J<|O (q0 f) J<|O (.d (.bool (decide (h.X0≤f)))) J ?_
      obtain ⟨dq,ba,y⟩:=q7 y
      refine qx 7 (fun A st=>∃ (bs bt bu bv bw bz : V),st = A [(53,qd dq),(52,bz),(51,bw),(50,bv),(49,bu),(48,bt),(47,bs)]) ?_ ?_
      ·refine qw J J ba (fun ba=>?_) (fun ba=>?_)
       ·refine O (.ref 8 3 0 0) J<|O (q0 f) J<|O (.ref 13 4 0 2) J<|O (q0 h.X1) J<|O (.d (.bool (decide (f < h.X1)))) J<|O (.d (.bool (decide (f < h.X1)))) J<|q8 ?_
        obtain rfl:=qc ba
        exact ⟨_,_,_,_,_,_,J⟩
       refine qa J<|qa J<|qa J<|qa J<|qa J<|O (qd false) J<|q8 ?_
       obtain rfl:=qc ba
       exact ⟨_,_,_,_,_,_,J⟩
      rintro _ ⟨bs,bt,bu,bv,bw,bz,rfl⟩
      refine q8 ?_
      refine ql J y (fun _ y=>?_) (fun _ y=>?_)
      ·refine Q5 [Qe 10,q6,(some [12,14],[12,15]),(some [],[14]),q6,qo 13,q6,qo 13,q6,qo 10,q6,q6,qo 8,q6,q6,qo 8,q6] (by kernel_rfl)<|O (.ref 8 3 0 2) J<|O (.hs 10 1 0 2) J<|U J<|O (.ref 8 3 0 2) J<|O (.hs 10 1 0 2) J<|U J<|O (.ref 10 1 1 0) J<|O (.hs 12 2 0 ac.2.length) J<|O (.ref 13 4 0 1) J<|O (q0 h.Y0) J<|O (.ref 13 4 0 3) J<|O (q0 h.Y1) J<|O (.d (.agg [G h.Y0,G h.Y1])) J<|Qg (.hs 14 2 0 [({Lo:=h.Y0,Hi:=h.Y1} : qh)].length) (.dat 2 ([({Lo:=h.Y0,Hi:=h.Y1} : qh)].map qv)) J ?_
       obtain ⟨dr,ds,y⟩:=q7 y
       refine Ka (xs:=ac.2) (ys:=[({Lo:=h.Y0,Hi:=h.Y1} : qh)]) (enc:=qv) (.hs 14 2 0 [({Lo:=h.Y0,Hi:=h.Y1} : qh)].length) ds J J J J J J J (K9 J J) J J J J<|O (.ref 10 1 1 0) J<|Q6 10 (.cel 1 [[.hs 11 2 0 n.length],[.hs 15 2 0 dr.length]]) J<|qr ?_
       obtain rfl:=qc y
       exact ⟨_,J,wkA [(8,8),(9,9),(10,10),(11,11),(12,15)] [] []⟩
      refine qj<|Q9 ?_
      obtain rfl:=qc y
      exact ⟨_,J,wkA [(8,8),(9,9),(10,10),(11,11),(12,12)] [] []⟩
     intro az hb
     subst hb
     refine qt<|O (.d (G (w64 (ac.1 + 1)))) J<|U J<|qr ?_
     exact ⟨_,(Option.some.inj ah).symm,wkA [(8,8),(9,9),(10,10),(11,11),(12,12)] [] []⟩
    refine Q2 ?_
    refine ⟨_,(Option.some.inj ah).symm,fun hm=>?_⟩
    subst hm
    obtain rfl:=qc ay
    exact ⟨_,J,wkA [(8,8),(9,9),(10,10),(11,11),(12,12)] [] []⟩
   intro u hb
   subst hb
   refine qt<|O (q0 2) J<|U J<|q8<|Kw<|qb<|O (qd false) J<|q8<|qe<|Ym J<|Q2<|J0<|qe ?_
   refine Kn (st':=⟨[(0,.yld 7),(1,.ref 4 1 0 0),(2,.ref 5 1 0 0),(4,q0 a.1),(5,.ref 8 3 0 0)],[(0,.dat 1 [[.fn p2F p2C]]),(1,.dat 1 [[.nilsl]]),(2,.dat 1 [[G 0]]),(3,.cel 4 [[.hs 9 4 0 a.2.2.2.2.length,.d (.sl 2 (a.2.1.map qv)),q0 a.2.2.1,q0 a.2.2.2.1]]),(4,.cel 1 [[.d (.sl 1 (j.map (eI .i64)))]]),(5,.cel 1 [[.hs 6 1 0 [b,c].length]]),(6,.dat 1 ([b,c].map Qz)),(7,.loop [(5,.ref 0 1 0 0),(6,.ref 1 1 0 0),(7,.ref 2 1 0 0),(9,.ref 3 4 0 0),(22,.fn 135 [.ref 4 1 0 0,.ref 5 1 0 0])] [23] A1439 B1440 .ready none),(8,.cel 3 [[q0 f,q0 m,.hs 10 1 0 2]]),(9,.dat 4 (a.2.2.2.2.map qk)),(10,.cel 1 [[.d (.sl 2 (n.map qv))],[.hs 11 2 0 u.length]]),(11,.dat 2 (u.map qv))],12⟩) (wkA [(8,8),(9,9),(10,10),(11,12)] [11] []) ?_ (by simp)
   refine Kn (st':=⟨[(0,.yld 7),(1,.ref 4 1 0 0),(2,.ref 5 1 0 0),(4,q0 a.1),(5,.ref 8 3 0 0)],[(0,.dat 1 [[.fn p2F p2C]]),(1,.dat 1 [[.nilsl]]),(2,.dat 1 [[G 0]]),(3,.cel 4 [[.hs 9 4 0 a.2.2.2.2.length,.d (.sl 2 (a.2.1.map qv)),q0 a.2.2.1,q0 a.2.2.2.1]]),(4,.cel 1 [[.d (.sl 1 (j.map (eI .i64)))]]),(5,.cel 1 [[.hs 6 1 0 [b,c].length]]),(6,.dat 1 ([b,c].map Qz)),(7,.loop [(5,.ref 0 1 0 0),(6,.ref 1 1 0 0),(7,.ref 2 1 0 0),(9,.ref 3 4 0 0),(22,.fn 135 [.ref 4 1 0 0,.ref 5 1 0 0])] [23] A1439 B1440 .ready none),(8,.cel 3 [[q0 f,q0 m,.hs 10 1 0 2]]),(9,.dat 4 (a.2.2.2.2.map qk)),(10,.cel 1 [[.d (.sl 2 (n.map qv))],[.d (.sl 2 (u.map qv))]])],11⟩) (wkA [(8,8),(9,9),(10,10)] [11] []) ?_ (by simp)
   refine qt<|U J<|O (.agg [q0 f,q0 m,.hs 10 1 0 2]) J ?_
   obtain ⟨dt,ad,o⟩:=q7 o
   refine q7u (fun ai=>.inl ai = dt) (fun (ai : List qh × Int × Int × List qg)=>⟨[(0,.yld 7),(1,.ref 4 1 0 0),(2,.ref 5 1 0 0),(4,q0 a.1),(74,qd true)],[(0,.dat 1 [[.fn p2F p2C]]),(1,.dat 1 [[.nilsl]]),(2,.dat 1 [[G 0]]),(3,.cel 4 [[.hs 8 4 0 ai.2.2.2.length,.d (.sl 2 (ai.1.map qv)),q0 ai.2.1,q0 ai.2.2.1]]),(4,.cel 1 [[.d (.sl 1 (j.map (eI .i64)))]]),(5,.cel 1 [[.hs 6 1 0 [b,c].length]]),(6,.dat 1 ([b,c].map Qz)),(7,.loop [(5,.ref 0 1 0 0),(6,.ref 1 1 0 0),(7,.ref 2 1 0 0),(9,.ref 3 4 0 0),(22,.fn 135 [.ref 4 1 0 0,.ref 5 1 0 0])] [23] A1439 B1440 .ready none),(8,.dat 4 (ai.2.2.2.map qk))],9⟩) hA1439 hB1440 J J J J J J ?_ ?_
   ·refine qt<|Qo J J<|Q6 11 (.cel 3 [[q0 f,q0 m,.hs 10 1 0 2]]) J<|qr ?_
    refine ⟨J,_,J,?_⟩
    refine qu<|qe<|Q5 [q6,q6,q6,q6,q6,q6,qo 10,q6,qo 11,q6,qo 10,q6,qo 11,q6,qo 0] (by kernel_rfl)<|O (.d (.fn p2F p2C)) J<|O (.ref 11 3 0 2) J<|O (.hs 10 1 0 2) J<|O (.ref 10 1 0 0) J<|O (.d (.sl 2 (n.map qv))) J<|O (.ref 11 3 0 2) J<|O (.hs 10 1 0 2) J<|O (.ref 10 1 1 0) J<|O (.d (.sl 2 (u.map qv))) J ?_
    obtain ⟨aj,du,ad⟩:=q7 ad
    refine Kz [.d (.sl 2 (n.map qv)),.d (.sl 2 (u.map qv))] (p2Ok n u aj du) J J J (.inl J)<|U J<|O (.d (.sl 2 (aj.1.map qv))) J<|O (q0 aj.2) J<|q9 J<|q9 J<|q8<|qe<|qb<|U J<|O (qd (aj.2 != 0)) J<|q8 ?_
    refine ql J ad (fun _ ad=>?_) (fun _ ad=>?_)
    ·refine qb<|U J<|Q6 1 (.dat 1 [[.nilsl]]) J<|Q6 2 (.dat 1 [[G aj.2]]) J<|qn ?_
     obtain rfl:=qc ad
     refine ⟨_,J,?_⟩
     refine O (qd true) J<|q8<|Yn J<|Uz ?_
     refine ⟨_,(Option.some.inj o).symm,fun hm=>?_⟩
     subst hm
     refine ⟨.inr J,_,J,_,_,.ret,J,by decide,?_⟩
     refine qck ?_
     obtain rfl:=qc bd
     obtain rfl:=qc p
     exact finD (.inr J) (v:=.d (.tup [.nilsl,G aj.2])) J J (Kr (.cons (.nil _) (.cons (.refl _) .nil)))
    refine qj<|qt<|O (.ref 11 3 0 0) J<|O (q0 f) J<|O (.ref 11 3 0 1) J<|O (q0 m) J<|U J ?_
    obtain ⟨ao,dv,ad⟩:=q7 ad
    refine Qr [(0,3),(1,9)] [(0,3),(1,3),(2,3),(3,0),(4,3),(5,3),(6,3),(7,3),(8,3),(9,1),(10,3),(11,3),(12,2)] [.ref 3 4 0 0,q0 f,q0 m,.d (.sl 2 (aj.1.map qv))] (.d (.tup [])) 2 [(3,.cel 4 [[.hs 12 4 0 ao.2.2.2.length,.d (.sl 2 (ao.1.map qv)),q0 ao.2.1,q0 ao.2.2.1]]),(12,.dat 4 (ao.2.2.2.map qk)),(0,.dat 1 [[.fn p2F p2C]]),(1,.dat 1 [[.nilsl]]),(2,.dat 1 [[G 0]]),(4,.cel 1 [[.d (.sl 1 (j.map (eI .i64)))]]),(5,.cel 1 [[.hs 6 1 0 [b,c].length]]),(6,.dat 1 ([b,c].map Qz)),(7,.loop [(5,.ref 0 1 0 0),(6,.ref 1 1 0 0),(7,.ref 2 1 0 0),(9,.ref 3 4 0 0),(22,.fn 135 [.ref 4 1 0 0,.ref 5 1 0 0])] [23] A1439 B1440 .busy none),(8,.cel 3 [[q0 f,q0 m,.hs 10 1 0 2]]),(10,.cel 1 [[.d (.sl 2 (n.map qv))],[.d (.sl 2 (u.map qv))]]),(11,.cel 3 [[q0 f,q0 m,.hs 10 1 0 2]])] 13 (qka a.2.2.2.2 a.2.1 a.2.2.1 a.2.2.2.1 f m aj.1 ao dv)<|qr<|Qa<|Q9 ?_
    refine ⟨_,J,?_⟩
    obtain rfl:=qc ad
    exact ⟨_,J,wkA [(8,12)] [] []⟩
   intro ai hb
   subst hb
   refine O (qd false) J<|q8<|Ym J<|qj<|Q9<|Qa<|qt<|U J<|O (.d (G (w64 (a.1 + 1)))) J<|q9 J<|qr ?_
   exact ⟨_,(Option.some.inj o).symm,wkA [(8,8)] [] []⟩
  refine Q2 ?_
  refine ⟨_,(Option.some.inj o).symm,fun hm=>?_⟩
  subst hm
  refine ⟨.inl J,_,J,_,_,.nor,J,by decide,?_⟩
  refine q73<|Q9 ?_
  obtain rfl:=qc bd
  exact ⟨_,J,wkA [(0,1),(1,2),(2,3),(3,8)] [] []⟩
 intro t st hb hw
 subst hb
 refine Kn hw ?_ (by simp)
 refine qb ?_
 obtain ⟨dw,bb,p⟩:=q7 p
 refine q4z [.ref 2 4 0 0] (fun w=>w = dw) (fun (w : Int × List qg)=>⟨[(6,.ref 0 1 0 0),(7,.ref 1 1 0 0),(46,.tup [.hs 2 4 0 w.2.length,q0 w.1])],[(0,.dat 1 [[.nilsl]]),(1,.dat 1 [[G 0]]),(2,.dat 4 (w.2.map qk))],3⟩) J J Tryz.func119 J (by kernel_rfl) (by kernel_rfl) J ?_ ?_
 ·refine qb<|q9 J<|q9 J<|q8<|qe<|qb<|U J<|O (.ref 2 4 0 0) J<|O (.ref 2 4 0 0) J<|O (.hs 3 4 0 t.2.2.2.length) J<|O (q0 (t.2.2.2.length : Int)) J<|O (.d (.bool (decide ((t.2.2.2.length : Int) > 400)))) J<|q8 ?_
  refine ql J bb (fun _ bb=>?_) (fun _ bb=>?_)
  ·refine qb<|q9 J<|q9 J<|qn ?_
   refine ⟨.inr J,_,J,?_⟩
   obtain rfl:=qc bb
   exact ⟨_,J,wkA [(0,0),(1,1)] [] [2]⟩
  refine qj<|qb<|U J<|O (.ref 2 4 0 0) J<|O (.ref 2 4 0 0) J<|O (.hs 3 4 0 t.2.2.2.length) J<|q9 J<|q9 J<|qn ?_
  refine ⟨.inr J,_,J,?_⟩
  obtain rfl:=qc bb
  exact ⟨_,J,wkA [(0,0),(1,1),(2,3)] [] []⟩
 intro w hb
 subst hb
 refine O (.hs 2 4 0 w.2.length) J<|O (q0 w.1) J<|Q6 0 (.cel 1 [[.hs 2 4 0 w.2.length]]) J<|Q6 1 (.dat 1 [[G w.1]]) J<|qn ?_
 obtain rfl:=qc p
 exact finD (.inr J) (v:=.tup [.hs 2 4 0 w.2.length,q0 w.1]) J (q9o (Jq (Z9 J J) (Jq J J))) (.refl _)
theorem qlo (f : List qh) (r : Int) (c : q2h f = some r) : Pure Tryz.prog tab 137 [.sl 2 (f.map qv)] (G r):=by
 unfold q2h at c
 refine Q8 Tryz.func137 J (by kernel_rfl) (by kernel_rfl) J<|qb<|q9 J<|q8<|qe<|qb<|U J<|Qc J<|O (.d (.bool (decide ((f.length : Int) > 400)))) J<|q8 ?_
 refine ql J c (fun _ c=>?_) (fun _ c=>?_)
 ·refine qb<|q9 J<|qn ?_
  obtain rfl:=qc c
  exact qz (q0 4) J
 refine qj<|qe<|qb<|U J<|Qc J<|U J<|q8 ?_
 obtain ⟨m,ao,c⟩:=q7 c
 refine Qb (fun l=>.inl l = m) (fun (l : Unit)=>⟨[],[],0⟩) (by simp) ?_ ?_
 ·refine Q7 (q17 f) (fun (j : Int)=>⟨[(0,.d (.sl 2 (f.map qv))),(8,.d (.sl 2 (f.map qv))),(9,q0 (f.length : Int)),(10,q0 j)],[],0⟩) 0 m ao (wkA [] [] []) ?_
  intro j av a
  unfold q17 at a
  refine qb<|O (.d (.bool (decide (j < (f.length : Int))))) J<|q8<|qe ?_
  refine ql J a (fun _ a=>?_) (fun _ a=>?_)
  ·refine qj<|qe<|qu<|qb<|U J ?_
   obtain ⟨b,ap,a⟩:=q7 a
   refine Q4 (enc:=qv) ap J<|O (.d (.agg [G b.Lo,G b.Hi])) J<|Qo J J<|q9 J<|Q6 0 (.dat 2 [[G b.Lo,G b.Hi]]) J<|q8<|qe<|Q5 [q6,q6,q6,qo 0,q6,q6,q6,q6,q6,q6,q6,q6,q6,q6,q6,q6,q6,qo 0] (by kernel_rfl)<|O (.d (.agg [G b.Lo,G b.Hi])) J ?_
   obtain ⟨n,aq,a⟩:=q7 a
   refine qs (qlr b n aq) J<|O (qd (!n)) J ?_
   obtain ⟨ar,g,a⟩:=q7 a
   refine qx 15 (fun A st=>∃ (o p q s t u v w x y z aa ab ac : V),st = A [(32,qd ar),(31,ac),(30,ab),(29,aa),(28,z),(27,y),(26,x),(25,w),(24,v),(23,u),(22,t),(21,s),(20,q),(19,p),(18,o)]) ?_ ?_
   ·refine qw J J g (fun g=>?_) (fun g=>?_)
    ·refine qa J<|qa J<|qa J<|qa J<|qa J<|qa J<|qa J<|qa J<|qa J<|qa J<|qa J<|qa J<|qa J<|O (qd true) J<|q8 ?_
     obtain rfl:=qc g
     exact ⟨_,_,_,_,_,_,_,_,_,_,_,_,_,_,J⟩
    refine U J<|O (.d (.bool (decide (j > 0)))) J ?_
    obtain ⟨ad,h,g⟩:=q7 g
    refine qx 11 (fun A st=>∃ (ae af ag ah ai aj ak al am an : V),st = A [(31,qd ad),(30,an),(29,am),(28,al),(27,ak),(26,aj),(25,ai),(24,ah),(23,ag),(22,af),(21,ae)]) ?_ ?_
    ·refine qw J J h (fun h=>?_) (fun h=>?_)
     ·refine U J<|U J<|O (.d (G (w64 (j - 1)))) J ?_
      obtain ⟨k,au,h⟩:=q7 h
      refine Q4 (enc:=qv) au J<|O (.dref [G k.Lo,G k.Hi] 1) J<|O (q0 k.Hi) J<|O (.ref 0 2 0 0) J<|O (q0 b.Lo) J<|O (.d (.bool (decide (k.Hi ≥ b.Lo)))) J<|O (.d (.bool (decide (k.Hi ≥ b.Lo)))) J<|q8 ?_
      obtain rfl:=qc h
      exact ⟨_,_,_,_,_,_,_,_,_,_,J⟩
     refine qa J<|qa J<|qa J<|qa J<|qa J<|qa J<|qa J<|qa J<|qa J<|O (qd false) J<|q8 ?_
     obtain rfl:=qc h
     exact ⟨_,_,_,_,_,_,_,_,_,_,J⟩
    rintro _ ⟨ae,af,ag,ah,ai,aj,ak,al,am,an,rfl⟩
    refine O (qd ad) J<|q8 ?_
    obtain rfl:=qc g
    exact ⟨_,_,_,_,_,_,_,_,_,_,_,_,_,_,J⟩
   rintro _ ⟨o,p,q,s,t,u,v,w,x,y,z,aa,ab,ac,rfl⟩
   refine q8 ?_
   refine ql J a (fun _ a=>?_) (fun _ a=>?_)
   ·refine qb<|q9 J<|qn ?_
    refine ⟨_,(Option.some.inj a).symm,fun hm=>?_⟩
    subst hm
    obtain rfl:=qc c
    exact qz (q0 8) J
   refine qj<|Q9<|Qa<|qt<|O (.d (G (w64 (j + 1)))) J<|U J<|qr ?_
   exact ⟨_,(Option.some.inj a).symm,wkA [] [] []⟩
  refine Q2 ?_
  refine ⟨_,(Option.some.inj a).symm,fun hm=>?_⟩
  subst hm
  exact ⟨_,J,wkA [] [] []⟩
 intro l hb
 subst hb
 refine qb<|q9 J<|qn ?_
 obtain rfl:=qc c
 exact qz (q0 0) J
theorem qf8 (b : List qh) (c : List qh) (f : Bool→Bool→Option Bool) (p2F : FuncId) (p2C : List DV) (p2Ok : ∀ (k : Bool) (l : Bool) (r : Bool),f k l = some r→Pure Tryz.prog tab p2F ([.bool k,.bool l] ++ p2C) (.bool r)) (r : List qh × Int) (a : q41 b c f = some r) : Pure Tryz.prog tab 120 [.sl 2 (b.map qv),.sl 2 (c.map qv),.fn p2F p2C] (.tup [.sl 2 (r.1.map qv),G r.2]):=by
 unfold q41 at a
 refine Q8 Tryz.func120 J (by kernel_rfl) (by kernel_rfl) J<|qb<|q9 J<|q9 J<|q8<|qe<|qb<|U J ?_
 obtain ⟨g,m,a⟩:=q7 a
 refine qs (qlo b g m) J<|q9 J<|qm<|U J<|O (qd (g != 0)) J<|q8 ?_
 refine ql J a (fun _ a=>?_) (fun _ a=>?_)
 ·refine qb<|U J<|q9 J<|q9 J<|qn ?_
  obtain rfl:=qc a
  exact finD (.inr J) (v:=.d (.tup [.nilsl,G g])) J J (Kr (.cons (.nil _) (.cons (.refl _) .nil)))
 refine qj<|qe<|qb<|U J ?_
 obtain ⟨h,n,a⟩:=q7 a
 refine qs (qlo c h n) J<|q9 J<|qm<|U J<|O (qd (h != 0)) J<|q8 ?_
 refine ql J a (fun _ a=>?_) (fun _ a=>?_)
 ·refine qb<|U J<|q9 J<|q9 J<|qn ?_
  obtain rfl:=qc a
  exact finD (.inr J) (v:=.d (.tup [.nilsl,G h])) J J (Kr (.cons (.nil _) (.cons (.refl _) .nil)))
 refine qj<|qb<|U J<|U J<|U J ?_
 obtain ⟨j,o,a⟩:=q7 a
 refine qs (qlq b c f p2F p2C p2Ok j o) J<|q9 J<|q8<|qe<|qb<|U J<|Qc J<|O (.d (.bool (decide ((j.length : Int) > 400)))) J<|q8 ?_
 refine ql J a (fun _ a=>?_) (fun _ a=>?_)
 ·refine qb<|q9 J<|q9 J<|qn ?_
  obtain rfl:=qc a
  exact finD (.inr J) (v:=.d (.tup [.nilsl,G 4])) J J (Kr (.cons (.nil _) (.cons (.refl _) .nil)))
 refine qj<|qb<|U J<|q9 J<|q9 J<|qn ?_
 obtain rfl:=qc a
 exact qz (.d (.tup [.sl 2 (j.map qv),G 0])) J
theorem qym (d : Bool) (c : Bool) (r : Bool) (b : qc1 d c = some r) : Pure Tryz.prog tab 121 [.bool d,.bool c] (.bool r):=by
 unfold qc1 at b
 refine Q8 Tryz.func121 J (by kernel_rfl) (by kernel_rfl) J<|qb<|q9 J<|qm<|U J ?_
 obtain ⟨f,a,b⟩:=q7 b
 refine qx 3 (fun A st=>∃ (g h : V),st = A [(8,qd f),(7,h),(6,g)]) ?_ ?_
 ·refine qw J J a (fun a=>?_) (fun a=>?_)
  ·refine qa J<|O (qd true) J<|q8 ?_
   obtain rfl:=qc a
   exact ⟨_,_,J⟩
  refine U J<|O (qd c) J<|q8 ?_
  obtain rfl:=qc a
  exact ⟨_,_,J⟩
 rintro _ ⟨g,h,rfl⟩
 refine q9 J<|qn ?_
 obtain rfl:=qc b
 exact qz (qd f) J
theorem qyn (c : List qh) (f : List qh) (r : List qh × Int) (b : q70 c f = some r) : Pure Tryz.prog tab 88 [.sl 2 (c.map qv),.sl 2 (f.map qv)] (.tup [.sl 2 (r.1.map qv),G r.2]):=by
 unfold q70 at b
 refine Q8 Tryz.func88 J (by kernel_rfl) (by kernel_rfl) J<|qb<|q9 J<|q9 J<|qm<|U J<|U J ?_
 obtain ⟨a,j,b⟩:=q7 b
 refine qs (qf8 c f (fun g h=>qc1 g h) 121 [] (fun g h r hr=>qym g h r hr) a j) J<|O (.d (.sl 2 (a.1.map qv))) J<|O (q0 a.2) J<|q9 J<|q9 J<|qn ?_
 obtain rfl:=qc b
 exact qz (.d (.tup [.sl 2 (a.1.map qv),G a.2])) J
theorem qt6 (c : List qg) (f : List qg) (r : List qg × Int) (b : q5h c f = some r) : Pure Tryz.prog tab 63 [.sl 4 (c.map qk),.sl 4 (f.map qk)] (.tup [.sl 4 (r.1.map qk),G r.2]):=by
 unfold q5h at b
 refine Q8 Tryz.func63 J (by kernel_rfl) (by kernel_rfl) J<|qb<|q9 J<|q9 J<|qm<|U J<|U J ?_
 obtain ⟨a,j,b⟩:=q7 b
 refine qs (qen c f (fun g h=>q70 g h) 88 [] (fun g h r hr=>qyn g h r hr) a j) J<|O (.d (.sl 4 (a.1.map qk))) J<|O (q0 a.2) J<|q9 J<|q9 J<|qn ?_
 obtain rfl:=qc b
 exact qz (.d (.tup [.sl 4 (a.1.map qk),G a.2])) J
theorem qbt (c : List qf) (f : List qf) (r : List qf × Int) (b : q2g c f = some r) : Pure Tryz.prog tab 24 [.sl 6 (c.map qp),.sl 6 (f.map qp)] (.tup [.sl 6 (r.1.map qp),G r.2]):=by
 unfold q2g at b
 refine Q8 Tryz.func24 J (by kernel_rfl) (by kernel_rfl) J<|qb<|q9 J<|q9 J<|qm<|U J<|U J<|O (.d (.agg [.fn 63 []])) J ?_
 obtain ⟨a,j,b⟩:=q7 b
 refine qs (qf6 c f (fun g h=>q5h g h) 63 [] (fun g h r hr=>qt6 g h r hr) a j) J<|O (.d (.sl 6 (a.1.map qp))) J<|O (q0 a.2) J<|q9 J<|q9 J<|qn ?_
 obtain rfl:=qc b
 exact qz (.d (.tup [.sl 6 (a.1.map qp),G a.2])) J
theorem qei (b : List qf) (c : List qf) (r : Int) (a : q38 b c = some r) : Pure Tryz.prog tab 64 [.sl 6 (b.map qp),.sl 6 (c.map qp)] (G r):=by
 unfold q38 at a
 refine Q8 Tryz.func64 J (by kernel_rfl) (by kernel_rfl) J<|qb<|q9 J<|q8<|qe<|qb<|U J ?_
 obtain ⟨d,h,a⟩:=q7 a
 refine qs (qej b d h) J<|O (qd (d != 0)) J<|q8 ?_
 refine ql J a (fun _ a=>?_) (fun _ a=>?_)
 ·refine qb<|U J ?_
  obtain ⟨f,j,a⟩:=q7 a
  refine qs (qej b f j) J<|q9 J<|qn ?_
  obtain rfl:=qc a
  exact qz (q0 f) J
 refine qj<|qb<|U J ?_
 obtain ⟨g,k,a⟩:=q7 a
 refine qs (qej c g k) J<|q9 J<|qn ?_
 obtain rfl:=qc a
 exact qz (q0 g) J
theorem qek (g : Int) (b : List qf) (c : List qf) (r : List qf × Int) (a : q3c g b c = some r) : Pure Tryz.prog tab 25 [G g,.sl 6 (b.map qp),.sl 6 (c.map qp)] (.tup [.sl 6 (r.1.map qp),G r.2]):=by
 unfold q3c at a
 refine Q8 Tryz.func25 J (by kernel_rfl) (by kernel_rfl) J<|qb<|q9 J<|q9 J<|q8<|qe<|qb<|U J<|U J ?_
 obtain ⟨h,k,a⟩:=q7 a
 refine qs (qei b c h k) J<|O (qd (h != 0)) J<|q8 ?_
 refine ql J a (fun _ a=>?_) (fun _ a=>?_)
 ·refine qb<|U J<|U J ?_
  obtain ⟨j,l,a⟩:=q7 a
  refine qs (qei b c j l) J<|q9 J<|q9 J<|qn ?_
  obtain rfl:=qc a
  exact finD (.inr J) (v:=.d (.tup [.nilsl,G j])) J J (Kr (.cons (.nil _) (.cons (.refl _) .nil)))
 refine qj<|qb<|U J<|U J<|U J ?_
 obtain ⟨f,m,a⟩:=q7 a
 refine qs (qk7 g b c f m) J<|U J<|O (.d (.sl 6 (f.1.map qp))) J<|O (qd f.2) J<|q9 J<|q9 J<|q8<|qe<|qb<|U J<|O (qd (!f.2)) J<|q8 ?_
 refine ql J a (fun _ a=>?_) (fun _ a=>?_)
 ·refine qb<|q9 J<|q9 J<|qn ?_
  obtain rfl:=qc a
  exact finD (.inr J) (v:=.d (.tup [.nilsl,G 4])) J J (Kr (.cons (.nil _) (.cons (.refl _) .nil)))
 refine qj<|qb<|U J<|q9 J<|q9 J<|qn ?_
 obtain rfl:=qc a
 exact qz (.d (.tup [.sl 6 (f.1.map qp),G 0])) J
theorem qyi (d : Bool) (c : Bool) (r : Bool) (b : qbz d c = some r) : Pure Tryz.prog tab 122 [.bool d,.bool c] (.bool r):=by
 unfold qbz at b
 refine Q8 Tryz.func122 J (by kernel_rfl) (by kernel_rfl) J<|qb<|q9 J<|qm<|U J ?_
 obtain ⟨f,a,b⟩:=q7 b
 refine qx 3 (fun A st=>∃ (g h : V),st = A [(8,qd f),(7,h),(6,g)]) ?_ ?_
 ·refine qw J J a (fun a=>?_) (fun a=>?_)
  ·refine U J<|O (qd c) J<|q8 ?_
   obtain rfl:=qc a
   exact ⟨_,_,J⟩
  refine qa J<|O (qd false) J<|q8 ?_
  obtain rfl:=qc a
  exact ⟨_,_,J⟩
 rintro _ ⟨g,h,rfl⟩
 refine q9 J<|qn ?_
 obtain rfl:=qc b
 exact qz (qd f) J
theorem qyj (c : List qh) (f : List qh) (r : List qh × Int) (b : q6y c f = some r) : Pure Tryz.prog tab 89 [.sl 2 (c.map qv),.sl 2 (f.map qv)] (.tup [.sl 2 (r.1.map qv),G r.2]):=by
 unfold q6y at b
 refine Q8 Tryz.func89 J (by kernel_rfl) (by kernel_rfl) J<|qb<|q9 J<|q9 J<|qm<|U J<|U J ?_
 obtain ⟨a,j,b⟩:=q7 b
 refine qs (qf8 c f (fun g h=>qbz g h) 122 [] (fun g h r hr=>qyi g h r hr) a j) J<|O (.d (.sl 2 (a.1.map qv))) J<|O (q0 a.2) J<|q9 J<|q9 J<|qn ?_
 obtain rfl:=qc b
 exact qz (.d (.tup [.sl 2 (a.1.map qv),G a.2])) J
theorem qt2 (c : List qg) (f : List qg) (r : List qg × Int) (b : q5f c f = some r) : Pure Tryz.prog tab 65 [.sl 4 (c.map qk),.sl 4 (f.map qk)] (.tup [.sl 4 (r.1.map qk),G r.2]):=by
 unfold q5f at b
 refine Q8 Tryz.func65 J (by kernel_rfl) (by kernel_rfl) J<|qb<|q9 J<|q9 J<|qm<|U J<|U J ?_
 obtain ⟨a,j,b⟩:=q7 b
 refine qs (qen c f (fun g h=>q6y g h) 89 [] (fun g h r hr=>qyj g h r hr) a j) J<|O (.d (.sl 4 (a.1.map qk))) J<|O (q0 a.2) J<|q9 J<|q9 J<|qn ?_
 obtain rfl:=qc b
 exact qz (.d (.tup [.sl 4 (a.1.map qk),G a.2])) J
theorem qbs (c : List qf) (f : List qf) (r : List qf × Int) (b : q2f c f = some r) : Pure Tryz.prog tab 26 [.sl 6 (c.map qp),.sl 6 (f.map qp)] (.tup [.sl 6 (r.1.map qp),G r.2]):=by
 unfold q2f at b
 refine Q8 Tryz.func26 J (by kernel_rfl) (by kernel_rfl) J<|qb<|q9 J<|q9 J<|qm<|U J<|U J<|O (.d (.agg [.fn 65 []])) J ?_
 obtain ⟨a,j,b⟩:=q7 b
 refine qs (qf6 c f (fun g h=>q5f g h) 65 [] (fun g h r hr=>qt2 g h r hr) a j) J<|O (.d (.sl 6 (a.1.map qp))) J<|O (q0 a.2) J<|q9 J<|q9 J<|qn ?_
 obtain rfl:=qc b
 exact qz (.d (.tup [.sl 6 (a.1.map qp),G a.2])) J
theorem qyk (d : Bool) (b : Bool) (r : Bool) (c : qc0 d b = some r) : Pure Tryz.prog tab 123 [.bool d,.bool b] (.bool r):=by
 unfold qc0 at c
 refine Q8 Tryz.func123 J (by kernel_rfl) (by kernel_rfl) J<|qb<|q9 J<|qm<|U J ?_
 obtain ⟨f,a,c⟩:=q7 c
 refine qx 4 (fun A st=>∃ (g h j : V),st = A [(9,qd f),(8,j),(7,h),(6,g)]) ?_ ?_
 ·refine qw J J a (fun a=>?_) (fun a=>?_)
  ·refine U J<|O (qd (!b)) J<|O (qd (!b)) J<|q8 ?_
   obtain rfl:=qc a
   exact ⟨_,_,_,J⟩
  refine qa J<|qa J<|O (qd false) J<|q8 ?_
  obtain rfl:=qc a
  exact ⟨_,_,_,J⟩
 rintro _ ⟨g,h,j,rfl⟩
 refine q9 J<|qn ?_
 obtain rfl:=qc c
 exact qz (qd f) J
theorem qyl (c : List qh) (f : List qh) (r : List qh × Int) (b : q6z c f = some r) : Pure Tryz.prog tab 90 [.sl 2 (c.map qv),.sl 2 (f.map qv)] (.tup [.sl 2 (r.1.map qv),G r.2]):=by
 unfold q6z at b
 refine Q8 Tryz.func90 J (by kernel_rfl) (by kernel_rfl) J<|qb<|q9 J<|q9 J<|qm<|U J<|U J ?_
 obtain ⟨a,j,b⟩:=q7 b
 refine qs (qf8 c f (fun g h=>qc0 g h) 123 [] (fun g h r hr=>qyk g h r hr) a j) J<|O (.d (.sl 2 (a.1.map qv))) J<|O (q0 a.2) J<|q9 J<|q9 J<|qn ?_
 obtain rfl:=qc b
 exact qz (.d (.tup [.sl 2 (a.1.map qv),G a.2])) J
theorem qt4 (c : List qg) (f : List qg) (r : List qg × Int) (b : q5g c f = some r) : Pure Tryz.prog tab 66 [.sl 4 (c.map qk),.sl 4 (f.map qk)] (.tup [.sl 4 (r.1.map qk),G r.2]):=by
 unfold q5g at b
 refine Q8 Tryz.func66 J (by kernel_rfl) (by kernel_rfl) J<|qb<|q9 J<|q9 J<|qm<|U J<|U J ?_
 obtain ⟨a,j,b⟩:=q7 b
 refine qs (qen c f (fun g h=>q6z g h) 90 [] (fun g h r hr=>qyl g h r hr) a j) J<|O (.d (.sl 4 (a.1.map qk))) J<|O (q0 a.2) J<|q9 J<|q9 J<|qn ?_
 obtain rfl:=qc b
 exact qz (.d (.tup [.sl 4 (a.1.map qk),G a.2])) J
theorem qf4 (c : List qf) (f : List qf) (r : List qf × Int) (b : q3u c f = some r) : Pure Tryz.prog tab 27 [.sl 6 (c.map qp),.sl 6 (f.map qp)] (.tup [.sl 6 (r.1.map qp),G r.2]):=by
 unfold q3u at b
 refine Q8 Tryz.func27 J (by kernel_rfl) (by kernel_rfl) J<|qb<|q9 J<|q9 J<|qm<|U J<|U J<|O (.d (.agg [.fn 66 []])) J ?_
 obtain ⟨a,j,b⟩:=q7 b
 refine qs (qf6 c f (fun g h=>q5g g h) 66 [] (fun g h r hr=>qt4 g h r hr) a j) J<|O (.d (.sl 6 (a.1.map qp))) J<|O (q0 a.2) J<|q9 J<|q9 J<|qn ?_
 obtain rfl:=qc b
 exact qz (.d (.tup [.sl 6 (a.1.map qp),G a.2])) J
theorem q106 (b : List qf) (c : List qf) (r : Bool) (a : qal b c = some r) : Pure Tryz.prog tab 4 [.sl 6 (b.map qp),.sl 6 (c.map qp)] (.bool r):=by
 unfold qal at a
 refine Q8 Tryz.func4 J (by kernel_rfl) (by kernel_rfl) J<|qb<|q9 J<|q8<|qe<|qb<|U J ?_
 obtain ⟨r1,h2,a⟩:=q7 a
 refine qs (qk4 b r1 h2) J ?_
 obtain ⟨c5,f,a⟩:=q7 a
 refine qx 4 (fun A st=>∃ (t u v : V),st = A [(22,qd c5),(21,v),(20,u),(19,t)]) ?_ ?_
 ·refine qw J J f (fun f=>?_) (fun f=>?_)
  ·refine qa J<|qa J<|O (qd true) J<|q8 ?_
   obtain rfl:=qc f
   exact ⟨_,_,_,J⟩
  refine U J ?_
  obtain ⟨w,az,f⟩:=q7 f
  refine qs (qk4 c w az) J<|O (qd w) J<|q8 ?_
  obtain rfl:=qc f
  exact ⟨_,_,_,J⟩
 rintro _ ⟨t,u,v,rfl⟩
 refine q8 ?_
 refine ql J a (fun _ a=>?_) (fun _ a=>?_)
 ·refine qb<|q9 J<|qn ?_
  obtain rfl:=qc a
  exact qz (qd true) J
 refine qj<|qb<|U J<|U J ?_
 obtain ⟨j,ba,a⟩:=q7 a
 refine qs (qbt b c j ba) J<|U J<|O (.d (.sl 6 (j.1.map qp))) J<|O (q0 j.2) J<|q9 J<|q9 J<|qm<|U J<|U J ?_
 obtain ⟨k,bb,a⟩:=q7 a
 refine qs (qek 2 b c k bb) J<|U J<|O (.d (.sl 6 (k.1.map qp))) J<|O (q0 k.2) J<|q9 J<|q9 J<|qm<|U J<|U J ?_
 obtain ⟨l,bc,a⟩:=q7 a
 refine qs (qbs b c l bc) J<|U J<|O (.d (.sl 6 (l.1.map qp))) J<|O (q0 l.2) J<|q9 J<|q9 J<|qm<|U J<|U J ?_
 obtain ⟨m,bd,a⟩:=q7 a
 refine qs (qek 1 b c m bd) J<|U J<|O (.d (.sl 6 (m.1.map qp))) J<|O (q0 m.2) J<|q9 J<|q9 J<|qm<|U J<|U J ?_
 obtain ⟨n,be,a⟩:=q7 a
 refine qs (qf4 b c n be) J<|U J<|O (.d (.sl 6 (n.1.map qp))) J<|O (q0 n.2) J<|q9 J<|q9 J<|qm<|U J<|U J ?_
 obtain ⟨o,bf,a⟩:=q7 a
 refine qs (qek 3 b c o bf) J<|U J<|O (.d (.sl 6 (o.1.map qp))) J<|O (q0 o.2) J<|q9 J<|q9 J<|qm<|U J<|U J ?_
 obtain ⟨bg,bh,a⟩:=q7 a
 refine qs (q3e j.1 k.1 bg bh) J ?_
 obtain ⟨bi,p,a⟩:=q7 a
 refine qx 5 (fun A st=>∃ (x y z aa : V),st = A [(66,qd bi),(65,aa),(64,z),(63,y),(62,x)]) ?_ ?_
 ·refine qw J J p (fun p=>?_) (fun p=>?_)
  ·refine U J<|U J<|O (qd (j.2 == k.2)) J<|O (qd (j.2 == k.2)) J<|q8 ?_
   obtain rfl:=qc p
   exact ⟨_,_,_,_,J⟩
  refine qa J<|qa J<|qa J<|O (qd false) J<|q8 ?_
  obtain rfl:=qc p
  exact ⟨_,_,_,_,J⟩
 rintro _ ⟨x,y,z,aa,rfl⟩
 obtain ⟨bj,g,a⟩:=q7 a
 refine qx 5 (fun A st=>∃ (ab ac ad ae : V),st = A [(71,qd bj),(70,ae),(69,ad),(68,ac),(67,ab)]) ?_ ?_
 ·refine qw J J g (fun g=>?_) (fun g=>?_)
  ·refine U J<|U J ?_
   obtain ⟨af,bk,g⟩:=q7 g
   refine qs (q3e l.1 m.1 af bk) J<|O (qd af) J<|q8 ?_
   obtain rfl:=qc g
   exact ⟨_,_,_,_,J⟩
  refine qa J<|qa J<|qa J<|O (qd false) J<|q8 ?_
  obtain rfl:=qc g
  exact ⟨_,_,_,_,J⟩
 rintro _ ⟨ab,ac,ad,ae,rfl⟩
 obtain ⟨bl,q,a⟩:=q7 a
 refine qx 5 (fun A st=>∃ (ag ah ai aj : V),st = A [(76,qd bl),(75,aj),(74,ai),(73,ah),(72,ag)]) ?_ ?_
 ·refine qw J J q (fun q=>?_) (fun q=>?_)
  ·refine U J<|U J<|O (qd (l.2 == m.2)) J<|O (qd (l.2 == m.2)) J<|q8 ?_
   obtain rfl:=qc q
   exact ⟨_,_,_,_,J⟩
  refine qa J<|qa J<|qa J<|O (qd false) J<|q8 ?_
  obtain rfl:=qc q
  exact ⟨_,_,_,_,J⟩
 rintro _ ⟨ag,ah,ai,aj,rfl⟩
 obtain ⟨bm,h,a⟩:=q7 a
 refine qx 5 (fun A st=>∃ (ak al am an : V),st = A [(81,qd bm),(80,an),(79,am),(78,al),(77,ak)]) ?_ ?_
 ·refine qw J J h (fun h=>?_) (fun h=>?_)
  ·refine U J<|U J ?_
   obtain ⟨ao,bn,h⟩:=q7 h
   refine qs (q3e n.1 o.1 ao bn) J<|O (qd ao) J<|q8 ?_
   obtain rfl:=qc h
   exact ⟨_,_,_,_,J⟩
  refine qa J<|qa J<|qa J<|O (qd false) J<|q8 ?_
  obtain rfl:=qc h
  exact ⟨_,_,_,_,J⟩
 rintro _ ⟨ak,al,am,an,rfl⟩
 obtain ⟨ap,s,a⟩:=q7 a
 refine qx 5 (fun A st=>∃ (aq ar au av : V),st = A [(86,qd ap),(85,av),(84,au),(83,ar),(82,aq)]) ?_ ?_
 ·refine qw J J s (fun s=>?_) (fun s=>?_)
  ·refine U J<|U J<|O (qd (n.2 == o.2)) J<|O (qd (n.2 == o.2)) J<|q8 ?_
   obtain rfl:=qc s
   exact ⟨_,_,_,_,J⟩
  refine qa J<|qa J<|qa J<|O (qd false) J<|q8 ?_
  obtain rfl:=qc s
  exact ⟨_,_,_,_,J⟩
 rintro _ ⟨aq,ar,au,av,rfl⟩
 refine q9 J<|qn ?_
 obtain rfl:=qc a
 exact qz (qd ap) J
end Go.Proofs.YtjjmcdlnadkjbaaGreat
