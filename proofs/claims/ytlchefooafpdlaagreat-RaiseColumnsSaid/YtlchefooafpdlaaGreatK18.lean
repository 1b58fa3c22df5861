/- W_Alld W_All -/
import Derived.Test.YtlchefooafpdlaaGreatK17
namespace Go.Proofs.YtlchefooafpdlaaGreat
open Go Go.Am Go.Sh
set_option maxHeartbeats 8000000
set_option maxRecDepth 100000
theorem qs5 (s : Int) (f : List qg) (g : List qg) (r : List qg × Bool) (w : q39 s f g = some r) : Pure Tryz.prog tab 63 [G s,.sl 6 (f.map qw),.sl 6 (g.map qw)] (.tup [.sl 6 (r.1.map qw),.bool r.2]):=by
 unfold q39 at w
 refine Qc Tryz.func63 J (by kernel_rfl) (by kernel_rfl) J<|qb<|q9 J<|q9 J<|qp<|U J<|U J ?_
 obtain ⟨o,h2,w⟩:=q7 w
 refine qt (qs2 f g o h2) J<|q9 J<|qp<|q9 J<|qp<|q9 J<|qp<|q9 J<|q8<|qe<|qb<|q9 J<|q8 ?_
 obtain ⟨ai,bv,w⟩:=q7 w
 refine Qb (fun t=>.inl t = ai) (fun (t : List qg)=>⟨[(9,.hs 0 6 0 t.length)],[(0,.dat 6 (t.map qw))],1⟩) (by simp) ?_ ?_
 ·refine Q7 (Us o f g s) (fun (b : List qf × Int × Int × List qg)=>⟨[(0,q6 s),(1,.d (.sl 6 (f.map qw))),(2,.d (.sl 6 (g.map qw))),(8,.d (.sl 1 (o.map (eI .i64)))),(9,.hs 0 6 0 b.2.2.2.length),(10,.d (.sl 4 (b.1.map qm))),(11,q6 b.2.1),(12,q6 b.2.2.1)],[(0,.dat 6 (b.2.2.2.map qw))],1⟩) ([],0,0,[]) ai bv (wkA [] [] [0]) ?_
  intro b cz u
  unfold Us at u
  refine qe<|qb<|U J<|O (.d (G (w64 (b.2.2.1 + 1)))) J<|U J<|Qg J<|O (.d (.bool (decide ((w64 (b.2.2.1 + 1)) < (o.length : Int))))) J<|q8 ?_
  refine qk J u (fun _ u=>?_) (fun _ u=>?_)
  ·refine ql<|qe ?_
   obtain ⟨bw,a,u⟩:=q7 u
   refine Qb (fun x=>.inl x = bw) (fun (x : List qf × Int × List qg)=>⟨[(0,q6 s),(1,.d (.sl 6 (f.map qw))),(2,.d (.sl 6 (g.map qw))),(8,.d (.sl 1 (o.map (eI .i64)))),(9,.hs 0 6 0 x.2.2.length),(10,.d (.sl 4 (x.1.map qm))),(11,q6 x.2.1),(12,q6 b.2.2.1)],[(0,.dat 6 (x.2.2.map qw))],1⟩) (by simp) ?_ ?_
   ·refine qe<|Q4 [q0,q0,q0,q0,q0,q0,q0,q0,q0,q0,q0,q0,q0,q0,q0] (by kernel_rfl)<|U J<|U J<|U J<|U J ?_
    obtain ⟨aj,bz,a⟩:=q7 a
    refine Q5 (enc:=(eI .i64)) bz J<|O (q6 aj) J ?_
    obtain ⟨ak,ca,a⟩:=q7 a
    refine qt (qau f aj ak ca) J<|U J<|U J<|U J ?_
    obtain ⟨al,cb,a⟩:=q7 a
    refine Q5 (enc:=(eI .i64)) cb J<|O (q6 al) J ?_
    obtain ⟨am,cc,a⟩:=q7 a
    refine qt (qau g al am cc) J ?_
    obtain ⟨y,cd,a⟩:=q7 a
    refine qt (qdv s ak am y cd) J<|q9 J<|q8<|qe<|qb<|U J<|Qg J<|O (.d (.bool (decide ((y.length : Int) > 400)))) J ?_
    obtain ⟨ce,h,a⟩:=q7 a
    refine Q0 11 (fun A st=>∃ (an ao ap aq ar au av aw ax ay : V),st = A [(53,qd ce),(52,ay),(51,ax),(50,aw),(49,av),(48,au),(47,ar),(46,aq),(45,ap),(44,ao),(43,an)]) ?_ ?_
    ·refine qy J J h (fun h=>?_) (fun h=>?_)
     ·refine qa J<|qa J<|qa J<|qa J<|qa J<|qa J<|qa J<|qa J<|qa J<|O (qd true) J<|q8 ?_
      obtain rfl:=qc h
      exact ⟨_,_,_,_,_,_,_,_,_,_,J⟩
     refine U J<|U J<|U J ?_
     obtain ⟨az,cf,h⟩:=q7 h
     refine Q5 (enc:=(eI .i64)) cf J<|O (q6 az) J ?_
     obtain ⟨ba,cg,h⟩:=q7 h
     refine qt (qau f az ba cg) J ?_
     obtain ⟨ae,ch,h⟩:=q7 h
     refine qt (q7e (.cons (.refl _) (.cons (.refl _) (.cons (.nil _) .nil))) (qdv 2 ba [] ae ch)) J<|Qg J<|O (.d (.bool (decide ((ae.length : Int) > 400)))) J<|O (.d (.bool (decide ((ae.length : Int) > 400)))) J<|q8 ?_
     obtain rfl:=qc h
     exact ⟨_,_,_,_,_,_,_,_,_,_,J⟩
    rintro _ ⟨an,ao,ap,aq,ar,au,av,aw,ax,ay,rfl⟩
    obtain ⟨ci,j,a⟩:=q7 a
    refine Q0 11 (fun A st=>∃ (bb bc bd be bf bg bh bi bj bk : V),st = A [(64,qd ci),(63,bk),(62,bj),(61,bi),(60,bh),(59,bg),(58,bf),(57,be),(56,bd),(55,bc),(54,bb)]) ?_ ?_
    ·refine qy J J j (fun j=>?_) (fun j=>?_)
     ·refine qa J<|qa J<|qa J<|qa J<|qa J<|qa J<|qa J<|qa J<|qa J<|O (qd true) J<|q8 ?_
      obtain rfl:=qc j
      exact ⟨_,_,_,_,_,_,_,_,_,_,J⟩
     refine U J<|U J<|U J ?_
     obtain ⟨bl,cj,j⟩:=q7 j
     refine Q5 (enc:=(eI .i64)) cj J<|O (q6 bl) J ?_
     obtain ⟨bm,ck,j⟩:=q7 j
     refine qt (qau g bl bm ck) J ?_
     obtain ⟨af,cl,j⟩:=q7 j
     refine qt (q7e (.cons (.refl _) (.cons (.refl _) (.cons (.nil _) .nil))) (qdv 2 bm [] af cl)) J<|Qg J<|O (.d (.bool (decide ((af.length : Int) > 400)))) J<|O (.d (.bool (decide ((af.length : Int) > 400)))) J<|q8 ?_
     obtain rfl:=qc j
     exact ⟨_,_,_,_,_,_,_,_,_,_,J⟩
    rintro _ ⟨bb,bc,bd,be,bf,bg,bh,bi,bj,bk,rfl⟩
    refine q8 ?_
    refine qk J a (fun _ a=>?_) (fun _ a=>?_)
    ·refine qb<|q9 J<|q9 J<|qn ?_
     obtain rfl:=qc a
     refine ⟨_,(Option.some.inj u).symm,fun hm=>?_⟩
     subst hm
     obtain rfl:=qc w
     exact finD (.inr J) (v:=.d (.tup [.nilsl,.bool false])) J J (Ys (.cons (.nil _) (.cons (.refl _) .nil)))
    refine ql<|qe<|qb<|U J<|O (.d (.bool (decide (b.2.2.1 > 0)))) J ?_
    obtain ⟨cm,z,a⟩:=q7 a
    refine Q0 5 (fun A st=>∃ (bn bo bp bq : V),st = A [(71,qd cm),(70,bq),(69,bp),(68,bo),(67,bn)]) ?_ ?_
    ·refine qy J J z (fun z=>?_) (fun z=>?_)
     ·refine U J<|U J ?_
      obtain ⟨br,cn,z⟩:=q7 z
      refine qt (qrt y b.1 br cn) J<|O (qd br) J<|q8 ?_
      obtain rfl:=qc z
      exact ⟨_,_,_,_,J⟩
     refine qa J<|qa J<|qa J<|O (qd false) J<|q8 ?_
     obtain rfl:=qc z
     exact ⟨_,_,_,_,J⟩
    rintro _ ⟨bn,bo,bp,bq,rfl⟩
    refine q8 ?_
    refine qk J a (fun _ a=>?_) (fun _ a=>?_)
    ·refine qe<|qb<|U J<|q9 J<|q8 ?_
     obtain ⟨bs,co,a⟩:=q7 a
     refine Qb (fun ad=>ad = bs) (fun (ad : List qg)=>⟨[(0,q6 s),(1,.d (.sl 6 (f.map qw))),(2,.d (.sl 6 (g.map qw))),(8,.d (.sl 1 (o.map (eI .i64)))),(9,.hs 0 6 0 ad.length),(10,.d (.sl 4 (b.1.map qm))),(11,q6 b.2.1),(12,q6 b.2.2.1)],[(0,.dat 6 (ad.map qw))],1⟩) (by simp) ?_ ?_
     ·refine Q7 (q3a o b) (fun (p : Int × List qg)=>⟨[(0,q6 s),(1,.d (.sl 6 (f.map qw))),(2,.d (.sl 6 (g.map qw))),(8,.d (.sl 1 (o.map (eI .i64)))),(9,.hs 0 6 0 p.2.length),(10,.d (.sl 4 (b.1.map qm))),(11,q6 b.2.1),(12,q6 b.2.2.1),(14,q6 p.1)],[(0,.dat 6 (p.2.map qw))],1⟩) (b.2.1,b.2.2.2) bs co (wkA [(0,0)] [] []) ?_
      intro p da q
      unfold q3a at q
      refine qe<|qb<|U J<|U J<|O (q6 (p.2.length : Int)) J<|O (.d (.bool (decide (p.1 < (p.2.length : Int))))) J<|q8 ?_
      refine qk J q (fun _ q=>?_) (fun _ q=>?_)
      ·refine ql<|qe<|qu<|qs<|U J<|U J<|U J<|U J<|O (.d (G (w64 (b.2.2.1 + 1)))) J ?_
       obtain ⟨ag,cp,q⟩:=q7 q
       refine Q5 (enc:=(eI .i64)) cp J<|O (q6 ag) J ?_
       obtain ⟨ah,bt,q⟩:=q7 q
       refine qq bt J J<|O (.ref 0 6 p.1.toNat 3) J<|O (.ref 0 6 p.1.toNat 5) J<|Qk (ds:=[G ag]) ({Lo:=ah.Lo,Hi:=({X:=ah.Hi.X,Y:=ah.Hi.Y,Z:=ag} : qi)} : qg) bt J J J J J J J J (leb J) J<|qr<|Q9<|qs<|U J<|O (.d (G (w64 (p.1 + 1)))) J<|q9 J<|qr ?_
       exact ⟨_,(Option.some.inj q).symm,wkE [(0,0)] [] [] J ⟨⟨_,J,.d (.refl _)⟩,⟨_,J,.d (.refl _)⟩,⟨_,J,.d (.refl _)⟩,⟨_,J,.d (.refl _)⟩,⟨_,J,Qp (by simp) J (by decide) (ltd J)⟩,⟨_,J,.d (.refl _)⟩,⟨_,J,.d (.refl _)⟩,⟨_,J,.d (.refl _)⟩,⟨_,J,.d (.refl _)⟩,trivial⟩ ⟨⟨ltd J,.inr ⟨by decide,_,J,.dat _ _⟩⟩,trivial⟩⟩
      refine Q1 ?_
      refine ⟨_,(Option.some.inj q).symm,fun hm=>?_⟩
      subst hm
      exact ⟨_,J,wkA [(0,0)] [] []⟩
     intro ad hb
     subst hb
     refine Q1 ?_
     obtain rfl:=qc a
     exact ⟨_,J,wkA [(0,0)] [] []⟩
    refine ql<|qb<|U J<|O (q6 (b.2.2.2.length : Int)) J<|U J<|q9 J<|q9 J<|qp<|q9 J<|q8 ?_
    obtain ⟨cq,cr,a⟩:=q7 a
    refine qu<|Q7 (q4v y o b) (fun (aa : Int × List qg)=>⟨[(0,q6 s),(1,.d (.sl 6 (f.map qw))),(2,.d (.sl 6 (g.map qw))),(8,.d (.sl 1 (o.map (eI .i64)))),(9,.hs 0 6 0 aa.2.length),(10,.d (.sl 4 (y.map qm))),(11,q6 (b.2.2.2.length : Int)),(12,q6 b.2.2.1),(13,.d (.sl 4 (y.map qm))),(15,q6 aa.1)],[(0,.dat 6 (aa.2.map qw))],1⟩) (0,b.2.2.2) cq cr (wkA [(0,0)] [] []) ?_
    intro aa dc c
    unfold q4v at c
    refine qe<|qb<|U J<|U J<|Qg J<|O (.d (.bool (decide (aa.1 < (y.length : Int))))) J<|q8 ?_
    refine qk J c (fun _ c=>?_) (fun _ c=>?_)
    ·refine ql<|qe<|qu<|Q4 [q0,(some [0,1],[0,2]),(some [],[1]),q0,q0,q0,q0,q0,q0,q0,q0,q0,q0,q0,q0,q0,q0,q0,q0,q0,q0,q0,q0,q0,q0,q0,q0,q0,q0,q0,q0,q0,q0,q0,q0,q0] (by kernel_rfl)<|U J<|U J<|U J ?_
     obtain ⟨k,cs,c⟩:=q7 c
     refine Q5 (enc:=qm) cs J<|O (.dref [G k.X0,G k.Y0,G k.X1,G k.Y1] 0) J<|O (q6 k.X0) J<|U J<|U J ?_
     obtain ⟨l,ct,c⟩:=q7 c
     refine Q5 (enc:=qm) ct J<|O (.dref [G l.X0,G l.Y0,G l.X1,G l.Y1] 1) J<|O (q6 l.Y0) J<|U J<|U J ?_
     obtain ⟨ab,cu,c⟩:=q7 c
     refine Q5 (enc:=(eI .i64)) cu J<|O (q6 ab) J<|O (.d (.agg [G k.X0,G l.Y0,G ab])) J<|U J<|U J ?_
     obtain ⟨m,cv,c⟩:=q7 c
     refine Q5 (enc:=qm) cv J<|O (.dref [G m.X0,G m.Y0,G m.X1,G m.Y1] 2) J<|O (q6 m.X1) J<|U J<|U J ?_
     obtain ⟨n,cw,c⟩:=q7 c
     refine Q5 (enc:=qm) cw J<|O (.dref [G n.X0,G n.Y0,G n.X1,G n.Y1] 3) J<|O (q6 n.Y1) J<|U J<|U J<|O (.d (G (w64 (b.2.2.1 + 1)))) J ?_
     obtain ⟨ac,cx,c⟩:=q7 c
     refine Q5 (enc:=(eI .i64)) cx J<|O (q6 ac) J<|O (.d (.agg [G m.X1,G n.Y1,G ac])) J<|O (.d (.agg [G k.X0,G l.Y0,G ab,G m.X1,G n.Y1,G ac])) J<|Qh (.hs 1 6 0 [({Lo:=({X:=k.X0,Y:=l.Y0,Z:=ab} : qi),Hi:=({X:=m.X1,Y:=n.Y1,Z:=ac} : qi)} : qg)].length) (.dat 6 ([({Lo:=({X:=k.X0,Y:=l.Y0,Z:=ab} : qi),Hi:=({X:=m.X1,Y:=n.Y1,Z:=ac} : qi)} : qg)].map qw)) J ?_
     obtain ⟨dd,cy,c⟩:=q7 c
     refine Ko (xs:=aa.2) (ys:=[({Lo:=({X:=k.X0,Y:=l.Y0,Z:=ab} : qi),Hi:=({X:=m.X1,Y:=n.Y1,Z:=ac} : qi)} : qg)]) (enc:=qw) (.hs 1 6 0 [({Lo:=({X:=k.X0,Y:=l.Y0,Z:=ab} : qi),Hi:=({X:=m.X1,Y:=n.Y1,Z:=ac} : qi)} : qg)].length) cy J J J J J J J (Kl J J) J J J J<|q9 J<|qr<|Q9<|qs<|U J<|O (.d (G (w64 (aa.1 + 1)))) J<|q9 J<|qr ?_
     exact ⟨_,(Option.some.inj c).symm,wkA [(0,2)] [] []⟩
    refine Q1 ?_
    refine ⟨_,(Option.some.inj c).symm,fun hm=>?_⟩
    subst hm
    obtain rfl:=qc a
    exact ⟨_,J,wkA [(0,0)] [] []⟩
   intro x hb
   subst hb
   refine qs<|U J<|O (.d (G (w64 (b.2.2.1 + 1)))) J<|q9 J<|qr ?_
   exact ⟨_,(Option.some.inj u).symm,wkA [(0,0)] [] []⟩
  refine Q1 ?_
  refine ⟨_,(Option.some.inj u).symm,fun hm=>?_⟩
  subst hm
  exact ⟨_,J,wkA [(0,0)] [] []⟩
 intro t hb
 subst hb
 refine qb<|U J<|U J<|O (q6 (t.length : Int)) J<|O (.d (.bool (decide ((t.length : Int)≤400)))) J<|q9 J<|q9 J<|qn ?_
 obtain rfl:=qc w
 exact finD (.inr J) (v:=.tup [.hs 0 6 0 t.length,.d (.bool (decide ((t.length : Int)≤400)))]) J (q9d (Ji (Z9 J J) (Ji J J))) (.refl _)
theorem qs7 (g : List qg) (h : List qg) (r : Bool) (f : qav g h = some r) : Pure Tryz.prog tab 20 [.sl 6 (g.map qw),.sl 6 (h.map qw)] (.bool r):=by
 unfold qav at f
 refine Qc Tryz.func20 J (by kernel_rfl) (by kernel_rfl) J<|qb<|q9 J<|q8<|qe<|qb<|U J<|Qg J<|U J<|Qg J<|O (.d (.bool ((g.length : Int) != (h.length : Int)))) J<|q8 ?_
 refine qk J f (fun _ f=>?_) (fun _ f=>?_)
 ·refine qb<|q9 J<|qn ?_
  obtain rfl:=qc f
  exact qv (qd false) J
 refine ql<|qe<|qb<|q9 J<|q8 ?_
 obtain ⟨l,m,f⟩:=q7 f
 refine Qb (fun k=>.inl k = l) (fun (k : Unit)=>⟨[],[],0⟩) (by simp) ?_ ?_
 ·refine Q7 (qaw g h) (fun (j : Int)=>⟨[(0,.d (.sl 6 (g.map qw))),(1,.d (.sl 6 (h.map qw))),(5,q6 j)],[],0⟩) 0 l m (wkA [] [] []) ?_
  intro j p a
  unfold qaw at a
  refine qe<|qb<|U J<|U J<|Qg J<|O (.d (.bool (decide (j < (g.length : Int))))) J<|q8 ?_
  refine qk J a (fun _ a=>?_) (fun _ a=>?_)
  ·refine ql<|qe<|qu<|qe<|Q4 [q0,q0,q0,q0,q0,q0,q0,q0,q0] (by kernel_rfl)<|U J<|U J ?_
   obtain ⟨b,n,a⟩:=q7 a
   refine Q5 (enc:=qw) n J<|O (.d (.agg [G b.Lo.X,G b.Lo.Y,G b.Lo.Z,G b.Hi.X,G b.Hi.Y,G b.Hi.Z])) J<|U J<|U J ?_
   obtain ⟨c,o,a⟩:=q7 a
   refine Q5 (enc:=qw) o J<|O (.d (.agg [G c.Lo.X,G c.Lo.Y,G c.Lo.Z,G c.Hi.X,G c.Hi.Y,G c.Hi.Z])) J<|O (.d (.bool (!((b.Lo.X == c.Lo.X) && ((b.Lo.Y == c.Lo.Y) && ((b.Lo.Z == c.Lo.Z) && ((b.Hi.X == c.Hi.X) && ((b.Hi.Y == c.Hi.Y) && ((b.Hi.Z == c.Hi.Z) && true))))))))) J<|q8 ?_
   refine qk J a (fun _ a=>?_) (fun _ a=>?_)
   ·refine qb<|q9 J<|qn ?_
    refine ⟨_,(Option.some.inj a).symm,fun hm=>?_⟩
    subst hm
    obtain rfl:=qc f
    exact qv (qd false) J
   refine ql<|Qa<|Q9<|qs<|U J<|O (.d (G (w64 (j + 1)))) J<|q9 J<|qr ?_
   exact ⟨_,(Option.some.inj a).symm,wkA [] [] []⟩
  refine Q1 ?_
  refine ⟨_,(Option.some.inj a).symm,fun hm=>?_⟩
  subst hm
  exact ⟨_,J,wkA [] [] []⟩
 intro k hb
 subst hb
 refine qb<|q9 J<|qn ?_
 obtain rfl:=qc f
 exact qv (qd true) J
theorem qs0 (c : List qg) (r : Int) (a : q7k c = some r) : Pure Tryz.prog tab 22 [.sl 6 (c.map qw)] (G r):=by
 unfold q7k at a
 refine Qc Tryz.func22 J (by kernel_rfl) (by kernel_rfl) J<|qb<|q9 J<|q8<|qe<|qb<|U J<|Qg J<|O (.d (.bool (decide ((c.length : Int) > 400)))) J<|q8 ?_
 refine qk J a (fun _ a=>?_) (fun _ a=>?_)
 ·refine qb<|q9 J<|qn ?_
  obtain rfl:=qc a
  exact qv (q6 4) J
 refine ql<|qe<|qb<|q9 J<|q8 ?_
 obtain ⟨m,u,a⟩:=q7 a
 refine Qb (fun k=>.inl k = m) (fun (k : Unit)=>⟨[(0,.d (.sl 6 (c.map qw)))],[],0⟩) (by simp) ?_ ?_
 ·refine Q7 (q4u c) (fun (j : Int)=>⟨[(0,.d (.sl 6 (c.map qw))),(3,q6 j)],[],0⟩) 0 m u (wkA [] [] []) ?_
  intro j aa b
  unfold q4u at b
  refine qe<|qb<|U J<|U J<|Qg J<|O (.d (.bool (decide (j < (c.length : Int))))) J<|q8 ?_
  refine qk J b (fun _ b=>?_) (fun _ b=>?_)
  ·refine ql<|qe<|qu<|qb<|U J<|U J ?_
   obtain ⟨f,v,b⟩:=q7 b
   refine Q5 (enc:=qw) v J<|O (.d (.agg [G f.Lo.X,G f.Lo.Y,G f.Lo.Z,G f.Hi.X,G f.Hi.Y,G f.Hi.Z])) J ?_
   obtain ⟨n,w,b⟩:=q7 b
   refine qt (qs9 f n w) J<|O (qd (!n)) J<|q8 ?_
   refine qk J b (fun _ b=>?_) (fun _ b=>?_)
   ·refine qb<|q9 J<|qn ?_
    refine ⟨_,(Option.some.inj b).symm,fun hm=>?_⟩
    subst hm
    obtain rfl:=qc a
    exact qv (q6 8) J
   refine ql<|Qa<|Q9<|qs<|U J<|O (.d (G (w64 (j + 1)))) J<|q9 J<|qr ?_
   exact ⟨_,(Option.some.inj b).symm,wkA [] [] []⟩
  refine Q1 ?_
  refine ⟨_,(Option.some.inj b).symm,fun hm=>?_⟩
  subst hm
  exact ⟨_,J,wkA [] [] []⟩
 intro k hb
 subst hb
 refine qb<|U J ?_
 obtain ⟨h,x,a⟩:=q7 a
 refine qt (q7e (.cons (.refl _) (.cons (.refl _) (.cons (.nil _) .nil))) (qs5 2 c [] h x)) J<|U J<|O (.d (.sl 6 (h.1.map qw))) J<|O (qd h.2) J<|q9 J<|q9 J<|q8<|qe<|qb<|U J<|O (qd (!h.2)) J ?_
 obtain ⟨y,g,a⟩:=q7 a
 refine Q0 6 (fun A st=>∃ (o p q s t : V),st = A [(33,qd y),(32,t),(31,s),(30,q),(29,p),(28,o)]) ?_ ?_
 ·refine qy J J g (fun g=>?_) (fun g=>?_)
  ·refine qa J<|qa J<|qa J<|qa J<|O (qd true) J<|q8 ?_
   obtain rfl:=qc g
   exact ⟨_,_,_,_,_,J⟩
  refine U J<|U J ?_
  obtain ⟨l,z,g⟩:=q7 g
  refine qt (qs7 h.1 c l z) J<|O (qd (!l)) J<|O (qd (!l)) J<|q8 ?_
  obtain rfl:=qc g
  exact ⟨_,_,_,_,_,J⟩
 rintro _ ⟨o,p,q,s,t,rfl⟩
 refine q8 ?_
 refine qk J a (fun _ a=>?_) (fun _ a=>?_)
 ·refine qb<|q9 J<|qn ?_
  obtain rfl:=qc a
  exact qv (q6 8) J
 refine ql<|qb<|q9 J<|qn ?_
 obtain rfl:=qc a
 exact qv (q6 0) J
theorem qse (f : List qg) (r : List qf × Int) (b : q7p f = some r) : Pure Tryz.prog tab 14 [.sl 6 (f.map qw)] (.tup [.sl 4 (r.1.map qm),G r.2]):=by
 unfold q7p at b
 refine Qc Tryz.func14 J (by kernel_rfl) (by kernel_rfl) J<|qb<|q9 J<|q9 J<|q8<|qe<|qb<|U J ?_
 obtain ⟨k,m,b⟩:=q7 b
 refine qt (qeh f k m) J<|q9 J<|qp<|U J<|O (qd (k != 0)) J<|q8 ?_
 refine qk J b (fun _ b=>?_) (fun _ b=>?_)
 ·refine qb<|U J<|q9 J<|q9 J<|qn ?_
  obtain rfl:=qc b
  exact finD (.inr J) (v:=.d (.tup [.nilsl,G k])) J J (Ys (.cons (.nil _) (.cons (.refl _) .nil)))
 refine ql<|qb<|q9 J<|q8<|qe<|qb<|U J<|Qg J<|U J<|q8 ?_
 obtain ⟨l,n,b⟩:=q7 b
 refine Qb (fun g=>g = l) (fun (g : List qf)=>⟨[(5,.hs 0 4 0 g.length)],[(0,.dat 4 (g.map qm))],1⟩) (by simp) ?_ ?_
 ·refine Q7 (q4x f) (fun (h : Int × List qf)=>⟨[(5,.hs 0 4 0 h.2.length),(13,.d (.sl 6 (f.map qw))),(14,q6 (f.length : Int)),(15,q6 h.1)],[(0,.dat 4 (h.2.map qm))],1⟩) (0,[]) l n (wkA [] [] [0]) ?_
  intro h s c
  unfold q4x at c
  refine qb<|O (.d (.bool (decide (h.1 < (f.length : Int))))) J<|q8<|qe ?_
  refine qk J c (fun _ c=>?_) (fun _ c=>?_)
  ·refine ql<|qe<|qu<|qb ?_
   obtain ⟨a,o,c⟩:=q7 c
   refine Q5 (enc:=qw) o J<|O (.d (.agg [G a.Lo.X,G a.Lo.Y,G a.Lo.Z,G a.Hi.X,G a.Hi.Y,G a.Hi.Z])) J<|Qo J J<|Q8 1 (.dat 6 [[G a.Lo.X,G a.Lo.Y,G a.Lo.Z,G a.Hi.X,G a.Hi.Y,G a.Hi.Z]]) J<|q8<|qs<|U J<|O (.ref 1 6 0 0) J<|O (.ref 1 6 0 0) J<|O (q6 a.Lo.X) J<|O (.ref 1 6 0 0) J<|O (.ref 1 6 0 1) J<|O (q6 a.Lo.Y) J<|O (.ref 1 6 0 3) J<|O (.ref 1 6 0 3) J<|O (q6 a.Hi.X) J<|O (.ref 1 6 0 3) J<|O (.ref 1 6 0 4) J<|O (q6 a.Hi.Y) J<|O (.d (.agg [G a.Lo.X,G a.Lo.Y,G a.Hi.X,G a.Hi.Y])) J<|Qh (.hs 2 4 0 [({X0:=a.Lo.X,Y0:=a.Lo.Y,X1:=a.Hi.X,Y1:=a.Hi.Y} : qf)].length) (.dat 4 ([({X0:=a.Lo.X,Y0:=a.Lo.Y,X1:=a.Hi.X,Y1:=a.Hi.Y} : qf)].map qm)) J ?_
   obtain ⟨t,p,c⟩:=q7 c
   refine Ko (xs:=h.2) (ys:=[({X0:=a.Lo.X,Y0:=a.Lo.Y,X1:=a.Hi.X,Y1:=a.Hi.Y} : qf)]) (enc:=qm) (.hs 2 4 0 [({X0:=a.Lo.X,Y0:=a.Lo.Y,X1:=a.Hi.X,Y1:=a.Hi.Y} : qf)].length) p J J J J J J J (Kl J J) J J J J<|q9 J<|qr<|Q9<|qs<|O (.d (G (w64 (h.1 + 1)))) J<|U J<|qr ?_
   exact ⟨_,(Option.some.inj c).symm,wkA [(0,3)] [] []⟩
  refine Q1 ?_
  refine ⟨_,(Option.some.inj c).symm,fun hm=>?_⟩
  subst hm
  exact ⟨_,J,wkA [(0,0)] [] []⟩
 intro g hb
 subst hb
 refine qe ?_
 refine Yj (st':=⟨[(5,.d (.sl 4 (g.map qm)))],[],0⟩) (wkA [] [0] []) ?_ (by simp)
 refine qs<|U J ?_
 obtain ⟨j,q,b⟩:=q7 b
 refine qt (qjb g j q) J<|O (.d (.sl 4 (j.1.map qm))) J<|O (q6 j.2) J<|q9 J<|q9 J<|qn ?_
 obtain rfl:=qc b
 exact qv (.d (.tup [.sl 4 (j.1.map qm),G j.2])) J
theorem qrr (a : qj) (r : Bool) (b : qar a = some r) : Pure Tryz.prog tab 87 [.agg [G a.Lo,G a.Hi]] (.bool r):=by
 unfold qar at b
 refine Qc Tryz.func87 J (by kernel_rfl) (by kernel_rfl) J<|qb<|Qh (.ref 0 2 0 0) (.dat 2 [[G a.Lo,G a.Hi]]) J<|q9 J<|qp<|O (.ref 0 2 0 0) J<|O (q6 a.Lo) J<|O (.ref 0 2 0 1) J<|O (q6 a.Hi) J<|O (.d (.bool (decide (a.Lo < a.Hi)))) J ?_
 obtain ⟨q,c,b⟩:=q7 b
 refine Q0 5 (fun A st=>∃ (g h j k : V),st = A [(12,qd q),(11,k),(10,j),(9,h),(8,g)]) ?_ ?_
 ·refine qy J J c (fun c=>?_) (fun c=>?_)
  ·refine O (.ref 0 2 0 0) J<|O (q6 a.Lo) J<|O (.d (.bool (decide (a.Lo ≥ (-1000000))))) J<|O (.d (.bool (decide (a.Lo ≥ (-1000000))))) J<|q8 ?_
   obtain rfl:=qc c
   exact ⟨_,_,_,_,J⟩
  refine qa J<|qa J<|qa J<|O (qd false) J<|q8 ?_
  obtain rfl:=qc c
  exact ⟨_,_,_,_,J⟩
 rintro _ ⟨g,h,j,k,rfl⟩
 obtain ⟨l,f,b⟩:=q7 b
 refine Q0 5 (fun A st=>∃ (m n o p : V),st = A [(17,qd l),(16,p),(15,o),(14,n),(13,m)]) ?_ ?_
 ·refine qy J J f (fun f=>?_) (fun f=>?_)
  ·refine O (.ref 0 2 0 1) J<|O (q6 a.Hi) J<|O (.d (.bool (decide (a.Hi≤1000000)))) J<|O (.d (.bool (decide (a.Hi≤1000000)))) J<|q8 ?_
   obtain rfl:=qc f
   exact ⟨_,_,_,_,J⟩
  refine qa J<|qa J<|qa J<|O (qd false) J<|q8 ?_
  obtain rfl:=qc f
  exact ⟨_,_,_,_,J⟩
 rintro _ ⟨m,n,o,p,rfl⟩
 refine q9 J<|qn ?_
 obtain rfl:=qc b
 exact qv (qd l) J
theorem qdp (g : List qj) (r : Int) (b : q2t g = some r) : Pure Tryz.prog tab 41 [.sl 2 (g.map Q3)] (G r):=by
 unfold q2t at b
 refine Qc Tryz.func41 J (by kernel_rfl) (by kernel_rfl) J<|qb<|q9 J<|q8<|qe<|qb<|U J<|Qg J<|O (.d (.bool (decide ((g.length : Int) > 400)))) J<|q8 ?_
 refine qk J b (fun _ b=>?_) (fun _ b=>?_)
 ·refine qb<|q9 J<|qn ?_
  obtain rfl:=qc b
  exact qv (q6 4) J
 refine ql<|qe<|qb<|q9 J<|q8 ?_
 obtain ⟨n,ax,b⟩:=q7 b
 refine Qb (fun l=>.inl l = n) (fun (l : Unit)=>⟨[],[],0⟩) (by simp) ?_ ?_
 ·refine Q7 (q7f g) (fun (h : Int)=>⟨[(0,.d (.sl 2 (g.map Q3))),(3,q6 h)],[],0⟩) 0 n ax (wkA [] [] []) ?_
  intro h bd a
  unfold q7f at a
  refine qe<|qb<|U J<|U J<|Qg J<|O (.d (.bool (decide (h < (g.length : Int))))) J<|q8 ?_
  refine qk J a (fun _ a=>?_) (fun _ a=>?_)
  ·refine ql<|qe<|qu<|qe<|Q4 [q0,q0,q0,q0,q0,q0,q0,q0,q0,q0,q0,q0,q0,q0,q0,q0,q0,q0,q0,q0,q0,q0,q0,q0] (by kernel_rfl)<|U J<|U J ?_
   obtain ⟨m,ay,a⟩:=q7 a
   refine Q5 (enc:=Q3) ay J<|O (.d (.agg [G m.Lo,G m.Hi])) J ?_
   obtain ⟨o,az,a⟩:=q7 a
   refine qt (qrr m o az) J<|O (qd (!o)) J ?_
   obtain ⟨ba,f,a⟩:=q7 a
   refine Q0 18 (fun A st=>∃ (p q s t u v w x y z aa ab ac ad ae af ag : V),st = A [(36,qd ba),(35,ag),(34,af),(33,ae),(32,ad),(31,ac),(30,ab),(29,aa),(28,z),(27,y),(26,x),(25,w),(24,v),(23,u),(22,t),(21,s),(20,q),(19,p)]) ?_ ?_
   ·refine qy J J f (fun f=>?_) (fun f=>?_)
    ·refine qa J<|qa J<|qa J<|qa J<|qa J<|qa J<|qa J<|qa J<|qa J<|qa J<|qa J<|qa J<|qa J<|qa J<|qa J<|qa J<|O (qd true) J<|q8 ?_
     obtain rfl:=qc f
     exact ⟨_,_,_,_,_,_,_,_,_,_,_,_,_,_,_,_,_,J⟩
    refine U J<|O (.d (.bool (decide (h > 0)))) J ?_
    obtain ⟨ah,c,f⟩:=q7 f
    refine Q0 14 (fun A st=>∃ (ai aj ak al am an ao ap aq ar au av aw : V),st = A [(35,qd ah),(34,aw),(33,av),(32,au),(31,ar),(30,aq),(29,ap),(28,ao),(27,an),(26,am),(25,al),(24,ak),(23,aj),(22,ai)]) ?_ ?_
    ·refine qy J J c (fun c=>?_) (fun c=>?_)
     ·refine U J<|U J<|O (.d (G (w64 (h - 1)))) J ?_
      obtain ⟨j,bb,c⟩:=q7 c
      refine Q5 (enc:=Q3) bb J<|O (.dref [G j.Lo,G j.Hi] 1) J<|O (q6 j.Hi) J<|U J<|U J ?_
      obtain ⟨k,bc,c⟩:=q7 c
      refine Q5 (enc:=Q3) bc J<|O (.dref [G k.Lo,G k.Hi] 0) J<|O (q6 k.Lo) J<|O (.d (.bool (decide (j.Hi ≥ k.Lo)))) J<|O (.d (.bool (decide (j.Hi ≥ k.Lo)))) J<|q8 ?_
      obtain rfl:=qc c
      exact ⟨_,_,_,_,_,_,_,_,_,_,_,_,_,J⟩
     refine qa J<|qa J<|qa J<|qa J<|qa J<|qa J<|qa J<|qa J<|qa J<|qa J<|qa J<|qa J<|O (qd false) J<|q8 ?_
     obtain rfl:=qc c
     exact ⟨_,_,_,_,_,_,_,_,_,_,_,_,_,J⟩
    rintro _ ⟨ai,aj,ak,al,am,an,ao,ap,aq,ar,au,av,aw,rfl⟩
    refine O (qd ah) J<|q8 ?_
    obtain rfl:=qc f
    exact ⟨_,_,_,_,_,_,_,_,_,_,_,_,_,_,_,_,_,J⟩
   rintro _ ⟨p,q,s,t,u,v,w,x,y,z,aa,ab,ac,ad,ae,af,ag,rfl⟩
   refine q8 ?_
   refine qk J a (fun _ a=>?_) (fun _ a=>?_)
   ·refine qb<|q9 J<|qn ?_
    refine ⟨_,(Option.some.inj a).symm,fun hm=>?_⟩
    subst hm
    obtain rfl:=qc b
    exact qv (q6 8) J
   refine ql<|Qa<|Q9<|qs<|U J<|O (.d (G (w64 (h + 1)))) J<|q9 J<|qr ?_
   exact ⟨_,(Option.some.inj a).symm,wkA [] [] []⟩
  refine Q1 ?_
  refine ⟨_,(Option.some.inj a).symm,fun hm=>?_⟩
  subst hm
  exact ⟨_,J,wkA [] [] []⟩
 intro l hb
 subst hb
 refine qb<|q9 J<|qn ?_
 obtain rfl:=qc b
 exact qv (q6 0) J
theorem qro (f : List qj) (b : Int) (r : Bool) (g : q2u f b = some r) : Pure Tryz.prog tab 42 [.sl 2 (f.map Q3),G b] (.bool r):=by
 unfold q2u at g
 refine Qc Tryz.func42 J (by kernel_rfl) (by kernel_rfl) J<|qb<|q9 J<|q8<|qe<|qb<|q9 J<|q8 ?_
 obtain ⟨m,w,g⟩:=q7 g
 refine Qb (fun l=>.inl l = m) (fun (l : Unit)=>⟨[],[],0⟩) (by simp) ?_ ?_
 ·refine Q7 (q2v f b) (fun (j : Int)=>⟨[(0,.d (.sl 2 (f.map Q3))),(1,q6 b),(5,q6 j)],[],0⟩) 0 m w (wkA [] [] []) ?_
  intro j aa a
  unfold q2v at a
  refine qe<|qb<|U J<|U J<|Qg J<|O (.d (.bool (decide (j < (f.length : Int))))) J<|q8 ?_
  refine qk J a (fun _ a=>?_) (fun _ a=>?_)
  ·refine ql<|qe<|qu<|qb<|U J<|U J ?_
   obtain ⟨k,x,a⟩:=q7 a
   refine Q5 (enc:=Q3) x J<|O (.dref [G k.Lo,G k.Hi] 0) J<|O (q6 k.Lo) J<|U J<|O (.d (.bool (decide (k.Lo≤b)))) J ?_
   obtain ⟨y,c,a⟩:=q7 a
   refine Q0 9 (fun A st=>∃ (n o p q s t u v : V),st = A [(27,qd y),(26,v),(25,u),(24,t),(23,s),(22,q),(21,p),(20,o),(19,n)]) ?_ ?_
   ·refine qy J J c (fun c=>?_) (fun c=>?_)
    ·refine U J<|U J<|U J ?_
     obtain ⟨h,z,c⟩:=q7 c
     refine Q5 (enc:=Q3) z J<|O (.dref [G h.Lo,G h.Hi] 1) J<|O (q6 h.Hi) J<|O (.d (.bool (decide (b < h.Hi)))) J<|O (.d (.bool (decide (b < h.Hi)))) J<|q8 ?_
     obtain rfl:=qc c
     exact ⟨_,_,_,_,_,_,_,_,J⟩
    refine qa J<|qa J<|qa J<|qa J<|qa J<|qa J<|qa J<|O (qd false) J<|q8 ?_
    obtain rfl:=qc c
    exact ⟨_,_,_,_,_,_,_,_,J⟩
   rintro _ ⟨n,o,p,q,s,t,u,v,rfl⟩
   refine q8 ?_
   refine qk J a (fun _ a=>?_) (fun _ a=>?_)
   ·refine qb<|q9 J<|qn ?_
    refine ⟨_,(Option.some.inj a).symm,fun hm=>?_⟩
    subst hm
    obtain rfl:=qc g
    exact qv (qd true) J
   refine ql<|Qa<|Q9<|qs<|U J<|O (.d (G (w64 (j + 1)))) J<|q9 J<|qr ?_
   exact ⟨_,(Option.some.inj a).symm,wkA [] [] []⟩
  refine Q1 ?_
  refine ⟨_,(Option.some.inj a).symm,fun hm=>?_⟩
  subst hm
  exact ⟨_,J,wkA [] [] []⟩
 intro l hb
 subst hb
 refine qb<|q9 J<|qn ?_
 obtain rfl:=qc g
 exact qv (qd false) J
theorem qrq (c : List qj) (r : Int × Int) (a : q4o c = some r) : Pure Tryz.prog tab 43 [.sl 2 (c.map Q3)] (.tup [G r.1,G r.2]):=by
 unfold q4o at a
 refine Qc Tryz.func43 J (by kernel_rfl) (by kernel_rfl) J<|qb<|q9 J<|q9 J<|q8<|qe<|qb<|U J ?_
 obtain ⟨k,n,a⟩:=q7 a
 refine qt (qdp c k n) J<|O (qd (k != 0)) J<|q8 ?_
 refine qk J a (fun _ a=>?_) (fun _ a=>?_)
 ·refine qb<|U J ?_
  obtain ⟨l,o,a⟩:=q7 a
  refine qt (qdp c l o) J<|q9 J<|q9 J<|qn ?_
  obtain rfl:=qc a
  exact qv (.d (.tup [G 0,G l])) J
 refine ql<|qb<|q9 J<|q8<|qe<|qb<|q9 J<|q8 ?_
 obtain ⟨m,p,a⟩:=q7 a
 refine Qb (fun g=>g = m) (fun (g : Int)=>⟨[(4,q6 g)],[],0⟩) (by simp) ?_ ?_
 ·refine Q7 (q2w c) (fun (f : Int × Int)=>⟨[(0,.d (.sl 2 (c.map Q3))),(4,q6 f.1),(5,q6 f.2)],[],0⟩) (0,0) m p (wkA [] [] []) ?_
  intro f t b
  unfold q2w at b
  refine qe<|qb<|U J<|U J<|Qg J<|O (.d (.bool (decide (f.2 < (c.length : Int))))) J<|q8 ?_
  refine qk J b (fun _ b=>?_) (fun _ b=>?_)
  ·refine ql<|qe<|qu<|Q4 [q0,q0,q0,q0,q0,q0,q0,q0,q0,q0,q0,q0,q0,q0] (by kernel_rfl)<|U J<|U J<|U J ?_
   obtain ⟨h,q,b⟩:=q7 b
   refine Q5 (enc:=Q3) q J<|O (.dref [G h.Lo,G h.Hi] 1) J<|O (q6 h.Hi) J<|O (.d (G (w64 (f.1 + h.Hi)))) J<|U J<|U J ?_
   obtain ⟨j,s,b⟩:=q7 b
   refine Q5 (enc:=Q3) s J<|O (.dref [G j.Lo,G j.Hi] 0) J<|O (q6 j.Lo) J<|O (.d (G (w64 ((w64 (f.1 + h.Hi)) - j.Lo)))) J<|q9 J<|qr<|Q9<|qs<|U J<|O (.d (G (w64 (f.2 + 1)))) J<|q9 J<|qr ?_
   exact ⟨_,(Option.some.inj b).symm,wkA [] [] []⟩
  refine Q1 ?_
  refine ⟨_,(Option.some.inj b).symm,fun hm=>?_⟩
  subst hm
  exact ⟨_,J,wkA [] [] []⟩
 intro g hb
 subst hb
 refine qb<|U J<|q9 J<|q9 J<|qn ?_
 obtain rfl:=qc a
 exact qv (.d (.tup [G g,G 0])) J
theorem qzw (c : List qg) (b : qi) (r : Bool) (a : qae c b = some r) : Pure Tryz.prog tab 7 [.sl 6 (c.map qw),.agg [G b.X,G b.Y,G b.Z]] (.bool r):=by
 unfold qae at a
 refine Qc Tryz.func7 J (by kernel_rfl) (by kernel_rfl) J<|qb<|Qh (.ref 0 3 0 0) (.dat 3 [[G b.X,G b.Y,G b.Z]]) J<|q9 J<|qp ?_
 obtain ⟨j,h2,a⟩:=q7 a
 refine qt (qpd j h2) J<|q9 J<|q8<|qe<|qb<|U J<|Qg J<|O (.d (.bool (decide ((c.length : Int) > 30)))) J ?_
 obtain ⟨c5,u,a⟩:=q7 a
 refine Q0 5 (fun A st=>∃ (j7 j8 j9 ay : V),st = A [(28,qd c5),(27,ay),(26,j9),(25,j8),(24,j7)]) ?_ ?_
 ·refine qy J J u (fun u=>?_) (fun u=>?_)
  ·refine qa J<|qa J<|qa J<|O (qd true) J<|q8 ?_
   obtain rfl:=qc u
   exact ⟨_,_,_,_,J⟩
  refine U J ?_
  obtain ⟨ap,cx,u⟩:=q7 u
  refine qt (qs0 c ap cx) J<|O (qd (ap != 0)) J<|O (qd (ap != 0)) J<|q8 ?_
  obtain rfl:=qc u
  exact ⟨_,_,_,_,J⟩
 rintro _ ⟨j7,j8,j9,ay,rfl⟩
 obtain ⟨cy,ah,a⟩:=q7 a
 refine Q0 4 (fun A st=>∃ (az ba bb : V),st = A [(32,qd cy),(31,bb),(30,ba),(29,az)]) ?_ ?_
 ·refine qy J J ah (fun ah=>?_) (fun ah=>?_)
  ·refine qa J<|qa J<|O (qd true) J<|q8 ?_
   obtain rfl:=qc ah
   exact ⟨_,_,_,J⟩
  refine U J<|O (qd (!j)) J<|O (qd (!j)) J<|q8 ?_
  obtain rfl:=qc ah
  exact ⟨_,_,_,J⟩
 rintro _ ⟨az,ba,bb,rfl⟩
 refine q8 ?_
 refine qk J a (fun _ a=>?_) (fun _ a=>?_)
 ·refine qb<|U J<|q9 J<|qn ?_
  obtain rfl:=qc a
  exact qv (qd j) J
 refine ql<|qb<|U J<|O (.ref 0 3 0 0) J<|O (q6 b.X) J<|O (.ref 0 3 0 1) J<|O (q6 b.Y) J ?_
 obtain ⟨q,cz,a⟩:=q7 a
 refine qt (qdx c b.X b.Y q cz) J<|U J<|O (.d (.sl 2 (q.1.map Q3))) J<|O (q6 q.2) J<|q9 J<|q9 J<|qp<|U J ?_
 obtain ⟨g,da,a⟩:=q7 a
 refine qt (qse c g da) J<|U J<|O (.d (.sl 4 (g.1.map qm))) J<|O (q6 g.2) J<|q9 J<|q9 J<|q8<|qe<|qe<|Q4 [q0,q0,q0,qo 0,q0,q0,qo 0,q0,q0,q0,q0,q0,q0,q0,q0,q0,q0] (by kernel_rfl)<|U J<|O (qd (q.2 != 0)) J ?_
 obtain ⟨dc,v,a⟩:=q7 a
 refine Q0 5 (fun A st=>∃ (bc bd be bf : V),st = A [(54,qd dc),(53,bf),(52,be),(51,bd),(50,bc)]) ?_ ?_
 ·refine qy J J v (fun v=>?_) (fun v=>?_)
  ·refine qa J<|qa J<|qa J<|O (qd true) J<|q8 ?_
   obtain rfl:=qc v
   exact ⟨_,_,_,_,J⟩
  refine U J ?_
  obtain ⟨aq,dd,v⟩:=q7 v
  refine qt (qdp q.1 aq dd) J<|O (qd (aq != 0)) J<|O (qd (aq != 0)) J<|q8 ?_
  obtain rfl:=qc v
  exact ⟨_,_,_,_,J⟩
 rintro _ ⟨bc,bd,be,bf,rfl⟩
 obtain ⟨de,o,a⟩:=q7 a
 refine Q0 10 (fun A st=>∃ (bg bh bi bj bk bl bm bn bo : V),st = A [(64,qd de),(63,bo),(62,bn),(61,bm),(60,bl),(59,bk),(58,bj),(57,bi),(56,bh),(55,bg)]) ?_ ?_
 ·refine qy J J o (fun o=>?_) (fun o=>?_)
  ·refine qa J<|qa J<|qa J<|qa J<|qa J<|qa J<|qa J<|qa J<|O (qd true) J<|q8 ?_
   obtain rfl:=qc o
   exact ⟨_,_,_,_,_,_,_,_,_,J⟩
  refine U J<|O (.ref 0 3 0 2) J<|O (q6 b.Z) J ?_
  obtain ⟨ar,df,o⟩:=q7 o
  refine qt (qro q.1 b.Z ar df) J<|U J<|O (.d (.agg [G b.X,G b.Y,G b.Z])) J ?_
  obtain ⟨au,dg,o⟩:=q7 o
  refine qt (qxo c b au dg) J<|O (.d (.bool (!(ar == au)))) J<|O (.d (.bool (!(ar == au)))) J<|q8 ?_
  obtain rfl:=qc o
  exact ⟨_,_,_,_,_,_,_,_,_,J⟩
 rintro _ ⟨bg,bh,bi,bj,bk,bl,bm,bn,bo,rfl⟩
 refine q8 ?_
 refine qk J a (fun _ a=>?_) (fun _ a=>?_)
 ·refine qb<|q9 J<|qn ?_
  obtain rfl:=qc a
  exact qv (qd false) J
 refine ql<|qe<|qb<|U J<|O (qd (g.2 != 0)) J<|q8 ?_
 refine qk J a (fun _ a=>?_) (fun _ a=>?_)
 ·refine qb<|U J ?_
  obtain ⟨bp,ai,a⟩:=q7 a
  refine Q0 4 (fun A st=>∃ (bq br bs : V),st = A [(71,qd bp),(70,bs),(69,br),(68,bq)]) ?_ ?_
  ·refine qy J J ai (fun ai=>?_) (fun ai=>?_)
   ·refine U J<|O (qd (g.2 == 4)) J<|O (qd (g.2 == 4)) J<|q8 ?_
    obtain rfl:=qc ai
    exact ⟨_,_,_,J⟩
   refine qa J<|qa J<|O (qd false) J<|q8 ?_
   obtain rfl:=qc ai
   exact ⟨_,_,_,J⟩
  rintro _ ⟨bq,br,bs,rfl⟩
  refine q9 J<|qn ?_
  obtain rfl:=qc a
  exact qv (qd bp) J
 refine ql<|qe<|qb<|U J<|O (.ref 0 3 0 0) J<|O (q6 b.X) J<|O (.ref 0 3 0 1) J<|O (q6 b.Y) J ?_
 obtain ⟨bt,dh,a⟩:=q7 a
 refine qt (qdu g.1 b.X b.Y bt dh) J<|U J<|Qg J<|O (.d (.bool (decide ((q.1.length : Int) > 0)))) J<|O (.d (.bool (!(bt == (decide ((q.1.length : Int) > 0)))))) J<|q8 ?_
 refine qk J a (fun _ a=>?_) (fun _ a=>?_)
 ·refine qb<|q9 J<|qn ?_
  obtain rfl:=qc a
  exact qv (qd false) J
 refine ql<|qb<|q9 J<|q8<|qe<|qb<|q9 J<|q8 ?_
 obtain ⟨bu,dj,a⟩:=q7 a
 refine Qb (fun aa=>.inl aa = bu) (fun (aa : Int)=>⟨[(0,.d (.sl 6 (c.map qw))),(5,qd j),(10,q6 aa)],[],0⟩) (by simp) ?_ ?_
 ·refine Q7 (Jg g j c) (fun (k : Int × Int)=>⟨[(0,.d (.sl 6 (c.map qw))),(5,qd j),(8,.d (.sl 4 (g.1.map qm))),(10,q6 k.1),(11,q6 k.2)],[],0⟩) (0,0) bu dj (wkA [] [] []) ?_
  intro k ff m
  unfold Jg at m
  refine qe<|qb<|U J<|U J<|Qg J<|O (.d (.bool (decide (k.2 < (g.1.length : Int))))) J<|q8 ?_
  refine qk J m (fun _ m=>?_) (fun _ m=>?_)
  ·refine ql<|qe ?_
   obtain ⟨dk,h,m⟩:=q7 m
   refine Qb (fun an=>.inl an = dk) (fun (an : Int)=>⟨[(0,.d (.sl 6 (c.map qw))),(5,qd j),(8,.d (.sl 4 (g.1.map qm))),(10,q6 an),(11,q6 k.2)],[],0⟩) (by simp) ?_ ?_
   ·refine qe<|qe<|Q4 [q0,q0,q0,q0,q0,q0,q0,q0,q0,q0,q0,q0,q0,q0,q0,q0,q0,q0,q0,q0,q0,q0,q0,q0,q0,q0] (by kernel_rfl)<|U J<|U J ?_
    obtain ⟨w,dl,h⟩:=q7 h
    refine Q5 (enc:=qm) dl J<|O (.dref [G w.X0,G w.Y0,G w.X1,G w.Y1] 0) J<|O (q6 w.X0) J<|U J<|U J ?_
    obtain ⟨x,dm,h⟩:=q7 h
    refine Q5 (enc:=qm) dm J<|O (.dref [G x.X0,G x.Y0,G x.X1,G x.Y1] 1) J<|O (q6 x.Y0) J<|qdg (r:=min w.X0 x.Y0) J J (by simp only [qd6];rfl)<|O (.d (.bool (decide ((min w.X0 x.Y0) < (-20))))) J ?_
    obtain ⟨dn,p,h⟩:=q7 h
    refine Q0 14 (fun A st=>∃ (bv bw bz ca cb cc cd ce cf cg ch ci cj : V),st = A [(113,qd dn),(112,cj),(111,ci),(110,ch),(109,cg),(108,cf),(107,ce),(106,cd),(105,cc),(104,cb),(103,ca),(102,bz),(101,bw),(100,bv)]) ?_ ?_
    ·refine qy J J p (fun p=>?_) (fun p=>?_)
     ·refine qa J<|qa J<|qa J<|qa J<|qa J<|qa J<|qa J<|qa J<|qa J<|qa J<|qa J<|qa J<|O (qd true) J<|q8 ?_
      obtain rfl:=qc p
      exact ⟨_,_,_,_,_,_,_,_,_,_,_,_,_,J⟩
     refine U J<|U J ?_
     obtain ⟨s,dp,p⟩:=q7 p
     refine Q5 (enc:=qm) dp J<|O (.dref [G s.X0,G s.Y0,G s.X1,G s.Y1] 2) J<|O (q6 s.X1) J<|U J<|U J ?_
     obtain ⟨t,dq,p⟩:=q7 p
     refine Q5 (enc:=qm) dq J<|O (.dref [G t.X0,G t.Y0,G t.X1,G t.Y1] 3) J<|O (q6 t.Y1) J<|qdf (r:=max s.X1 t.Y1) J J (by simp only [qd5];rfl)<|O (.d (.bool (decide ((max s.X1 t.Y1) > 20)))) J<|O (.d (.bool (decide ((max s.X1 t.Y1) > 20)))) J<|q8 ?_
     obtain rfl:=qc p
     exact ⟨_,_,_,_,_,_,_,_,_,_,_,_,_,J⟩
    rintro _ ⟨bv,bw,bz,ca,cb,cc,cd,ce,cf,cg,ch,ci,cj,rfl⟩
    refine q8 ?_
    refine qk J h (fun _ h=>?_) (fun _ h=>?_)
    ·refine qb<|U J<|q9 J<|qn ?_
     obtain rfl:=qc h
     refine ⟨_,(Option.some.inj m).symm,fun hm=>?_⟩
     subst hm
     obtain rfl:=qc a
     exact qv (qd j) J
    refine ql<|qb<|U J<|U J ?_
    obtain ⟨ab,dr,h⟩:=q7 h
    refine Q5 (enc:=qm) dr J<|O (.dref [G ab.X0,G ab.Y0,G ab.X1,G ab.Y1] 0) J<|O (q6 ab.X0) J<|q9 J<|q8 ?_
    obtain ⟨ds,dt,h⟩:=q7 h
    refine qu<|Q7 (q2n g k c) (fun (n : Int × Int)=>⟨[(0,.d (.sl 6 (c.map qw))),(5,qd j),(8,.d (.sl 4 (g.1.map qm))),(10,q6 n.1),(11,q6 k.2),(12,q6 n.2)],[],0⟩) (k.1,ab.X0) ds dt (wkA [] [] []) ?_
    intro n fg l
    unfold q2n at l
    refine qe<|qb<|U J<|U J<|U J ?_
    obtain ⟨ac,du,l⟩:=q7 l
    refine Q5 (enc:=qm) du J<|O (.dref [G ac.X0,G ac.Y0,G ac.X1,G ac.Y1] 2) J<|O (q6 ac.X1) J<|O (.d (.bool (decide (n.2 < ac.X1)))) J<|q8 ?_
    refine qk J l (fun _ l=>?_) (fun _ l=>?_)
    ·refine ql<|qe ?_
     obtain ⟨dv,ad,l⟩:=q7 l
     refine Qb (fun ao=>.inl ao = dv) (fun (ao : Int)=>⟨[(0,.d (.sl 6 (c.map qw))),(5,qd j),(8,.d (.sl 4 (g.1.map qm))),(10,q6 ao),(11,q6 k.2),(12,q6 n.2)],[],0⟩) (by simp) ?_ ?_
     ·refine qb<|U J<|U J ?_
      obtain ⟨ae,dw,ad⟩:=q7 ad
      refine Q5 (enc:=qm) dw J<|O (.dref [G ae.X0,G ae.Y0,G ae.X1,G ae.Y1] 1) J<|O (q6 ae.Y0) J<|q9 J<|q8 ?_
      obtain ⟨dx,dy,ad⟩:=q7 ad
      refine qu<|Q7 (q2o g k c n) (fun (y : Int × Int)=>⟨[(0,.d (.sl 6 (c.map qw))),(5,qd j),(8,.d (.sl 4 (g.1.map qm))),(10,q6 y.1),(11,q6 k.2),(12,q6 n.2),(13,q6 y.2)],[],0⟩) (n.1,ae.Y0) dx dy (wkA [] [] []) ?_
      intro y fh f
      unfold q2o at f
      refine qe<|qb<|U J<|U J<|U J ?_
      obtain ⟨af,dz,f⟩:=q7 f
      refine Q5 (enc:=qm) dz J<|O (.dref [G af.X0,G af.Y0,G af.X1,G af.Y1] 3) J<|O (q6 af.Y1) J<|O (.d (.bool (decide (y.2 < af.Y1)))) J<|q8 ?_
      refine qk J f (fun _ f=>?_) (fun _ f=>?_)
      ·refine ql<|qe<|qu<|qb<|U J<|U J<|U J ?_
       obtain ⟨aj,fa,f⟩:=q7 f
       refine qt (qdx c n.2 y.2 aj fa) J<|U J<|O (.d (.sl 2 (aj.1.map Q3))) J<|O (q6 aj.2) J<|q9 J<|q9 J<|qp<|U J ?_
       obtain ⟨ag,fb,f⟩:=q7 f
       refine qt (qrq aj.1 ag fb) J<|U J<|O (q6 ag.1) J<|O (q6 ag.2) J<|q9 J<|q9 J<|q8<|qe<|qb<|U J<|O (qd (aj.2 != 0)) J ?_
       obtain ⟨fc,ak,f⟩:=q7 f
       refine Q0 4 (fun A st=>∃ (ck cl cm : V),st = A [(160,qd fc),(159,cm),(158,cl),(157,ck)]) ?_ ?_
       ·refine qy J J ak (fun ak=>?_) (fun ak=>?_)
        ·refine qa J<|qa J<|O (qd true) J<|q8 ?_
         obtain rfl:=qc ak
         exact ⟨_,_,_,J⟩
        refine U J<|O (qd (ag.2 != 0)) J<|O (qd (ag.2 != 0)) J<|q8 ?_
        obtain rfl:=qc ak
        exact ⟨_,_,_,J⟩
       rintro _ ⟨ck,cl,cm,rfl⟩
       refine q8 ?_
       refine qk J f (fun _ f=>?_) (fun _ f=>?_)
       ·refine qb<|q9 J<|qn ?_
        refine ⟨_,(Option.some.inj f).symm,fun hm=>?_⟩
        subst hm
        obtain rfl:=qc ad
        refine ⟨_,(Option.some.inj l).symm,fun hm=>?_⟩
        subst hm
        obtain rfl:=qc h
        refine ⟨_,(Option.some.inj m).symm,fun hm=>?_⟩
        subst hm
        obtain rfl:=qc a
        exact qv (qd false) J
       refine ql<|qs<|U J<|U J<|O (.d (G (w64 (y.1 + ag.1)))) J<|q9 J<|qr<|Q9<|qs<|U J<|O (.d (G (w64 (y.2 + 1)))) J<|q9 J<|qr ?_
       exact ⟨_,(Option.some.inj f).symm,wkA [] [] []⟩
      refine Q1 ?_
      refine ⟨_,(Option.some.inj f).symm,fun hm=>?_⟩
      subst hm
      obtain rfl:=qc ad
      exact ⟨_,J,wkA [] [] []⟩
     intro ao hb
     subst hb
     refine qs<|U J<|O (.d (G (w64 (n.2 + 1)))) J<|q9 J<|qr ?_
     exact ⟨_,(Option.some.inj l).symm,wkA [] [] []⟩
    refine Q1 ?_
    refine ⟨_,(Option.some.inj l).symm,fun hm=>?_⟩
    subst hm
    obtain rfl:=qc h
    exact ⟨_,J,wkA [] [] []⟩
   intro an hb
   subst hb
   refine qs<|U J<|O (.d (G (w64 (k.2 + 1)))) J<|q9 J<|qr ?_
   exact ⟨_,(Option.some.inj m).symm,wkA [] [] []⟩
  refine Q1 ?_
  refine ⟨_,(Option.some.inj m).symm,fun hm=>?_⟩
  subst hm
  exact ⟨_,J,wkA [] [] []⟩
 intro aa hb
 subst hb
 refine qb<|U J ?_
 obtain ⟨z,fd,a⟩:=q7 a
 refine qt (qei c z fd) J<|U J<|O (q6 z.1) J<|O (q6 z.2) J<|q9 J<|q9 J<|qp<|U J ?_
 obtain ⟨fe,al,a⟩:=q7 a
 refine Q0 4 (fun A st=>∃ (cn co cp : V),st = A [(173,qd fe),(172,cp),(171,co),(170,cn)]) ?_ ?_
 ·refine qy J J al (fun al=>?_) (fun al=>?_)
  ·refine U J<|O (qd (z.2 == 0)) J<|O (qd (z.2 == 0)) J<|q8 ?_
   obtain rfl:=qc al
   exact ⟨_,_,_,J⟩
  refine qa J<|qa J<|O (qd false) J<|q8 ?_
  obtain rfl:=qc al
  exact ⟨_,_,_,J⟩
 rintro _ ⟨cn,co,cp,rfl⟩
 obtain ⟨cq,am,a⟩:=q7 a
 refine Q0 5 (fun A st=>∃ (cr cs ct cu : V),st = A [(178,qd cq),(177,cu),(176,ct),(175,cs),(174,cr)]) ?_ ?_
 ·refine qy J J am (fun am=>?_) (fun am=>?_)
  ·refine U J<|U J<|O (qd (z.1 == aa)) J<|O (qd (z.1 == aa)) J<|q8 ?_
   obtain rfl:=qc am
   exact ⟨_,_,_,_,J⟩
  refine qa J<|qa J<|qa J<|O (qd false) J<|q8 ?_
  obtain rfl:=qc am
  exact ⟨_,_,_,_,J⟩
 rintro _ ⟨cr,cs,ct,cu,rfl⟩
 refine q9 J<|qn ?_
 obtain rfl:=qc a
 exact qv (qd cq) J
end Go.Proofs.YtlchefooafpdlaaGreat
namespace Go.Proofs.YtlchefooafpdlaaGreat
open Go Go.Am Go.Sh
end Go.Proofs.YtlchefooafpdlaaGreat
