/- W_Alld W_All -/
import Derived.Test.YtlchefooafpdlaaGreatK17
namespace Go.Proofs.YtlchefooafpdlaaGreat
open Go Go.Am Go.Sh
set_option maxHeartbeats 8000000
set_option maxRecDepth 100000
theorem qs2 (f : List qj) (r : List qf × Int) (b : q7h f = some r) : Pure Tryz.prog tab 14 [.sl 6 (f.map Qf)] (.tup [.sl 4 (r.1.map qm),G r.2]):=by
 unfold q7h at b
 refine Qa Tryz.func14 J (by kernel_rfl) (by kernel_rfl) J<|qb<|qa J<|qa J<|q8<|qe<|qb<|U J ?_
 obtain ⟨k,m,b⟩:=q7 b
 refine qt (qb3 f k m) J<|qa J<|qo<|U J<|O (qd (k != 0)) J<|q8 ?_
 refine qk J b (fun _ b=>?_) (fun _ b=>?_)
 ·refine qb<|U J<|qa J<|qa J<|qp ?_
  obtain rfl:=qc b
  exact finD (.inr J) (v:=.d (.tup [.nilsl,G k])) J J (Yu (.cons (.nil _) (.cons (.refl _) .nil)))
 refine ql<|qb<|qa J<|q8<|qe<|qb<|U J<|Qk J<|U J<|q8 ?_
 obtain ⟨l,n,b⟩:=q7 b
 refine Qd (fun g=>g = l) (fun (g : List qf)=>⟨[(5,.hs 0 4 0 g.length)],[(0,.dat 4 (g.map qm))],1⟩) (by simp) ?_ ?_
 ·refine Q6 (q4p f) (fun (h : Int × List qf)=>⟨[(5,.hs 0 4 0 h.2.length),(13,.d (.sl 6 (f.map Qf))),(14,q6 (f.length : Int)),(15,q6 h.1)],[(0,.dat 4 (h.2.map qm))],1⟩) (0,[]) l n (wkA [] [] [0]) ?_
  intro h s c
  unfold q4p at c
  refine qb<|O (.d (.bool (decide (h.1 < (f.length : Int))))) J<|q8<|qe ?_
  refine qk J c (fun _ c=>?_) (fun _ c=>?_)
  ·refine ql<|qe<|qu<|qb ?_
   obtain ⟨a,o,c⟩:=q7 c
   refine Qc (enc:=Qf) o J<|O (.d (.agg [G a.Lo.X,G a.Lo.Y,G a.Lo.Z,G a.Hi.X,G a.Hi.Y,G a.Hi.Z])) J<|Qp J J<|Q3 1 (.dat 6 [[G a.Lo.X,G a.Lo.Y,G a.Lo.Z,G a.Hi.X,G a.Hi.Y,G a.Hi.Z]]) J<|q8<|qs<|U J<|O (.ref 1 6 0 0) J<|O (.ref 1 6 0 0) J<|O (q6 a.Lo.X) J<|O (.ref 1 6 0 0) J<|O (.ref 1 6 0 1) J<|O (q6 a.Lo.Y) J<|O (.ref 1 6 0 3) J<|O (.ref 1 6 0 3) J<|O (q6 a.Hi.X) J<|O (.ref 1 6 0 3) J<|O (.ref 1 6 0 4) J<|O (q6 a.Hi.Y) J<|O (.d (.agg [G a.Lo.X,G a.Lo.Y,G a.Hi.X,G a.Hi.Y])) J<|Qh (.hs 2 4 0 [({X0:=a.Lo.X,Y0:=a.Lo.Y,X1:=a.Hi.X,Y1:=a.Hi.Y} : qf)].length) (.dat 4 ([({X0:=a.Lo.X,Y0:=a.Lo.Y,X1:=a.Hi.X,Y1:=a.Hi.Y} : qf)].map qm)) J ?_
   obtain ⟨t,p,c⟩:=q7 c
   refine Y2 (xs:=h.2) (ys:=[({X0:=a.Lo.X,Y0:=a.Lo.Y,X1:=a.Hi.X,Y1:=a.Hi.Y} : qf)]) (enc:=qm) (.hs 2 4 0 [({X0:=a.Lo.X,Y0:=a.Lo.Y,X1:=a.Hi.X,Y1:=a.Hi.Y} : qf)].length) p J J J J J J J (Kz J J) J J J J<|qa J<|qr<|Q8<|qs<|O (.d (G (w64 (h.1 + 1)))) J<|U J<|qr ?_
   exact ⟨_,(Option.some.inj c).symm,wkA [(0,3)] [] []⟩
  refine Q1 ?_
  refine ⟨_,(Option.some.inj c).symm,fun hm=>?_⟩
  subst hm
  exact ⟨_,J,wkA [(0,0)] [] []⟩
 intro g hb
 subst hb
 refine qe ?_
 refine Ys (st':=⟨[(5,.d (.sl 4 (g.map qm)))],[],0⟩) (wkA [] [0] []) ?_ (by simp)
 refine qs<|U J ?_
 obtain ⟨j,q,b⟩:=q7 b
 refine qt (qj4 g j q) J<|O (.d (.sl 4 (j.1.map qm))) J<|O (q6 j.2) J<|qa J<|qa J<|qp ?_
 obtain rfl:=qc b
 exact qv (.d (.tup [.sl 4 (j.1.map qm),G j.2])) J
theorem qxb (f : List qj) (g : Int) (r : List qf × Int) (c : q8o f g = some r) : Pure Tryz.prog tab 23 [.sl 6 (f.map Qf),G g] (.tup [.sl 4 (r.1.map qm),G r.2]):=by
 unfold q8o at c
 refine Qa Tryz.func23 J (by kernel_rfl) (by kernel_rfl) J<|qb<|qa J<|qa J<|q8<|qe<|qb<|U J ?_
 obtain ⟨n,x,c⟩:=q7 c
 refine qt (qb3 f n x) J<|qa J<|qo<|U J<|O (qd (n != 0)) J<|q8 ?_
 refine qk J c (fun _ c=>?_) (fun _ c=>?_)
 ·refine qb<|U J<|qa J<|qa J<|qp ?_
  obtain rfl:=qc c
  exact finD (.inr J) (v:=.d (.tup [.nilsl,G n])) J J (Yu (.cons (.nil _) (.cons (.refl _) .nil)))
 refine ql<|qb<|qa J<|q8<|qe<|qb<|U J<|Qk J<|U J<|q8 ?_
 obtain ⟨o,y,c⟩:=q7 c
 refine Qd (fun k=>k = o) (fun (k : List qf)=>⟨[(7,.hs 0 4 0 k.length)],[(0,.dat 4 (k.map qm))],1⟩) (by simp) ?_ ?_
 ·refine Q6 (qb4 f g) (fun (h : Int × List qf)=>⟨[(1,q6 g),(7,.hs 0 4 0 h.2.length),(15,.d (.sl 6 (f.map Qf))),(16,q6 (f.length : Int)),(17,q6 h.1)],[(0,.dat 4 (h.2.map qm))],1⟩) (0,[]) o y (wkA [] [] [0]) ?_
  intro h ad j
  unfold qb4 at j
  refine qb<|O (.d (.bool (decide (h.1 < (f.length : Int))))) J<|q8<|qe ?_
  refine qk J j (fun _ j=>?_) (fun _ j=>?_)
  ·refine ql<|qe ?_
   obtain ⟨z,b,j⟩:=q7 j
   refine Qd (fun l=>l = z) (fun (l : List qf)=>⟨[(1,q6 g),(7,.hs 0 4 0 l.length),(15,.d (.sl 6 (f.map Qf))),(16,q6 (f.length : Int)),(17,q6 h.1)],[(0,.dat 4 (l.map qm))],1⟩) (by simp) ?_ ?_
   ·refine qb ?_
    obtain ⟨a,aa,b⟩:=q7 b
    refine Qc (enc:=Qf) aa J<|O (.d (.agg [G a.Lo.X,G a.Lo.Y,G a.Lo.Z,G a.Hi.X,G a.Hi.Y,G a.Hi.Z])) J<|Qp J J<|Q3 1 (.dat 6 [[G a.Lo.X,G a.Lo.Y,G a.Lo.Z,G a.Hi.X,G a.Hi.Y,G a.Hi.Z]]) J<|qo<|O (.ref 1 6 0 0) J<|O (.ref 1 6 0 2) J<|O (q6 a.Lo.Z) J<|U J<|O (.d (.bool (decide (a.Lo.Z≤g)))) J ?_
    obtain ⟨ab,m,b⟩:=q7 b
    refine qy 7 (fun A st=>∃ (p q s t u w : V),st = A [(32,qd ab),(31,w),(30,u),(29,t),(28,s),(27,q),(26,p)]) ?_ ?_
    ·refine qw J J m (fun m=>?_) (fun m=>?_)
     ·refine U J<|O (.ref 1 6 0 3) J<|O (.ref 1 6 0 5) J<|O (q6 a.Hi.Z) J<|O (.d (.bool (decide (g < a.Hi.Z)))) J<|O (.d (.bool (decide (g < a.Hi.Z)))) J<|q8 ?_
      obtain rfl:=qc m
      exact ⟨_,_,_,_,_,_,J⟩
     refine q9 J<|q9 J<|q9 J<|q9 J<|q9 J<|O (qd false) J<|q8 ?_
     obtain rfl:=qc m
     exact ⟨_,_,_,_,_,_,J⟩
    rintro _ ⟨p,q,s,t,u,w,rfl⟩
    refine q8 ?_
    refine qk J b (fun _ b=>?_) (fun _ b=>?_)
    ·refine qs<|U J<|O (.ref 1 6 0 0) J<|O (.ref 1 6 0 0) J<|O (q6 a.Lo.X) J<|O (.ref 1 6 0 0) J<|O (.ref 1 6 0 1) J<|O (q6 a.Lo.Y) J<|O (.ref 1 6 0 3) J<|O (.ref 1 6 0 3) J<|O (q6 a.Hi.X) J<|O (.ref 1 6 0 3) J<|O (.ref 1 6 0 4) J<|O (q6 a.Hi.Y) J<|O (.d (.agg [G a.Lo.X,G a.Lo.Y,G a.Hi.X,G a.Hi.Y])) J<|Qh (.hs 2 4 0 [({X0:=a.Lo.X,Y0:=a.Lo.Y,X1:=a.Hi.X,Y1:=a.Hi.Y} : qf)].length) (.dat 4 ([({X0:=a.Lo.X,Y0:=a.Lo.Y,X1:=a.Hi.X,Y1:=a.Hi.Y} : qf)].map qm)) J ?_
     obtain ⟨ae,ac,b⟩:=q7 b
     refine Y2 (xs:=h.2) (ys:=[({X0:=a.Lo.X,Y0:=a.Lo.Y,X1:=a.Hi.X,Y1:=a.Hi.Y} : qf)]) (enc:=qm) (.hs 2 4 0 [({X0:=a.Lo.X,Y0:=a.Lo.Y,X1:=a.Hi.X,Y1:=a.Hi.Y} : qf)].length) ac J J J J J J J (Kz J J) J J J J<|qa J<|qr ?_
     obtain rfl:=qc b
     exact ⟨_,J,wkA [(0,3)] [] []⟩
    refine ql<|Q7 ?_
    obtain rfl:=qc b
    exact ⟨_,J,wkA [(0,0)] [] []⟩
   intro l hb
   subst hb
   refine qs<|O (.d (G (w64 (h.1 + 1)))) J<|U J<|qr ?_
   exact ⟨_,(Option.some.inj j).symm,wkA [(0,0)] [] []⟩
  refine Q1 ?_
  refine ⟨_,(Option.some.inj j).symm,fun hm=>?_⟩
  subst hm
  exact ⟨_,J,wkA [(0,0)] [] []⟩
 intro k hb
 subst hb
 refine qb<|U J<|qa J<|qa J<|qp ?_
 obtain rfl:=qc c
 exact finD (.inr J) (v:=.tup [.hs 0 4 0 k.length,q6 0]) J (q94 (Je (Zo J J) (Je J J))) (.refl _)
theorem qzn (f : List qf) (b : Int) (c : Int) (j : Int) (r : Bool) (a : q6x f b c j = some r) : Pure Tryz.prog tab 8 [.sl 4 (f.map qm),G b,G c,G j] (.bool r):=by
 unfold q6x at a
 refine Qa Tryz.func8 J (by kernel_rfl) (by kernel_rfl) J<|qb<|qa J<|qo ?_
 obtain ⟨r1,h2,a⟩:=q7 a
 refine qt (qha r1 h2) J<|qa J<|q8<|qe<|qb<|U J<|Qk J<|O (.d (.bool (decide ((f.length : Int) > 60)))) J ?_
 obtain ⟨c5,k,a⟩:=q7 a
 refine qy 5 (fun A st=>∃ (j7 j8 j9 ah : V),st = A [(28,qd c5),(27,ah),(26,j9),(25,j8),(24,j7)]) ?_ ?_
 ·refine qw J J k (fun k=>?_) (fun k=>?_)
  ·refine q9 J<|q9 J<|q9 J<|O (qd true) J<|q8 ?_
   obtain rfl:=qc k
   exact ⟨_,_,_,_,J⟩
  refine U J ?_
  obtain ⟨ad,cn,k⟩:=q7 k
  refine qt (qiu f ad cn) J<|O (qd (ad != 0)) J<|O (qd (ad != 0)) J<|q8 ?_
  obtain rfl:=qc k
  exact ⟨_,_,_,_,J⟩
 rintro _ ⟨j7,j8,j9,ah,rfl⟩
 obtain ⟨co,q,a⟩:=q7 a
 refine qy 4 (fun A st=>∃ (ai aj ak : V),st = A [(32,qd co),(31,ak),(30,aj),(29,ai)]) ?_ ?_
 ·refine qw J J q (fun q=>?_) (fun q=>?_)
  ·refine q9 J<|q9 J<|O (qd true) J<|q8 ?_
   obtain rfl:=qc q
   exact ⟨_,_,_,J⟩
  refine U J<|O (.d (.bool (decide (b < (-1000))))) J<|O (.d (.bool (decide (b < (-1000))))) J<|q8 ?_
  obtain rfl:=qc q
  exact ⟨_,_,_,J⟩
 rintro _ ⟨ai,aj,ak,rfl⟩
 obtain ⟨cp,s,a⟩:=q7 a
 refine qy 4 (fun A st=>∃ (al am an : V),st = A [(36,qd cp),(35,an),(34,am),(33,al)]) ?_ ?_
 ·refine qw J J s (fun s=>?_) (fun s=>?_)
  ·refine q9 J<|q9 J<|O (qd true) J<|q8 ?_
   obtain rfl:=qc s
   exact ⟨_,_,_,J⟩
  refine U J<|O (.d (.bool (decide (c > 1000)))) J<|O (.d (.bool (decide (c > 1000)))) J<|q8 ?_
  obtain rfl:=qc s
  exact ⟨_,_,_,J⟩
 rintro _ ⟨al,am,an,rfl⟩
 obtain ⟨cq,t,a⟩:=q7 a
 refine qy 5 (fun A st=>∃ (ao ap aq ar : V),st = A [(41,qd cq),(40,ar),(39,aq),(38,ap),(37,ao)]) ?_ ?_
 ·refine qw J J t (fun t=>?_) (fun t=>?_)
  ·refine q9 J<|q9 J<|q9 J<|O (qd true) J<|q8 ?_
   obtain rfl:=qc t
   exact ⟨_,_,_,_,J⟩
  refine U J<|U J<|O (.d (.bool (decide (b > j)))) J<|O (.d (.bool (decide (b > j)))) J<|q8 ?_
  obtain rfl:=qc t
  exact ⟨_,_,_,_,J⟩
 rintro _ ⟨ao,ap,aq,ar,rfl⟩
 obtain ⟨cr,u,a⟩:=q7 a
 refine qy 5 (fun A st=>∃ (au av aw ax : V),st = A [(46,qd cr),(45,ax),(44,aw),(43,av),(42,au)]) ?_ ?_
 ·refine qw J J u (fun u=>?_) (fun u=>?_)
  ·refine q9 J<|q9 J<|q9 J<|O (qd true) J<|q8 ?_
   obtain rfl:=qc u
   exact ⟨_,_,_,_,J⟩
  refine U J<|U J<|O (.d (.bool (decide (j ≥ c)))) J<|O (.d (.bool (decide (j ≥ c)))) J<|q8 ?_
  obtain rfl:=qc u
  exact ⟨_,_,_,_,J⟩
 rintro _ ⟨au,av,aw,ax,rfl⟩
 obtain ⟨cs,v,a⟩:=q7 a
 refine qy 4 (fun A st=>∃ (ay az ba : V),st = A [(50,qd cs),(49,ba),(48,az),(47,ay)]) ?_ ?_
 ·refine qw J J v (fun v=>?_) (fun v=>?_)
  ·refine q9 J<|q9 J<|O (qd true) J<|q8 ?_
   obtain rfl:=qc v
   exact ⟨_,_,_,J⟩
  refine U J<|O (qd (!r1)) J<|O (qd (!r1)) J<|q8 ?_
  obtain rfl:=qc v
  exact ⟨_,_,_,J⟩
 rintro _ ⟨ay,az,ba,rfl⟩
 refine q8 ?_
 refine qk J a (fun _ a=>?_) (fun _ a=>?_)
 ·refine qb<|U J<|qa J<|qp ?_
  obtain rfl:=qc a
  exact qv (qd r1) J
 refine ql<|qb<|U J<|U J<|U J ?_
 obtain ⟨g,ct,a⟩:=q7 a
 refine qt (qiy f b c g ct) J<|U J<|O (.d (.sl 6 (g.1.map Qf))) J<|O (q6 g.2) J<|qa J<|qa J<|qo<|U J ?_
 obtain ⟨l,cu,a⟩:=q7 a
 refine qt (qb5 g.1 l cu) J<|U J<|O (q6 l.1) J<|O (q6 l.2) J<|qa J<|qa J<|qo<|U J ?_
 obtain ⟨h,cv,a⟩:=q7 a
 refine qt (qj2 f h cv) J<|U J<|O (q6 h.1) J<|O (q6 h.2) J<|qa J<|qa J<|qo<|U J ?_
 obtain ⟨o,cw,a⟩:=q7 a
 refine qt (qs2 g.1 o cw) J<|U J<|O (.d (.sl 4 (o.1.map qm))) J<|O (q6 o.2) J<|qa J<|qa J<|qo<|U J<|U J ?_
 obtain ⟨p,cx,a⟩:=q7 a
 refine qt (qxb g.1 j p cx) J<|U J<|O (.d (.sl 4 (p.1.map qm))) J<|O (q6 p.2) J<|qa J<|qa J<|qo<|U J ?_
 obtain ⟨cy,w,a⟩:=q7 a
 refine qy 4 (fun A st=>∃ (bb bc bd : V),st = A [(84,qd cy),(83,bd),(82,bc),(81,bb)]) ?_ ?_
 ·refine qw J J w (fun w=>?_) (fun w=>?_)
  ·refine U J<|O (qd (g.2 == 0)) J<|O (qd (g.2 == 0)) J<|q8 ?_
   obtain rfl:=qc w
   exact ⟨_,_,_,J⟩
  refine q9 J<|q9 J<|O (qd false) J<|q8 ?_
  obtain rfl:=qc w
  exact ⟨_,_,_,J⟩
 rintro _ ⟨bb,bc,bd,rfl⟩
 obtain ⟨cz,x,a⟩:=q7 a
 refine qy 4 (fun A st=>∃ (be bf bg : V),st = A [(88,qd cz),(87,bg),(86,bf),(85,be)]) ?_ ?_
 ·refine qw J J x (fun x=>?_) (fun x=>?_)
  ·refine U J<|O (qd (l.2 == 0)) J<|O (qd (l.2 == 0)) J<|q8 ?_
   obtain rfl:=qc x
   exact ⟨_,_,_,J⟩
  refine q9 J<|q9 J<|O (qd false) J<|q8 ?_
  obtain rfl:=qc x
  exact ⟨_,_,_,J⟩
 rintro _ ⟨be,bf,bg,rfl⟩
 obtain ⟨da,y,a⟩:=q7 a
 refine qy 4 (fun A st=>∃ (bh bi bj : V),st = A [(92,qd da),(91,bj),(90,bi),(89,bh)]) ?_ ?_
 ·refine qw J J y (fun y=>?_) (fun y=>?_)
  ·refine U J<|O (qd (h.2 == 0)) J<|O (qd (h.2 == 0)) J<|q8 ?_
   obtain rfl:=qc y
   exact ⟨_,_,_,J⟩
  refine q9 J<|q9 J<|O (qd false) J<|q8 ?_
  obtain rfl:=qc y
  exact ⟨_,_,_,J⟩
 rintro _ ⟨bh,bi,bj,rfl⟩
 obtain ⟨dc,z,a⟩:=q7 a
 refine qy 9 (fun A st=>∃ (bk bl bm bn bo bp bq br : V),st = A [(101,qd dc),(100,br),(99,bq),(98,bp),(97,bo),(96,bn),(95,bm),(94,bl),(93,bk)]) ?_ ?_
 ·refine qw J J z (fun z=>?_) (fun z=>?_)
  ·refine U J<|U J<|U J<|U J<|O (.d (G (w64 (c - b)))) J<|O (.d (G (w64 (h.1 * (w64 (c - b)))))) J<|O (.d (.bool (l.1 == (w64 (h.1 * (w64 (c - b))))))) J<|O (.d (.bool (l.1 == (w64 (h.1 * (w64 (c - b))))))) J<|q8 ?_
   obtain rfl:=qc z
   exact ⟨_,_,_,_,_,_,_,_,J⟩
  refine q9 J<|q9 J<|q9 J<|q9 J<|q9 J<|q9 J<|q9 J<|O (qd false) J<|q8 ?_
  obtain rfl:=qc z
  exact ⟨_,_,_,_,_,_,_,_,J⟩
 rintro _ ⟨bk,bl,bm,bn,bo,bp,bq,br,rfl⟩
 obtain ⟨dd,aa,a⟩:=q7 a
 refine qy 4 (fun A st=>∃ (bs bt bu : V),st = A [(105,qd dd),(104,bu),(103,bt),(102,bs)]) ?_ ?_
 ·refine qw J J aa (fun aa=>?_) (fun aa=>?_)
  ·refine U J<|O (qd (o.2 == 0)) J<|O (qd (o.2 == 0)) J<|q8 ?_
   obtain rfl:=qc aa
   exact ⟨_,_,_,J⟩
  refine q9 J<|q9 J<|O (qd false) J<|q8 ?_
  obtain rfl:=qc aa
  exact ⟨_,_,_,J⟩
 rintro _ ⟨bs,bt,bu,rfl⟩
 obtain ⟨de,m,a⟩:=q7 a
 refine qy 5 (fun A st=>∃ (bv bw bz ca : V),st = A [(110,qd de),(109,ca),(108,bz),(107,bw),(106,bv)]) ?_ ?_
 ·refine qw J J m (fun m=>?_) (fun m=>?_)
  ·refine U J<|U J ?_
   obtain ⟨cb,df,m⟩:=q7 m
   refine qt (qdq o.1 f cb df) J<|O (qd cb) J<|q8 ?_
   obtain rfl:=qc m
   exact ⟨_,_,_,_,J⟩
  refine q9 J<|q9 J<|q9 J<|O (qd false) J<|q8 ?_
  obtain rfl:=qc m
  exact ⟨_,_,_,_,J⟩
 rintro _ ⟨bv,bw,bz,ca,rfl⟩
 obtain ⟨dg,ab,a⟩:=q7 a
 refine qy 4 (fun A st=>∃ (cc cd ce : V),st = A [(114,qd dg),(113,ce),(112,cd),(111,cc)]) ?_ ?_
 ·refine qw J J ab (fun ab=>?_) (fun ab=>?_)
  ·refine U J<|O (qd (p.2 == 0)) J<|O (qd (p.2 == 0)) J<|q8 ?_
   obtain rfl:=qc ab
   exact ⟨_,_,_,J⟩
  refine q9 J<|q9 J<|O (qd false) J<|q8 ?_
  obtain rfl:=qc ab
  exact ⟨_,_,_,J⟩
 rintro _ ⟨cc,cd,ce,rfl⟩
 obtain ⟨cf,n,a⟩:=q7 a
 refine qy 5 (fun A st=>∃ (cg ch ci cj : V),st = A [(119,qd cf),(118,cj),(117,ci),(116,ch),(115,cg)]) ?_ ?_
 ·refine qw J J n (fun n=>?_) (fun n=>?_)
  ·refine U J<|U J ?_
   obtain ⟨ck,dh,n⟩:=q7 n
   refine qt (qdq p.1 f ck dh) J<|O (qd ck) J<|q8 ?_
   obtain rfl:=qc n
   exact ⟨_,_,_,_,J⟩
  refine q9 J<|q9 J<|q9 J<|O (qd false) J<|q8 ?_
  obtain rfl:=qc n
  exact ⟨_,_,_,_,J⟩
 rintro _ ⟨cg,ch,ci,cj,rfl⟩
 refine qa J<|qp ?_
 obtain rfl:=qc a
 exact qv (qd cf) J
end Go.Proofs.YtlchefooafpdlaaGreat
namespace Go.Proofs.YtlchefooafpdlaaGreat
open Go Go.Am Go.Sh
end Go.Proofs.YtlchefooafpdlaaGreat
