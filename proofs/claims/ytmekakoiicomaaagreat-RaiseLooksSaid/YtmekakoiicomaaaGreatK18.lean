/- W_Lookc -/
import Derived.Test.YtmekakoiicomaaaGreatK17
namespace Go.Proofs.YtmekakoiicomaaaGreat
open Go Go.Am Go.Sh
set_option maxHeartbeats 8000000
set_option maxRecDepth 100000
theorem qmr (h : List qd) (j : Int) (k : Int) (r : Bool) (g : q6d h j k = some r) : Pure Tryz.prog tab 118 [.sl 4 (h.map qm),qg j,qg k] (.bool r):=by
 unfold q6d at g;refine K2 Tryz.func118 J qh qh J<|qc<|qa J<|q9<|qf<|qc<|qa J<|q9<|q7 g fun m an g=>?_;refine Qm (fun l=>.inl l = m) (fun l=>⟨[],[],0⟩) qe ?_ ?_
 ·refine Qb (q32 h j k) (fun n=>⟨[(0,.d (.sl 4 (h.map qm))),(1,q8 j),(2,q8 k),(7,q8 n)],[],0⟩) _ m an (wkA [] [] []) ?_;intro n ax a;unfold q32 at a;refine qf<|qc<|O J<|O J<|Qw J<|U _ J<|q9 ?_;refine qn J a (fun _ a=>?_) (fun _ a=>?_)
  ·refine qo<|qf<|Q6<|qc<|O J<|O J<|q7 a fun ay ao a=>Qa ao J<|U _ J<|U _ J<|O J<|U _ J<|q7 a fun ap b a=>?_;refine Qh 9 (fun A st=>∃ o p q s t u v w,st = A [(29,Q5 ap),(28,w),(27,v),(26,u),(25,t),(24,s),(23,q),(22,p),(21,o)]) ?_ ?_
   ·refine Qi J J b (fun b=>?_) (fun b=>?_)
    ·refine O J<|O J<|O J<|q7 b fun az aq b=>Qa aq J<|U _ J<|U _ J<|U _ J<|U _ J<|q9 ?_;cases b;exact ⟨_,_,_,_,_,_,_,_,J⟩
    refine qb J<|qb J<|qb J<|qb J<|qb J<|qb J<|qb J<|U _ J<|q9 ?_;cases b;exact ⟨_,_,_,_,_,_,_,_,J⟩
   rintro _ ⟨o,p,q,s,t,u,v,w,rfl⟩;refine q7 a fun ar c a=>?_;refine Qh 9 (fun A st=>∃ x y z aa ab ac ad ae,st = A [(38,Q5 ar),(37,ae),(36,ad),(35,ac),(34,ab),(33,aa),(32,z),(31,y),(30,x)]) ?_ ?_
   ·refine Qi J J c (fun c=>?_) (fun c=>?_)
    ·refine O J<|O J<|q7 c fun ba au c=>Qa au J<|U _ J<|U _ J<|O J<|U _ J<|U _ J<|q9 ?_;cases c;exact ⟨_,_,_,_,_,_,_,_,J⟩
    refine qb J<|qb J<|qb J<|qb J<|qb J<|qb J<|qb J<|U _ J<|q9 ?_;cases c;exact ⟨_,_,_,_,_,_,_,_,J⟩
   rintro _ ⟨x,y,z,aa,ab,ac,ad,ae,rfl⟩;refine q7 a fun av f a=>?_;refine Qh 9 (fun A st=>∃ af ag ah ai aj ak al am,st = A [(47,Q5 av),(46,am),(45,al),(44,ak),(43,aj),(42,ai),(41,ah),(40,ag),(39,af)]) ?_ ?_
   ·refine Qi J J f (fun f=>?_) (fun f=>?_)
    ·refine O J<|O J<|O J<|q7 f fun bb aw f=>Qa aw J<|U _ J<|U _ J<|U _ J<|U _ J<|q9 ?_;cases f;exact ⟨_,_,_,_,_,_,_,_,J⟩
    refine qb J<|qb J<|qb J<|qb J<|qb J<|qb J<|qb J<|U _ J<|q9 ?_;cases f;exact ⟨_,_,_,_,_,_,_,_,J⟩
   rintro _ ⟨af,ag,ah,ai,aj,ak,al,am,rfl⟩;refine q9 ?_;refine qn J a (fun _ a=>?_) (fun _ a=>?_)
   ·refine qc<|qa J<|Q2 ?_;refine ⟨_,ql a,fun hm=>?_⟩;subst hm;cases g;exact Qo _ J
   refine qo<|Qj<|Qk<|Q0<|O J<|U _ J<|qa J<|qv<|⟨_,ql a,wkA [] [] []⟩
  refine Q7 ?_;refine ⟨_,ql a,fun hm=>?_⟩;subst hm;exact ⟨_,J,wkA [] [] []⟩
 intro l hb;subst hb;refine qc<|qa J<|Q2 ?_;cases g;exact Qo _ J
theorem qwt (f : Int) (g : Bool) (h : Bool) (r : Bool) (a : q6b f g h = some r) : Pure Tryz.prog tab 117 [qg f,.bool g,.bool h] (.bool r):=by
 unfold q6b at a;refine K2 Tryz.func117 J qh qh J<|qc<|qa J<|q9<|qf<|qc<|O J<|U _ J<|q9 ?_;refine qn J a (fun _ a=>?_) (fun _ a=>?_)
 ·refine qc<|O J<|q7 a fun q b a=>?_;refine Qh 3 (fun A st=>∃ j k,st = A [(12,Q5 q),(11,k),(10,j)]) ?_ ?_
  ·refine Qi J J b (fun b=>?_) (fun b=>?_)
   ·refine O J<|U _ J<|q9 ?_;cases b;exact ⟨_,_,J⟩
   refine qb J<|U _ J<|q9 ?_;cases b;exact ⟨_,_,J⟩
  rintro _ ⟨j,k,rfl⟩;refine qa J<|Q2 ?_;cases a;exact Qo _ J
 refine qo<|qf<|qc<|O J<|U _ J<|q9 ?_;refine qn J a (fun _ a=>?_) (fun _ a=>?_)
 ·refine qc<|O J<|q7 a fun s c a=>?_;refine Qh 3 (fun A st=>∃ l m,st = A [(18,Q5 s),(17,m),(16,l)]) ?_ ?_
  ·refine Qi J J c (fun c=>?_) (fun c=>?_)
   ·refine qb J<|U _ J<|q9 ?_;cases c;exact ⟨_,_,J⟩
   refine O J<|U _ J<|q9 ?_;cases c;exact ⟨_,_,J⟩
  rintro _ ⟨l,m,rfl⟩;refine qa J<|Q2 ?_;cases a;exact Qo _ J
 refine qo<|qc<|O J<|q7 a fun t d a=>?_;refine Qh 4 (fun A st=>∃ n o p,st = A [(23,Q5 t),(22,p),(21,o),(20,n)]) ?_ ?_
 ·refine Qi J J d (fun d=>?_) (fun d=>?_)
  ·refine O J<|U _ J<|U _ J<|q9 ?_;cases d;exact ⟨_,_,_,J⟩
  refine qb J<|qb J<|U _ J<|q9 ?_;cases d;exact ⟨_,_,_,J⟩
 rintro _ ⟨n,o,p,rfl⟩;refine qa J<|Q2 ?_;cases a;exact Qo _ J
theorem qgl (f : List Int) (g : List Bool) (r : List qp) (l : Uf f g = some r) : Pure Tryz.prog tab 64 [.sl 1 (f.map (eI .i64)),.sl 1 (g.map eB)] (.sl 2 (r.map Qx)):=by
 unfold Uf at l;refine K2 Tryz.func64 J qh qh J<|qc<|qa J<|qw<|qa J<|q9<|qf<|qc<|qa J<|q9<|q7 l fun m ad l=>?_;refine Qm (fun h=>h = m) (fun h=>⟨[(5,.hs 0 2 0 h.length)],[(0,.dat 2 (h.map Qx))],1⟩) qe ?_ ?_
 ·refine Qb (q4g f g) (fun j=>⟨[(0,.d (.sl 1 (f.map (eI .i64)))),(1,.d (.sl 1 (g.map eB))),(5,.hs 0 2 0 j.2.length),(6,q8 j.1)],[(0,.dat 2 (j.2.map Qx))],1⟩) _ m ad (wkA [] [] [0]) ?_;intro j an c;unfold q4g at c;refine qf<|qc<|O J<|U _ J<|O J<|Qw J<|U _ J<|q9 ?_;refine qn J c (fun _ c=>?_) (fun _ c=>?_)
  ·refine qo<|qf<|q7 c fun ae a c=>?_;refine Qm (fun k=>k = ae) (fun k=>⟨[(0,.d (.sl 1 (f.map (eI .i64)))),(1,.d (.sl 1 (g.map eB))),(5,.hs 0 2 0 k.length),(6,q8 j.1)],[(0,.dat 2 (k.map Qx))],1⟩) qe ?_ ?_
   ·refine qf<|qc<|O J<|O J<|q7 a fun ao af a=>Qa af J<|U _ J<|U _ J<|q9 ?_;refine qn J a (fun _ a=>?_) (fun _ a=>?_)
    ·refine Q7 ?_;obtain rfl:=qt a;exact ⟨_,J,wkA [(0,0)] [] []⟩
    refine qo<|qc<|O J<|U _ J<|qa J<|q9<|qf<|Q8 [q0,q0,q0,q0,q0,q0,qu 0,q0,q0,q0,q0,q0,q0,q0,q0] qh<|O J<|U _ J<|q7 a fun ag b a=>?_;refine Qh 13 (fun A st=>∃ n o p q s t u v w x y z,st = A [(36,Q5 ag),(35,z),(34,y),(33,x),(32,w),(31,v),(30,u),(29,t),(28,s),(27,q),(26,p),(25,o),(24,n)]) ?_ ?_
    ·refine Qi J J b (fun b=>?_) (fun b=>?_)
     ·refine O J<|O J<|U _ J<|q7 b fun ap aa b=>qs aa J J<|U _ J<|Q4 _ aa J<|O J<|O J<|q7 b fun aq ah b=>Qa ah J<|U _ J<|U _ J<|U _ J<|q9 ?_;cases b;exact ⟨_,_,_,_,_,_,_,_,_,_,_,_,J⟩
     refine qb J<|qb J<|qb J<|qb J<|qb J<|qb J<|qb J<|qb J<|qb J<|qb J<|qb J<|U _ J<|q9 ?_;cases b;exact ⟨_,_,_,_,_,_,_,_,_,_,_,_,J⟩
    rintro _ ⟨n,o,p,q,s,t,u,v,w,x,y,z,rfl⟩;refine q9 ?_;refine qn J a (fun _ a=>?_) (fun _ a=>?_)
    ·refine Q0<|O J<|O J<|U _ J<|O J<|O J<|U _ J<|q7 a fun ab ai a=>Qa ai J<|U _ J<|q7 a fun aj ac a=>qs ac J J<|U _ J<|Qr (ds:=[qg ab]) ({Lo:=aj.Lo,Hi:=ab} : qp) ac J J J J J J J J (leb J) J<|qv ?_;obtain rfl:=qt a;exact ⟨_,J,wkE [(0,0)] [] [] J ⟨qi J,qi J,⟨_,J,Qz qe J Q1 (ltd J)⟩,qi J,trivial⟩ ⟨Qf J J,trivial⟩⟩
    refine Q8 [q0,(some [0,1],[0,2]),(some [],[1]),q0,q0,q0,q0,q0,q0,q0,q0,q0,q0,q0] qh<|O J<|O J<|O J<|q7 a fun ar ak a=>Qa ak J<|U _ J<|O J<|O J<|U _ J<|q7 a fun au al a=>Qa al J<|U _ J<|U _ J<|K6 _ _ J<|q7 a fun av am a=>Kl _ am J J J J J J J (Kp J J) J J J J<|qa J<|qv ?_;obtain rfl:=qt a;exact ⟨_,J,wkA [(0,2)] [] []⟩
   intro k hb;subst hb;refine Q0<|O J<|U _ J<|qa J<|qv<|⟨_,ql c,wkA [(0,0)] [] []⟩
  refine Q7 ?_;refine ⟨_,ql c,fun hm=>?_⟩;subst hm;exact ⟨_,J,wkA [(0,0)] [] []⟩
 intro h hb;subst hb;refine qc<|O J<|qa J<|Q2 ?_;obtain rfl:=qt l;exact finD (.inr J) J (Zn J J) (.refl _)
theorem qmo (c : List qp) (f : List qp) (r : Bool) (b : q2k c f = some r) : Pure Tryz.prog tab 31 [.sl 2 (c.map Qx),.sl 2 (f.map Qx)] (.bool r):=by
 unfold q2k at b;refine K2 Tryz.func31 J qh qh J<|qc<|qa J<|q9<|qf<|qc<|O J<|Qw J<|O J<|Qw J<|U _ J<|q9 ?_;refine qn J b (fun _ b=>?_) (fun _ b=>?_)
 ·refine qc<|qa J<|Q2 ?_;cases b;exact Qo _ J
 refine qo<|qf<|qc<|qa J<|q9<|q7 b fun h k b=>?_;refine Qm (fun g=>.inl g = h) (fun g=>⟨[],[],0⟩) qe ?_ ?_
 ·refine Qb (qdu c f) (fun j=>⟨[(0,.d (.sl 2 (c.map Qx))),(1,.d (.sl 2 (f.map Qx))),(5,q8 j)],[],0⟩) _ h k (wkA [] [] []) ?_;intro j n a;unfold qdu at a;refine qf<|qc<|O J<|O J<|Qw J<|U _ J<|q9 ?_;refine qn J a (fun _ a=>?_) (fun _ a=>?_)
  ·refine qo<|qf<|Q6<|qf<|Q8 [q0,q0,q0,q0,q0,q0,q0,q0,q0] qh<|O J<|O J<|q7 a fun o l a=>Qa l J<|U _ J<|O J<|O J<|q7 a fun p m a=>Qa m J<|U _ J<|U _ J<|q9 ?_;refine qn J a (fun _ a=>?_) (fun _ a=>?_)
   ·refine qc<|qa J<|Q2 ?_;refine ⟨_,ql a,fun hm=>?_⟩;subst hm;cases b;exact Qo _ J
   refine qo<|Qj<|Qk<|Q0<|O J<|U _ J<|qa J<|qv<|⟨_,ql a,wkA [] [] []⟩
  refine Q7 ?_;refine ⟨_,ql a,fun hm=>?_⟩;subst hm;exact ⟨_,J,wkA [] [] []⟩
 intro g hb;subst hb;refine qc<|qa J<|Q2 ?_;cases b;exact Qo _ J
theorem q6f (j : Int) (f : List qd) (g : List qd) (r : List qd) (n : Z8 j f g = some r) : Pure Tryz.prog tab 86 [qg j,.sl 4 (f.map qm),.sl 4 (g.map qm)] (.sl 4 (r.map qm)):=by
 unfold Z8 at n;refine K2 Tryz.func86 J qh qh J<|qc<|qa J<|qw<|O J<|O J<|q7 n fun k h2 n=>Q9 (qmv f g k h2) J<|O J<|O J<|q7 n fun l h4 n=>Q9 (qmx f g l h4) J<|qa J<|qa J<|qw<|qa J<|qw<|qa J<|qw<|qa J<|q9<|qf<|qc<|qa J<|q9<|q7 n fun aa an n=>?_;refine Qm (fun t=>t = aa) (fun t=>⟨[(9,.hs 0 4 0 t.length)],[(0,.dat 4 (t.map qm))],1⟩) qe ?_ ?_
 ·refine Qb (Js k l f g j) (fun a=>⟨[(0,q8 j),(1,.d (.sl 4 (f.map qm))),(2,.d (.sl 4 (g.map qm))),(7,.d (.sl 1 (k.map (eI .i64)))),(8,.d (.sl 1 (l.map (eI .i64)))),(9,.hs 0 4 0 a.2.2.2.length),(10,.d (.sl 2 (a.1.map Qx))),(11,q8 a.2.1),(12,q8 a.2.2.1)],[(0,.dat 4 (a.2.2.2.map qm))],1⟩) _ aa an (wkA [] [] [0]) ?_;intro a bs o;unfold Js at o;refine qf<|qc<|O J<|U _ J<|O J<|Qw J<|U _ J<|q9 ?_;refine qn J o (fun _ o=>?_) (fun _ o=>?_)
  ·refine qo<|qf<|q7 o fun ao h o=>?_;refine Qm (fun p=>p = ao) (fun p=>⟨[(0,q8 j),(1,.d (.sl 4 (f.map qm))),(2,.d (.sl 4 (g.map qm))),(7,.d (.sl 1 (k.map (eI .i64)))),(8,.d (.sl 1 (l.map (eI .i64)))),(9,.hs 0 4 0 p.2.2.length),(10,.d (.sl 2 (p.1.map Qx))),(11,q8 p.2.1),(12,q8 a.2.2.1)],[(0,.dat 4 (p.2.2.map qm))],1⟩) qe ?_ ?_
   ·refine qc<|qa J<|q9<|qf<|qc<|qa J<|q9<|q7 h fun ab ap h=>?_;refine Qm (fun q=>q = ab) (fun q=>⟨[(0,q8 j),(1,.d (.sl 4 (f.map qm))),(2,.d (.sl 4 (g.map qm))),(7,.d (.sl 1 (k.map (eI .i64)))),(8,.d (.sl 1 (l.map (eI .i64)))),(9,.hs 0 4 0 a.2.2.2.length),(10,.d (.sl 2 (a.1.map Qx))),(11,q8 a.2.1),(12,q8 a.2.2.1),(13,.hs 1 1 0 q.length)],[(0,.dat 4 (a.2.2.2.map qm)),(1,.dat 1 (q.map eB))],2⟩) qe ?_ ?_
    ·refine Qb (q16 l k a f g j) (fun w=>⟨[(0,q8 j),(1,.d (.sl 4 (f.map qm))),(2,.d (.sl 4 (g.map qm))),(7,.d (.sl 1 (k.map (eI .i64)))),(8,.d (.sl 1 (l.map (eI .i64)))),(9,.hs 0 4 0 a.2.2.2.length),(10,.d (.sl 2 (a.1.map Qx))),(11,q8 a.2.1),(12,q8 a.2.2.1),(13,.hs 1 1 0 w.2.length),(14,q8 w.1)],[(0,.dat 4 (a.2.2.2.map qm)),(1,.dat 1 (w.2.map eB))],2⟩) _ ab ap (wkA [(0,0)] [] [1]) ?_;intro w bt b;unfold q16 at b;refine qf<|qc<|O J<|O J<|Qw J<|U _ J<|q9 ?_;refine qn J b (fun _ b=>?_) (fun _ b=>?_)
     ·refine qo<|qf<|Q6<|Q8 [q0,(some [1,2],[1,3]),(some [],[2]),q0,q0,q0,q0,q0,q0,q0,q0,q0,q0,q0,q0,q0,q0,q0,q0,q0,q0,q0,q0,q0,q0,q0] qh<|O J<|O J<|O J<|O J<|O J<|q7 b fun aq ar b=>Qa ar J<|U _ J<|O J<|O J<|q7 b fun au av b=>Qa av J<|U _ J<|q7 b fun ac aw b=>Q9 (qmr f aq au ac aw) J<|O J<|O J<|O J<|q7 b fun ax ay b=>Qa ay J<|U _ J<|O J<|O J<|q7 b fun az ba b=>Qa ba J<|U _ J<|q7 b fun ad bb b=>Q9 (qmr g ax az ad bb) J<|q7 b fun bc bd b=>Q9 (qwt j ac ad bc bd) J<|K6 _ _ J<|q7 b fun bu be b=>Kl _ be J J J J J J J (Kp J J) J J J J<|qa J<|qv<|Qk ?_;refine Q0<|O J<|U _ J<|qa J<|qv<|⟨_,ql b,wkA [(0,0),(1,3)] [] []⟩
     refine Q7 ?_;refine ⟨_,ql b,fun hm=>?_⟩;subst hm;exact ⟨_,J,wkA [(0,0),(1,1)] [] []⟩
    intro q hb;subst hb;refine qf ?_;refine Y4 (st':=⟨[(0,q8 j),(1,.d (.sl 4 (f.map qm))),(2,.d (.sl 4 (g.map qm))),(7,.d (.sl 1 (k.map (eI .i64)))),(8,.d (.sl 1 (l.map (eI .i64)))),(9,.hs 0 4 0 a.2.2.2.length),(10,.d (.sl 2 (a.1.map Qx))),(11,q8 a.2.1),(12,q8 a.2.2.1),(13,.d (.sl 1 (q.map eB)))],[(0,.dat 4 (a.2.2.2.map qm))],1⟩) (wkA [(0,0)] [1] []) ?_ qe;refine Q0<|O J<|O J<|q7 h fun u bf h=>Q9 (qgl l q u bf) J<|qa J<|q9<|qf<|qc<|O J<|U _ J<|q7 h fun bg s h=>?_;refine Qh 5 (fun A st=>∃ ae af ag ah,st = A [(71,Q5 bg),(70,ah),(69,ag),(68,af),(67,ae)]) ?_ ?_
    ·refine Qi J J s (fun s=>?_) (fun s=>?_)
     ·refine O J<|O J<|q7 s fun bh bi s=>Q9 (qmo u a.1 bh bi) J<|U _ J<|q9 ?_;cases s;exact ⟨_,_,_,_,J⟩
     refine qb J<|qb J<|qb J<|U _ J<|q9 ?_;cases s;exact ⟨_,_,_,_,J⟩
    rintro _ ⟨ae,af,ag,ah,rfl⟩;refine q9 ?_;refine qn J h (fun _ h=>?_) (fun _ h=>?_)
    ·refine qf<|qc<|O J<|qa J<|q9<|q7 h fun ai bj h=>?_;refine Qm (fun v=>v = ai) (fun v=>⟨[(0,q8 j),(1,.d (.sl 4 (f.map qm))),(2,.d (.sl 4 (g.map qm))),(7,.d (.sl 1 (k.map (eI .i64)))),(8,.d (.sl 1 (l.map (eI .i64)))),(9,.hs 0 4 0 v.length),(10,.d (.sl 2 (a.1.map Qx))),(11,q8 a.2.1),(12,q8 a.2.2.1)],[(0,.dat 4 (v.map qm))],1⟩) qe ?_ ?_
     ·refine Qb (q17 k a) (fun x=>⟨[(0,q8 j),(1,.d (.sl 4 (f.map qm))),(2,.d (.sl 4 (g.map qm))),(7,.d (.sl 1 (k.map (eI .i64)))),(8,.d (.sl 1 (l.map (eI .i64)))),(9,.hs 0 4 0 x.2.length),(10,.d (.sl 2 (a.1.map Qx))),(11,q8 a.2.1),(12,q8 a.2.2.1),(16,q8 x.1)],[(0,.dat 4 (x.2.map qm))],1⟩) _ ai bj (wkA [(0,0)] [] []) ?_;intro x bv m;unfold q17 at m;refine qf<|qc<|O J<|O J<|U _ J<|U _ J<|q9 ?_;refine qn J m (fun _ m=>?_) (fun _ m=>?_)
      ·refine qo<|qf<|Q6<|Q0<|O J<|O J<|O J<|O J<|U _ J<|q7 m fun aj bk m=>Qa bk J<|U _ J<|q7 m fun z ak m=>qs ak J J<|U _ J<|Qr (ds:=[qg aj]) ({X0:=z.X0,Y0:=z.Y0,X1:=aj,Y1:=z.Y1} : qd) ak J J J J J J J J (leb J) J<|qv<|Qk<|Q0<|O J<|U _ J<|qa J<|qv<|⟨_,ql m,wkE [(0,0)] [] [] J ⟨qi J,qi J,qi J,qi J,qi J,⟨_,J,Qz qe J Q1 (ltd J)⟩,qi J,qi J,qi J,qi J,trivial⟩ ⟨Qf J J,trivial⟩⟩
      refine Q7 ?_;refine ⟨_,ql m,fun hm=>?_⟩;subst hm;exact ⟨_,J,wkA [(0,0)] [] []⟩
     intro v hb;subst hb;refine Q7 ?_;obtain rfl:=qt h;exact ⟨_,J,wkA [(0,0)] [] []⟩
    refine qo<|qc<|O J<|U _ J<|O J<|qa J<|qa J<|qw<|qa J<|q9<|q7 h fun bl bm h=>Q6<|Qb (q2l u k a) (fun y=>⟨[(0,q8 j),(1,.d (.sl 4 (f.map qm))),(2,.d (.sl 4 (g.map qm))),(7,.d (.sl 1 (k.map (eI .i64)))),(8,.d (.sl 1 (l.map (eI .i64)))),(9,.hs 0 4 0 y.2.length),(10,.d (.sl 2 (u.map Qx))),(11,q8 (a.2.2.2.length : Int)),(12,q8 a.2.2.1),(15,.d (.sl 2 (u.map Qx))),(17,q8 y.1)],[(0,.dat 4 (y.2.map qm))],1⟩) _ bl bm (wkA [(0,0)] [] []) ?_;intro y bw c;unfold q2l at c;refine qf<|qc<|O J<|O J<|Qw J<|U _ J<|q9 ?_;refine qn J c (fun _ c=>?_) (fun _ c=>?_)
    ·refine qo<|qf<|Q6<|Q8 [q0,(some [0,1],[0,2]),(some [],[1]),q0,q0,q0,q0,q0,q0,q0,q0,q0,q0,q0,q0,q0,q0,q0,q0,q0,q0,q0,q0,q0] qh<|O J<|O J<|O J<|q7 c fun bx bn c=>Qa bn J<|U _ J<|O J<|O J<|q7 c fun bz bo c=>Qa bo J<|U _ J<|U _ J<|O J<|O J<|U _ J<|q7 c fun ca bp c=>Qa bp J<|U _ J<|O J<|O J<|q7 c fun cb bq c=>Qa bq J<|U _ J<|U _ J<|U _ J<|K6 _ _ J<|q7 c fun cc br c=>Kl _ br J J J J J J J (Kp J J) J J J J<|qa J<|qv<|Qk<|Q0<|O J<|U _ J<|qa J<|qv<|⟨_,ql c,wkA [(0,2)] [] []⟩
    refine Q7 ?_;refine ⟨_,ql c,fun hm=>?_⟩;subst hm;obtain rfl:=qt h;exact ⟨_,J,wkA [(0,0)] [] []⟩
   intro p hb;subst hb;refine Q0<|O J<|U _ J<|qa J<|qv<|⟨_,ql o,wkA [(0,0)] [] []⟩
  refine Q7 ?_;refine ⟨_,ql o,fun hm=>?_⟩;subst hm;exact ⟨_,J,wkA [(0,0)] [] []⟩
 intro t hb;subst hb;refine qc<|O J<|qa J<|Q2 ?_;obtain rfl:=qt n;exact finD (.inr J) J (Zn J J) (.refl _)
theorem qgo (c : List qd) (f : List qd) (r : Bool) (b : q34 c f = some r) : Pure Tryz.prog tab 30 [.sl 4 (c.map qm),.sl 4 (f.map qm)] (.bool r):=by
 unfold q34 at b;refine K2 Tryz.func30 J qh qh J<|qc<|qa J<|q9<|qf<|qc<|O J<|Qw J<|O J<|Qw J<|U _ J<|q9 ?_;refine qn J b (fun _ b=>?_) (fun _ b=>?_)
 ·refine qc<|qa J<|Q2 ?_;cases b;exact Qo _ J
 refine qo<|qf<|qc<|qa J<|q9<|q7 b fun h k b=>?_;refine Qm (fun g=>.inl g = h) (fun g=>⟨[],[],0⟩) qe ?_ ?_
 ·refine Qb (qdy c f) (fun j=>⟨[(0,.d (.sl 4 (c.map qm))),(1,.d (.sl 4 (f.map qm))),(5,q8 j)],[],0⟩) _ h k (wkA [] [] []) ?_;intro j n a;unfold qdy at a;refine qf<|qc<|O J<|O J<|Qw J<|U _ J<|q9 ?_;refine qn J a (fun _ a=>?_) (fun _ a=>?_)
  ·refine qo<|qf<|Q6<|qf<|Q8 [q0,q0,q0,q0,q0,q0,q0,q0,q0] qh<|O J<|O J<|q7 a fun o l a=>Qa l J<|U _ J<|O J<|O J<|q7 a fun p m a=>Qa m J<|U _ J<|U _ J<|q9 ?_;refine qn J a (fun _ a=>?_) (fun _ a=>?_)
   ·refine qc<|qa J<|Q2 ?_;refine ⟨_,ql a,fun hm=>?_⟩;subst hm;cases b;exact Qo _ J
   refine qo<|Qj<|Qk<|Q0<|O J<|U _ J<|qa J<|qv<|⟨_,ql a,wkA [] [] []⟩
  refine Q7 ?_;refine ⟨_,ql a,fun hm=>?_⟩;subst hm;exact ⟨_,J,wkA [] [] []⟩
 intro g hb;subst hb;refine qc<|qa J<|Q2 ?_;cases b;exact Qo _ J
theorem qn2 (l : Int) (f : List qk) (g : List qk) (r : List qk × Bool) (o : q22 l f g = some r) : Pure Tryz.prog tab 47 [qg l,.sl 6 (f.map Qn),.sl 6 (g.map Qn)] (.tup [.sl 6 (r.1.map Qn),.bool r.2]):=by
 unfold q22 at o;refine K2 Tryz.func47 J qh qh J<|qc<|qa J<|qa J<|qw<|O J<|O J<|q7 o fun m h2 o=>Q9 (qgq f g m h2) J<|qa J<|qw<|qa J<|qw<|qa J<|qw<|qa J<|q9<|qf<|qc<|qa J<|q9<|q7 o fun y bh o=>?_;refine Qm (fun s=>.inl s = y) (fun s=>⟨[(9,.hs 0 6 0 s.length)],[(0,.dat 6 (s.map Qn))],1⟩) qe ?_ ?_
 ·refine Qb (Ug m f g l) (fun c=>⟨[(0,q8 l),(1,.d (.sl 6 (f.map Qn))),(2,.d (.sl 6 (g.map Qn))),(8,.d (.sl 1 (m.map (eI .i64)))),(9,.hs 0 6 0 c.2.2.2.length),(10,.d (.sl 4 (c.1.map qm))),(11,q8 c.2.1),(12,q8 c.2.2.1)],[(0,.dat 6 (c.2.2.2.map Qn))],1⟩) _ y bh (wkA [] [] [0]) ?_;intro c cr n;unfold Ug at n;refine qf<|qc<|O J<|U _ J<|O J<|Qw J<|U _ J<|q9 ?_;refine qn J n (fun _ n=>?_) (fun _ n=>?_)
  ·refine qo<|qf<|q7 n fun bi a n=>?_;refine Qm (fun p=>.inl p = bi) (fun p=>⟨[(0,q8 l),(1,.d (.sl 6 (f.map Qn))),(2,.d (.sl 6 (g.map Qn))),(8,.d (.sl 1 (m.map (eI .i64)))),(9,.hs 0 6 0 p.2.2.length),(10,.d (.sl 4 (p.1.map qm))),(11,q8 p.2.1),(12,q8 c.2.2.1)],[(0,.dat 6 (p.2.2.map Qn))],1⟩) qe ?_ ?_
   ·refine qf<|Q8 [q0,q0,q0,q0,q0,q0,q0,q0,q0,q0,q0,q0,q0,q0,q0] qh<|O J<|O J<|O J<|O J<|q7 a fun bj bk a=>Qa bk J<|U _ J<|q7 a fun z bl a=>Q9 (q9w f bj z bl) J<|O J<|O J<|O J<|q7 a fun bm bn a=>Qa bn J<|U _ J<|q7 a fun aa bo a=>Q9 (q9w g bm aa bo) J<|q7 a fun t bp a=>Q9 (q6f l z aa t bp) J<|qa J<|q9<|qf<|qc<|O J<|Qw J<|U _ J<|q7 a fun bq h a=>?_;refine Qh 11 (fun A st=>∃ ab ac ad ae af ag ah ai aj ak,st = A [(53,Q5 bq),(52,ak),(51,aj),(50,ai),(49,ah),(48,ag),(47,af),(46,ae),(45,ad),(44,ac),(43,ab)]) ?_ ?_
    ·refine Qi J J h (fun h=>?_) (fun h=>?_)
     ·refine qb J<|qb J<|qb J<|qb J<|qb J<|qb J<|qb J<|qb J<|qb J<|U _ J<|q9 ?_;cases h;exact ⟨_,_,_,_,_,_,_,_,_,_,J⟩
     refine O J<|O J<|O J<|q7 h fun br bs h=>Qa bs J<|U _ J<|q7 h fun al bt h=>Q9 (q9w f br al bt) J<|q7 h fun bu bv h=>Q9 (Ue (.cons (.refl _) (.cons (.refl _) (.cons (.nil _) .nil))) (q6f 2 al [] bu bv)) J<|Qw J<|U _ J<|U _ J<|q9 ?_;cases h;exact ⟨_,_,_,_,_,_,_,_,_,_,J⟩
    rintro _ ⟨ab,ac,ad,ae,af,ag,ah,ai,aj,ak,rfl⟩;refine q7 a fun bw j a=>?_;refine Qh 11 (fun A st=>∃ am an ao ap aq ar au av aw ax,st = A [(64,Q5 bw),(63,ax),(62,aw),(61,av),(60,au),(59,ar),(58,aq),(57,ap),(56,ao),(55,an),(54,am)]) ?_ ?_
    ·refine Qi J J j (fun j=>?_) (fun j=>?_)
     ·refine qb J<|qb J<|qb J<|qb J<|qb J<|qb J<|qb J<|qb J<|qb J<|U _ J<|q9 ?_;cases j;exact ⟨_,_,_,_,_,_,_,_,_,_,J⟩
     refine O J<|O J<|O J<|q7 j fun bx bz j=>Qa bz J<|U _ J<|q7 j fun ay ca j=>Q9 (q9w g bx ay ca) J<|q7 j fun cb cc j=>Q9 (Ue (.cons (.refl _) (.cons (.refl _) (.cons (.nil _) .nil))) (q6f 2 ay [] cb cc)) J<|Qw J<|U _ J<|U _ J<|q9 ?_;cases j;exact ⟨_,_,_,_,_,_,_,_,_,_,J⟩
    rintro _ ⟨am,an,ao,ap,aq,ar,au,av,aw,ax,rfl⟩;refine q9 ?_;refine qn J a (fun _ a=>?_) (fun _ a=>?_)
    ·refine qc<|qa J<|qa J<|Q2 ?_;obtain rfl:=qt a;refine ⟨_,ql n,fun hm=>?_⟩;subst hm;obtain rfl:=qt o;exact finD (.inr J) J J (Y8 (.cons (.nil _) (.cons (.refl _) .nil)))
    refine qo<|qf<|qc<|O J<|U _ J<|q7 a fun cd q a=>?_;refine Qh 5 (fun A st=>∃ az ba bb bc,st = A [(71,Q5 cd),(70,bc),(69,bb),(68,ba),(67,az)]) ?_ ?_
    ·refine Qi J J q (fun q=>?_) (fun q=>?_)
     ·refine O J<|O J<|q7 q fun ce cf q=>Q9 (qgo t c.1 ce cf) J<|U _ J<|q9 ?_;cases q;exact ⟨_,_,_,_,J⟩
     refine qb J<|qb J<|qb J<|U _ J<|q9 ?_;cases q;exact ⟨_,_,_,_,J⟩
    rintro _ ⟨az,ba,bb,bc,rfl⟩;refine q9 ?_;refine qn J a (fun _ a=>?_) (fun _ a=>?_)
    ·refine qf<|qc<|O J<|qa J<|q9<|q7 a fun bd cg a=>?_;refine Qm (fun u=>u = bd) (fun u=>⟨[(0,q8 l),(1,.d (.sl 6 (f.map Qn))),(2,.d (.sl 6 (g.map Qn))),(8,.d (.sl 1 (m.map (eI .i64)))),(9,.hs 0 6 0 u.length),(10,.d (.sl 4 (c.1.map qm))),(11,q8 c.2.1),(12,q8 c.2.2.1)],[(0,.dat 6 (u.map Qn))],1⟩) qe ?_ ?_
     ·refine Qb (q4q m c) (fun v=>⟨[(0,q8 l),(1,.d (.sl 6 (f.map Qn))),(2,.d (.sl 6 (g.map Qn))),(8,.d (.sl 1 (m.map (eI .i64)))),(9,.hs 0 6 0 v.2.length),(10,.d (.sl 4 (c.1.map qm))),(11,q8 c.2.1),(12,q8 c.2.2.1),(14,q8 v.1)],[(0,.dat 6 (v.2.map Qn))],1⟩) _ bd cg (wkA [(0,0)] [] []) ?_;intro v cs k;unfold q4q at k;refine qf<|qc<|O J<|O J<|U _ J<|U _ J<|q9 ?_;refine qn J k (fun _ k=>?_) (fun _ k=>?_)
      ·refine qo<|qf<|Q6<|Q0<|O J<|O J<|O J<|O J<|U _ J<|q7 k fun be ch k=>Qa ch J<|U _ J<|q7 k fun x bf k=>qs bf J J<|U _ J<|U _ J<|Qr (ds:=[qg be]) ({Lo:=x.Lo,Hi:=({X:=x.Hi.X,Y:=x.Hi.Y,Z:=be} : K7)} : qk) bf J J J J J J J J (leb J) J<|qv<|Qk<|Q0<|O J<|U _ J<|qa J<|qv<|⟨_,ql k,wkE [(0,0)] [] [] J ⟨qi J,qi J,qi J,qi J,⟨_,J,Qz qe J Q1 (ltd J)⟩,qi J,qi J,qi J,qi J,trivial⟩ ⟨Qf J J,trivial⟩⟩
      refine Q7 ?_;refine ⟨_,ql k,fun hm=>?_⟩;subst hm;exact ⟨_,J,wkA [(0,0)] [] []⟩
     intro u hb;subst hb;refine Q7 ?_;obtain rfl:=qt a;exact ⟨_,J,wkA [(0,0)] [] []⟩
    refine qo<|qc<|O J<|U _ J<|O J<|qa J<|qa J<|qw<|qa J<|q9<|q7 a fun ci cj a=>Q6<|Qb (q6r t m c) (fun w=>⟨[(0,q8 l),(1,.d (.sl 6 (f.map Qn))),(2,.d (.sl 6 (g.map Qn))),(8,.d (.sl 1 (m.map (eI .i64)))),(9,.hs 0 6 0 w.2.length),(10,.d (.sl 4 (t.map qm))),(11,q8 (c.2.2.2.length : Int)),(12,q8 c.2.2.1),(13,.d (.sl 4 (t.map qm))),(15,q8 w.1)],[(0,.dat 6 (w.2.map Qn))],1⟩) _ ci cj (wkA [(0,0)] [] []) ?_;intro w ct b;unfold q6r at b;refine qf<|qc<|O J<|O J<|Qw J<|U _ J<|q9 ?_;refine qn J b (fun _ b=>?_) (fun _ b=>?_)
    ·refine qo<|qf<|Q6<|Q8 [q0,(some [0,1],[0,2]),(some [],[1]),q0,q0,q0,q0,q0,q0,q0,q0,q0,q0,q0,q0,q0,q0,q0,q0,q0,q0,q0,q0,q0,q0,q0,q0,q0,q0,q0,q0,q0,q0,q0,q0,q0] qh<|O J<|O J<|O J<|q7 b fun cu ck b=>Qa ck J<|U _ J<|U _ J<|O J<|O J<|q7 b fun cv cl b=>Qa cl J<|U _ J<|U _ J<|O J<|O J<|q7 b fun cw cm b=>Qa cm J<|U _ J<|U _ J<|O J<|O J<|q7 b fun cx cn b=>Qa cn J<|U _ J<|U _ J<|O J<|O J<|q7 b fun cy co b=>Qa co J<|U _ J<|U _ J<|O J<|O J<|U _ J<|q7 b fun cz cp b=>Qa cp J ?_;refine U _ J<|U _ J<|U _ J<|K6 _ _ J<|q7 b fun da cq b=>Kl _ cq J J J J J J J (Kp J J) J J J J<|qa J<|qv<|Qk<|Q0<|O J<|U _ J<|qa J<|qv<|⟨_,ql b,wkA [(0,2)] [] []⟩
    refine Q7 ?_;refine ⟨_,ql b,fun hm=>?_⟩;subst hm;obtain rfl:=qt a;exact ⟨_,J,wkA [(0,0)] [] []⟩
   intro p hb;subst hb;refine Q0<|O J<|U _ J<|qa J<|qv<|⟨_,ql n,wkA [(0,0)] [] []⟩
  refine Q7 ?_;refine ⟨_,ql n,fun hm=>?_⟩;subst hm;exact ⟨_,J,wkA [(0,0)] [] []⟩
 intro s hb;subst hb;refine qc<|O J<|O J<|U _ J<|U _ J<|qa J<|qa J<|Q2 ?_;obtain rfl:=qt o;exact finD (.inr J) J (qcf (q15 (Zn J J) (q15 J J))) (.refl _)
theorem qgr (c : List qk) (f : List qk) (r : Bool) (b : q6s c f = some r) : Pure Tryz.prog tab 16 [.sl 6 (c.map Qn),.sl 6 (f.map Qn)] (.bool r):=by
 unfold q6s at b;refine K2 Tryz.func16 J qh qh J<|qc<|qa J<|q9<|qf<|qc<|O J<|Qw J<|O J<|Qw J<|U _ J<|q9 ?_;refine qn J b (fun _ b=>?_) (fun _ b=>?_)
 ·refine qc<|qa J<|Q2 ?_;cases b;exact Qo _ J
 refine qo<|qf<|qc<|qa J<|q9<|q7 b fun h k b=>?_;refine Qm (fun g=>.inl g = h) (fun g=>⟨[],[],0⟩) qe ?_ ?_
 ·refine Qb (qdz c f) (fun j=>⟨[(0,.d (.sl 6 (c.map Qn))),(1,.d (.sl 6 (f.map Qn))),(5,q8 j)],[],0⟩) _ h k (wkA [] [] []) ?_;intro j n a;unfold qdz at a;refine qf<|qc<|O J<|O J<|Qw J<|U _ J<|q9 ?_;refine qn J a (fun _ a=>?_) (fun _ a=>?_)
  ·refine qo<|qf<|Q6<|qf<|Q8 [q0,q0,q0,q0,q0,q0,q0,q0,q0] qh<|O J<|O J<|q7 a fun o l a=>Qa l J<|U _ J<|O J<|O J<|q7 a fun p m a=>Qa m J<|U _ J<|U _ J<|q9 ?_;refine qn J a (fun _ a=>?_) (fun _ a=>?_)
   ·refine qc<|qa J<|Q2 ?_;refine ⟨_,ql a,fun hm=>?_⟩;subst hm;cases b;exact Qo _ J
   refine qo<|Qj<|Qk<|Q0<|O J<|U _ J<|qa J<|qv<|⟨_,ql a,wkA [] [] []⟩
  refine Q7 ?_;refine ⟨_,ql a,fun hm=>?_⟩;subst hm;exact ⟨_,J,wkA [] [] []⟩
 intro g hb;subst hb;refine qc<|qa J<|Q2 ?_;cases b;exact Qo _ J
theorem q6p (c : List qk) (r : Int) (a : q21 c = some r) : Pure Tryz.prog tab 18 [.sl 6 (c.map Qn)] (qg r):=by
 unfold q21 at a;refine K2 Tryz.func18 J qh qh J<|qc<|qa J<|q9<|qf<|qc<|O J<|Qw J<|U _ J<|q9 ?_;refine qn J a (fun _ a=>?_) (fun _ a=>?_)
 ·refine qc<|qa J<|Q2 ?_;cases a;exact Qo _ J
 refine qo<|qf<|qc<|qa J<|q9<|q7 a fun h q a=>?_;refine Qm (fun g=>.inl g = h) (fun g=>⟨[(0,.d (.sl 6 (c.map Qn)))],[],0⟩) qe ?_ ?_
 ·refine Qb (q6o c) (fun j=>⟨[(0,.d (.sl 6 (c.map Qn))),(3,q8 j)],[],0⟩) _ h q (wkA [] [] []) ?_;intro j aa b;unfold q6o at b;refine qf<|qc<|O J<|O J<|Qw J<|U _ J<|q9 ?_;refine qn J b (fun _ b=>?_) (fun _ b=>?_)
  ·refine qo<|qf<|Q6<|qc<|O J<|O J<|q7 b fun s t b=>Qa t J<|U _ J<|q7 b fun u v b=>Q9 (qxn s u v) J<|U _ J<|q9 ?_;refine qn J b (fun _ b=>?_) (fun _ b=>?_)
   ·refine qc<|qa J<|Q2 ?_;refine ⟨_,ql b,fun hm=>?_⟩;subst hm;cases a;exact Qo _ J
   refine qo<|Qj<|Qk<|Q0<|O J<|U _ J<|qa J<|qv<|⟨_,ql b,wkA [] [] []⟩
  refine Q7 ?_;refine ⟨_,ql b,fun hm=>?_⟩;subst hm;exact ⟨_,J,wkA [] [] []⟩
 intro g hb;subst hb;refine qc<|O J<|q7 a fun k w a=>Q9 (Ue (.cons (.refl _) (.cons (.refl _) (.cons (.nil _) .nil))) (qn2 2 c [] k w)) J<|O J<|U _ J<|U _ J<|qa J<|qa J<|q9<|qf<|qc<|O J<|U _ J<|q7 a fun x f a=>?_;refine Qh 6 (fun A st=>∃ l m n o p,st = A [(33,Q5 x),(32,p),(31,o),(30,n),(29,m),(28,l)]) ?_ ?_
 ·refine Qi J J f (fun f=>?_) (fun f=>?_)
  ·refine qb J<|qb J<|qb J<|qb J<|U _ J<|q9 ?_;cases f;exact ⟨_,_,_,_,_,J⟩
  refine O J<|O J<|q7 f fun y z f=>Q9 (qgr k.1 c y z) J<|U _ J<|U _ J<|q9 ?_;cases f;exact ⟨_,_,_,_,_,J⟩
 rintro _ ⟨l,m,n,o,p,rfl⟩;refine q9 ?_;refine qn J a (fun _ a=>?_) (fun _ a=>?_)
 ·refine qc<|qa J<|Q2 ?_;cases a;exact Qo _ J
 refine qo<|qc<|qa J<|Q2 ?_;cases a;exact Qo _ J
theorem qdx (c : Int) (r : Bool) (b : q6e c = some r) : Pure Tryz.prog tab 127 [qg c] (.bool r):=by
 unfold q6e at b;refine K2 Tryz.func127 J qh qh J<|qc<|qa J<|qw<|O J<|U _ J<|q7 b fun h a b=>?_;refine Qh 4 (fun A st=>∃ d f g,st = A [(8,Q5 h),(7,g),(6,f),(5,d)]) ?_ ?_
 ·refine Qi J J a (fun a=>?_) (fun a=>?_)
  ·refine O J<|U _ J<|U _ J<|q9 ?_;cases a;exact ⟨_,_,_,J⟩
  refine qb J<|qb J<|U _ J<|q9 ?_;cases a;exact ⟨_,_,_,J⟩
 rintro _ ⟨d,f,g,rfl⟩;refine qa J<|Q2 ?_;cases b;exact Qo _ J
theorem qmt (g : qd) (r : Bool) (a : q9s g = some r) : Pure Tryz.prog tab 96 [.agg (qm g)] (.bool r):=by
 unfold q9s at a;refine K2 Tryz.func96 J qh qh J<|qc<|K6 _ _ J<|qa J<|qw<|U _ J<|U _ J<|U _ J<|U _ J<|U _ J<|q7 a fun c1 h a=>?_;refine Qh 7 (fun A st=>∃ j k l m n o,st = A [(14,Q5 c1),(13,o),(12,n),(11,m),(10,l),(9,k),(8,j)]) ?_ ?_
 ·refine Qi J J h (fun h=>?_) (fun h=>?_)
  ·refine U _ J<|U _ J<|U _ J<|U _ J<|U _ J<|U _ J<|q9 ?_;cases h;exact ⟨_,_,_,_,_,_,J⟩
  refine qb J<|qb J<|qb J<|qb J<|qb J<|U _ J<|q9 ?_;cases h;exact ⟨_,_,_,_,_,_,J⟩
 rintro _ ⟨j,k,l,m,n,o,rfl⟩;refine q7 a fun ah b a=>?_;refine Qh 5 (fun A st=>∃ p q s t,st = A [(19,Q5 ah),(18,t),(17,s),(16,q),(15,p)]) ?_ ?_
 ·refine Qi J J b (fun b=>?_) (fun b=>?_)
  ·refine U _ J<|U _ J<|q7 b fun ai aj b=>Q9 (qdx g.X0 ai aj) J<|U _ J<|q9 ?_;cases b;exact ⟨_,_,_,_,J⟩
  refine qb J<|qb J<|qb J<|U _ J<|q9 ?_;cases b;exact ⟨_,_,_,_,J⟩
 rintro _ ⟨p,q,s,t,rfl⟩;refine q7 a fun ak c a=>?_;refine Qh 5 (fun A st=>∃ u v w x,st = A [(24,Q5 ak),(23,x),(22,w),(21,v),(20,u)]) ?_ ?_
 ·refine Qi J J c (fun c=>?_) (fun c=>?_)
  ·refine U _ J<|U _ J<|q7 c fun al am c=>Q9 (qdx g.X1 al am) J<|U _ J<|q9 ?_;cases c;exact ⟨_,_,_,_,J⟩
  refine qb J<|qb J<|qb J<|U _ J<|q9 ?_;cases c;exact ⟨_,_,_,_,J⟩
 rintro _ ⟨u,v,w,x,rfl⟩;refine q7 a fun an d a=>?_;refine Qh 5 (fun A st=>∃ y z aa ab,st = A [(29,Q5 an),(28,ab),(27,aa),(26,z),(25,y)]) ?_ ?_
 ·refine Qi J J d (fun d=>?_) (fun d=>?_)
  ·refine U _ J<|U _ J<|q7 d fun ao ap d=>Q9 (qdx g.Y0 ao ap) J<|U _ J<|q9 ?_;cases d;exact ⟨_,_,_,_,J⟩
  refine qb J<|qb J<|qb J<|U _ J<|q9 ?_;cases d;exact ⟨_,_,_,_,J⟩
 rintro _ ⟨y,z,aa,ab,rfl⟩;refine q7 a fun aq f a=>?_;refine Qh 5 (fun A st=>∃ ac ad ae af,st = A [(34,Q5 aq),(33,af),(32,ae),(31,ad),(30,ac)]) ?_ ?_
 ·refine Qi J J f (fun f=>?_) (fun f=>?_)
  ·refine U _ J<|U _ J<|q7 f fun ar au f=>Q9 (qdx g.Y1 ar au) J<|U _ J<|q9 ?_;cases f;exact ⟨_,_,_,_,J⟩
  refine qb J<|qb J<|qb J<|U _ J<|q9 ?_;cases f;exact ⟨_,_,_,_,J⟩
 rintro _ ⟨ac,ad,ae,af,rfl⟩;refine qa J<|Q2 ?_;cases a;exact Qo _ J
theorem qwz (c : List qd) (r : List qd × Int) (a : q9r c = some r) : Pure Tryz.prog tab 60 [.sl 4 (c.map qm)] (.tup [.sl 4 (r.1.map qm),qg r.2]):=by
 unfold q9r at a;refine K2 Tryz.func60 J qh qh J<|qc<|qa J<|qa J<|q9<|qf<|qc<|O J<|Qw J<|U _ J<|q9 ?_;refine qn J a (fun _ a=>?_) (fun _ a=>?_)
 ·refine qc<|qa J<|qa J<|Q2 ?_;obtain rfl:=qt a;exact finD (.inr J) J J (Y8 (.cons (.nil _) (.cons (.refl _) .nil)))
 refine qo<|qf<|qc<|qa J<|q9<|q7 a fun g j a=>?_;refine Qm (fun f=>.inl f = g) (fun f=>⟨[(0,.d (.sl 4 (c.map qm)))],[],0⟩) qe ?_ ?_
 ·refine Qb (q4k c) (fun h=>⟨[(0,.d (.sl 4 (c.map qm))),(4,q8 h)],[],0⟩) _ g j (wkA [] [] []) ?_;intro h q b;unfold q4k at b;refine qf<|qc<|O J<|O J<|Qw J<|U _ J<|q9 ?_;refine qn J b (fun _ b=>?_) (fun _ b=>?_)
  ·refine qo<|qf<|Q6<|qc<|O J<|O J<|q7 b fun k l b=>Qa l J<|U _ J<|q7 b fun m n b=>Q9 (qmt k m n) J<|U _ J<|q9 ?_;refine qn J b (fun _ b=>?_) (fun _ b=>?_)
   ·refine qc<|qa J<|qa J<|Q2 ?_;refine ⟨_,ql b,fun hm=>?_⟩;subst hm;obtain rfl:=qt a;exact finD (.inr J) J J (Y8 (.cons (.nil _) (.cons (.refl _) .nil)))
   refine qo<|Qj<|Qk<|Q0<|O J<|U _ J<|qa J<|qv<|⟨_,ql b,wkA [] [] []⟩
  refine Q7 ?_;refine ⟨_,ql b,fun hm=>?_⟩;subst hm;exact ⟨_,J,wkA [] [] []⟩
 intro f hb;subst hb;refine qc<|O J<|q7 a fun o p a=>Q9 (Ue (.cons (.refl _) (.cons (.refl _) (.cons (.nil _) .nil))) (q6f 2 c [] o p)) J<|qa J<|q9<|qf<|qc<|O J<|Qw J<|U _ J<|q9 ?_;refine qn J a (fun _ a=>?_) (fun _ a=>?_)
 ·refine qc<|qa J<|qa J<|Q2 ?_;obtain rfl:=qt a;exact finD (.inr J) J J (Y8 (.cons (.nil _) (.cons (.refl _) .nil)))
 refine qo<|qc<|O J<|qa J<|qa J<|Q2 ?_;cases a;exact Qo _ J
theorem qxs (f : List qk) (r : List qd × Int) (b : qa3 f = some r) : Pure Tryz.prog tab 26 [.sl 6 (f.map Qn)] (.tup [.sl 4 (r.1.map qm),qg r.2]):=by
 unfold qa3 at b;refine K2 Tryz.func26 J qh qh J<|qc<|qa J<|qa J<|q9<|qf<|qc<|O J<|q7 b fun j k b=>Q9 (q6p f j k) J<|U _ J<|q9 ?_;refine qn J b (fun _ b=>?_) (fun _ b=>?_)
 ·refine qc<|O J<|q7 b fun l m b=>Q9 (q6p f l m) J<|qa J<|qa J<|Q2 ?_;obtain rfl:=qt b;exact finD (.inr J) J J (Y8 (.cons (.nil _) (.cons (.refl _) .nil)))
 refine qo<|qc<|qa J<|q9<|qf<|qc<|qa J<|q9<|q7 b fun h n b=>?_;refine Qm (fun c=>c = h) (fun c=>⟨[(4,.hs 0 4 0 c.length)],[(0,.dat 4 (c.map qm))],1⟩) qe ?_ ?_
 ·refine Qb (q6v f) (fun g=>⟨[(0,.d (.sl 6 (f.map Qn))),(4,.hs 0 4 0 g.2.length),(5,q8 g.1)],[(0,.dat 4 (g.2.map qm))],1⟩) _ h n (wkA [] [] [0]) ?_;intro g w a;unfold q6v at a;refine qf<|qc<|O J<|O J<|Qw J<|U _ J<|q9 ?_;refine qn J a (fun _ a=>?_) (fun _ a=>?_)
  ·refine qo<|qf<|Q6<|Q8 [q0,(some [0,1],[0,2]),(some [],[1]),q0,q0,q0,q0,q0,q0,q0,q0,q0,q0,q0,q0,q0,q0,q0,q0,q0,q0,q0,q0,q0,q0,q0,q0,q0,q0] qh<|O J<|O J<|O J<|q7 a fun x o a=>Qa o J<|U _ J<|U _ J<|U _ J<|O J<|O J<|q7 a fun y p a=>Qa p J<|U _ J<|U _ J<|U _ J<|O J<|O J<|q7 a fun z q a=>Qa q J<|U _ J<|U _ J<|U _ J<|O J<|O J<|q7 a fun aa s a=>Qa s J<|U _ J<|U _ J<|U _ J<|U _ J<|K6 _ _ J<|q7 a fun ab t a=>Kl _ t J J J J J J J (Kp J J) J J J J<|qa J<|qv<|Qk ?_;refine Q0<|O J<|U _ J<|qa J<|qv<|⟨_,ql a,wkA [(0,2)] [] []⟩
  refine Q7 ?_;refine ⟨_,ql a,fun hm=>?_⟩;subst hm;exact ⟨_,J,wkA [(0,0)] [] []⟩
 intro c hb;subst hb;refine qf ?_;refine Y4 (st':=⟨[(4,.d (.sl 4 (c.map qm)))],[],0⟩) (wkA [] [0] []) ?_ qe;refine Q0<|O J<|q7 b fun u v b=>Q9 (qwz c u v) J<|U _ J<|U _ J<|qa J<|qa J<|Q2 ?_;cases b;exact Qo _ J
theorem qxy (c : List qk) (h : Int) (j : Int) (r : List qp × Int) (b : qa5 c h j = some r) : Pure Tryz.prog tab 27 [.sl 6 (c.map Qn),qg h,qg j] (.tup [.sl 2 (r.1.map Qx),qg r.2]):=by
 unfold qa5 at b;refine K2 Tryz.func27 J qh qh J<|qc<|qa J<|qa J<|q9<|qf<|qc<|O J<|q7 b fun r1 h2 b=>Q9 (qhf c r1 h2) J<|qa J<|qw<|O J<|U _ J<|q9 ?_;refine qn J b (fun _ b=>?_) (fun _ b=>?_)
 ·refine qc<|O J<|qa J<|qa J<|Q2 ?_;obtain rfl:=qt b;exact finD (.inr J) J J (Y8 (.cons (.nil _) (.cons (.refl _) .nil)))
 refine qo<|qc<|qa J<|q9<|qf<|qc<|O J<|Qw J<|O J<|q9<|q7 b fun p al b=>?_;refine Qm (fun g=>g = p) (fun g=>⟨[(9,.hs 0 2 0 g.length)],[(0,.dat 2 (g.map Qx))],1⟩) qe ?_ ?_
 ·refine Qb (q6x c h j) (fun k=>⟨[(1,q8 h),(2,q8 j),(9,.hs 0 2 0 k.2.length),(17,.d (.sl 6 (c.map Qn))),(18,q8 (c.length : Int)),(19,q8 k.1)],[(0,.dat 2 (k.2.map Qx))],1⟩) _ p al (wkA [] [] [0]) ?_;intro k aw f;unfold q6x at f;refine qc<|U _ J<|q9<|qf ?_;refine qn J f (fun _ f=>?_) (fun _ f=>?_)
  ·refine qo<|qf<|q7 f fun am a f=>?_;refine Qm (fun l=>l = am) (fun l=>⟨[(1,q8 h),(2,q8 j),(9,.hs 0 2 0 l.length),(17,.d (.sl 6 (c.map Qn))),(18,q8 (c.length : Int)),(19,q8 k.1)],[(0,.dat 2 (l.map Qx))],1⟩) qe ?_ ?_
   ·refine qc<|q7 a fun ax an a=>Qa an J<|U _ J<|K9 J J<|Qv 1 _ J<|qw<|U _ J<|U _ J<|U _ J<|O J<|U _ J<|q7 a fun ao m a=>?_;refine Qh 7 (fun A st=>∃ q s t u v w,st = A [(34,Q5 ao),(33,w),(32,v),(31,u),(30,t),(29,s),(28,q)]) ?_ ?_
    ·refine Qi J J m (fun m=>?_) (fun m=>?_)
     ·refine O J<|U _ J<|U _ J<|U _ J<|U _ J<|U _ J<|q9 ?_;cases m;exact ⟨_,_,_,_,_,_,J⟩
     refine qb J<|qb J<|qb J<|qb J<|qb J<|U _ J<|q9 ?_;cases m;exact ⟨_,_,_,_,_,_,J⟩
    rintro _ ⟨q,s,t,u,v,w,rfl⟩;refine q7 a fun ap n a=>?_;refine Qh 7 (fun A st=>∃ x y z aa ab ac,st = A [(41,Q5 ap),(40,ac),(39,ab),(38,aa),(37,z),(36,y),(35,x)]) ?_ ?_
    ·refine Qi J J n (fun n=>?_) (fun n=>?_)
     ·refine U _ J<|U _ J<|U _ J<|O J<|U _ J<|U _ J<|q9 ?_;cases n;exact ⟨_,_,_,_,_,_,J⟩
     refine qb J<|qb J<|qb J<|qb J<|qb J<|U _ J<|q9 ?_;cases n;exact ⟨_,_,_,_,_,_,J⟩
    rintro _ ⟨x,y,z,aa,ab,ac,rfl⟩;refine q7 a fun aq o a=>?_;refine Qh 7 (fun A st=>∃ ad ae af ag ah ai,st = A [(48,Q5 aq),(47,ai),(46,ah),(45,ag),(44,af),(43,ae),(42,ad)]) ?_ ?_
    ·refine Qi J J o (fun o=>?_) (fun o=>?_)
     ·refine O J<|U _ J<|U _ J<|U _ J<|U _ J<|U _ J<|q9 ?_;cases o;exact ⟨_,_,_,_,_,_,J⟩
     refine qb J<|qb J<|qb J<|qb J<|qb J<|U _ J<|q9 ?_;cases o;exact ⟨_,_,_,_,_,_,J⟩
    rintro _ ⟨ad,ae,af,ag,ah,ai,rfl⟩;refine q9 ?_;refine qn J a (fun _ a=>?_) (fun _ a=>?_)
    ·refine Q0<|O J<|U _ J<|U _ J<|U _ J<|U _ J<|U _ J<|U _ J<|U _ J<|K6 _ _ J<|q7 a fun ay ar a=>Kl _ ar J J J J J J J (Kp J J) J J J J<|qa J<|qv ?_;obtain rfl:=qt a;exact ⟨_,J,wkA [(0,3)] [] []⟩
    refine qo<|Qj ?_;obtain rfl:=qt a;exact ⟨_,J,wkA [(0,0)] [] []⟩
   intro l hb;subst hb;refine Q0<|U _ J<|O J<|qv<|⟨_,ql f,wkA [(0,0)] [] []⟩
  refine Q7 ?_;refine ⟨_,ql f,fun hm=>?_⟩;subst hm;exact ⟨_,J,wkA [(0,0)] [] []⟩
 intro g hb;subst hb;refine qf ?_;refine Y4 (st':=⟨[(9,.d (.sl 2 (g.map Qx)))],[],0⟩) (wkA [] [0] []) ?_ qe;refine Q0<|O J<|q7 b fun au av b=>Q9 (qoa g au av) J<|U _ J<|U _ J<|qa J<|qa J<|Q2 ?_;cases b;exact Qo _ J
theorem qxg (h : qk) (j : K7) (r : Bool) (a : qa0 h j = some r) : Pure Tryz.prog tab 103 [.agg (Qn h),.agg (q91 j)] (.bool r):=by
 unfold qa0 at a;refine K2 Tryz.func103 J qh qh J<|qc<|K6 _ _ J<|K6 _ _ J<|qa J<|qw<|U _ J<|U _ J<|U _ J<|U _ J<|U _ J<|U _ J<|q7 a fun c1 b a=>?_;refine Qh 8 (fun A st=>∃ k l m n o p q,st = A [(18,Q5 c1),(17,q),(16,p),(15,o),(14,n),(13,m),(12,l),(11,k)]) ?_ ?_
 ·refine Qi J J b (fun b=>?_) (fun b=>?_)
  ·refine U _ J<|U _ J<|U _ J<|U _ J<|U _ J<|U _ J<|U _ J<|q9 ?_;cases b;exact ⟨_,_,_,_,_,_,_,J⟩
  refine qb J<|qb J<|qb J<|qb J<|qb J<|qb J<|U _ J<|q9 ?_;cases b;exact ⟨_,_,_,_,_,_,_,J⟩
 rintro _ ⟨k,l,m,n,o,p,q,rfl⟩;refine q7 a fun ax c a=>?_;refine Qh 8 (fun A st=>∃ s t u v w x y,st = A [(26,Q5 ax),(25,y),(24,x),(23,w),(22,v),(21,u),(20,t),(19,s)]) ?_ ?_
 ·refine Qi J J c (fun c=>?_) (fun c=>?_)
  ·refine U _ J<|U _ J<|U _ J<|U _ J<|U _ J<|U _ J<|U _ J<|q9 ?_;cases c;exact ⟨_,_,_,_,_,_,_,J⟩
  refine qb J<|qb J<|qb J<|qb J<|qb J<|qb J<|U _ J<|q9 ?_;cases c;exact ⟨_,_,_,_,_,_,_,J⟩
 rintro _ ⟨s,t,u,v,w,x,y,rfl⟩;refine q7 a fun ay d a=>?_;refine Qh 8 (fun A st=>∃ z aa ab ac ad ae af,st = A [(34,Q5 ay),(33,af),(32,ae),(31,ad),(30,ac),(29,ab),(28,aa),(27,z)]) ?_ ?_
 ·refine Qi J J d (fun d=>?_) (fun d=>?_)
  ·refine U _ J<|U _ J<|U _ J<|U _ J<|U _ J<|U _ J<|U _ J<|q9 ?_;cases d;exact ⟨_,_,_,_,_,_,_,J⟩
  refine qb J<|qb J<|qb J<|qb J<|qb J<|qb J<|U _ J<|q9 ?_;cases d;exact ⟨_,_,_,_,_,_,_,J⟩
 rintro _ ⟨z,aa,ab,ac,ad,ae,af,rfl⟩;refine q7 a fun az f a=>?_;refine Qh 8 (fun A st=>∃ ag ah ai aj ak al am,st = A [(42,Q5 az),(41,am),(40,al),(39,ak),(38,aj),(37,ai),(36,ah),(35,ag)]) ?_ ?_
 ·refine Qi J J f (fun f=>?_) (fun f=>?_)
  ·refine U _ J<|U _ J<|U _ J<|U _ J<|U _ J<|U _ J<|U _ J<|q9 ?_;cases f;exact ⟨_,_,_,_,_,_,_,J⟩
  refine qb J<|qb J<|qb J<|qb J<|qb J<|qb J<|U _ J<|q9 ?_;cases f;exact ⟨_,_,_,_,_,_,_,J⟩
 rintro _ ⟨ag,ah,ai,aj,ak,al,am,rfl⟩;refine q7 a fun ba g a=>?_;refine Qh 8 (fun A st=>∃ an ao ap aq ar au av,st = A [(50,Q5 ba),(49,av),(48,au),(47,ar),(46,aq),(45,ap),(44,ao),(43,an)]) ?_ ?_
 ·refine Qi J J g (fun g=>?_) (fun g=>?_)
  ·refine U _ J<|U _ J<|U _ J<|U _ J<|U _ J<|U _ J<|U _ J<|q9 ?_;cases g;exact ⟨_,_,_,_,_,_,_,J⟩
  refine qb J<|qb J<|qb J<|qb J<|qb J<|qb J<|U _ J<|q9 ?_;cases g;exact ⟨_,_,_,_,_,_,_,J⟩
 rintro _ ⟨an,ao,ap,aq,ar,au,av,rfl⟩;refine qa J<|Q2 ?_;cases a;exact Qo _ J
theorem qxe (f : List qk) (b : K7) (r : Bool) (c : q9z f b = some r) : Pure Tryz.prog tab 63 [.sl 6 (f.map Qn),.agg (q91 b)] (.bool r):=by
 unfold q9z at c;refine K2 Tryz.func63 J qh qh J<|qc<|K6 _ _ J<|qa J<|q9<|qf<|qc<|qa J<|q9<|q7 c fun h k c=>?_;refine Qm (fun g=>.inl g = h) (fun g=>⟨[],[],0⟩) qe ?_ ?_
 ·refine Qb (q6q f b) (fun j=>⟨[(0,.d (.sl 6 (f.map Qn))),(3,.ref 0 3 0 0),(5,q8 j)],[(0,.dat 3 [(q91 b)])],1⟩) _ h k (wkA [(0,0)] [] []) ?_;intro j p a;unfold q6q at a;refine qf<|qc<|O J<|O J<|Qw J<|U _ J<|q9 ?_;refine qn J a (fun _ a=>?_) (fun _ a=>?_)
  ·refine qo<|qf<|Q6<|qf<|Q8 [q0,qu 0,q0,q0,q0,q0] qh<|O J<|O J<|q7 a fun l m a=>Qa m J<|U _ J<|U _ J<|q7 a fun n o a=>Q9 (qxg l b n o) J<|q9 ?_;refine qn J a (fun _ a=>?_) (fun _ a=>?_)
   ·refine qc<|qa J<|Q2 ?_;refine ⟨_,ql a,fun hm=>?_⟩;subst hm;cases c;exact Qo _ J
   refine qo<|Qj<|Qk<|Q0<|O J<|U _ J<|qa J<|qv<|⟨_,ql a,wkA [(0,0)] [] []⟩
  refine Q7 ?_;refine ⟨_,ql a,fun hm=>?_⟩;subst hm;exact ⟨_,J,wkA [] [] []⟩
 intro g hb;subst hb;refine qc<|qa J<|Q2 ?_;cases c;exact Qo _ J
theorem qxq (c : List qk) (h : Int) (j : Int) (r : List qp × Int) (a : qa2 c h j = some r) : Pure Tryz.prog tab 28 [.sl 6 (c.map Qn),qg h,qg j] (.tup [.sl 2 (r.1.map Qx),qg r.2]):=by
 unfold qa2 at a;refine K2 Tryz.func28 J qh qh J<|qc<|qa J<|qa J<|q9<|qf<|qc<|O J<|q7 a fun m n a=>Q9 (q6p c m n) J<|U _ J<|q9 ?_;refine qn J a (fun _ a=>?_) (fun _ a=>?_)
 ·refine qc<|O J<|q7 a fun o p a=>Q9 (q6p c o p) J<|qa J<|qa J<|Q2 ?_;obtain rfl:=qt a;exact finD (.inr J) J J (Y8 (.cons (.nil _) (.cons (.refl _) .nil)))
 refine qo<|qc<|O J<|q7 a fun g q a=>Q9 (Ue (.cons (.refl _) (.cons (.nil _) .nil)) (qgq c [] g q)) J<|qa J<|qw<|qa J<|q9<|qf<|qc<|qa J<|q9<|q7 a fun l s a=>?_;refine Qm (fun f=>f = l) (fun f=>⟨[(8,.d (.sl 1 (g.map (eI .i64)))),(9,.hs 0 1 0 f.length)],[(0,.dat 1 (f.map eB))],1⟩) qe ?_ ?_
 ·refine Qb (q6u g c h j) (fun k=>⟨[(0,.d (.sl 6 (c.map Qn))),(1,q8 h),(2,q8 j),(8,.d (.sl 1 (g.map (eI .i64)))),(9,.hs 0 1 0 k.2.length),(10,q8 k.1)],[(0,.dat 1 (k.2.map eB))],1⟩) _ l s (wkA [] [] [0]) ?_;intro k aa b;unfold q6u at b;refine qf<|qc<|O J<|O J<|Qw J<|U _ J<|q9 ?_;refine qn J b (fun _ b=>?_) (fun _ b=>?_)
  ·refine qo<|qf<|Q6<|Q0<|O J<|O J<|O J<|O J<|O J<|O J<|q7 b fun t u b=>Qa u J<|U _ J<|U _ J<|q7 b fun v w b=>Q9 (qxe c ({X:=h,Y:=j,Z:=t} : K7) v w) J<|K6 _ _ J<|q7 b fun ab x b=>Kl _ x J J J J J J J (Kp J J) J J J J<|qa J<|qv<|Qk<|Q0<|O J<|U _ J<|qa J<|qv<|⟨_,ql b,wkA [(0,2)] [] []⟩
  refine Q7 ?_;refine ⟨_,ql b,fun hm=>?_⟩;subst hm;exact ⟨_,J,wkA [(0,0)] [] []⟩
 intro f hb;subst hb;refine qf ?_;refine Y4 (st':=⟨[(8,.d (.sl 1 (g.map (eI .i64)))),(9,.d (.sl 1 (f.map eB)))],[],0⟩) (wkA [] [0] []) ?_ qe;refine Q0<|O J<|O J<|q7 a fun y z a=>Q9 (qgl g f y z) J<|qa J<|qa J<|Q2 ?_;cases a;exact Qo _ J
theorem q108 (b : List qd) (f : qd→Option Bool) (p1F : FuncId) (p1C : List DV) (p1Ok : ∀ (h : qd) (r : Bool),f h = some r→Pure Tryz.prog tab p1F ([.agg (qm h)] ++ p1C) (.bool r)) (r : Int) (c : qea b f = some r) : Pure Tryz.prog tab 95 [.sl 4 (b.map qm),.fn p1F p1C] (qg r):=by
 unfold qea at c;refine K2 Tryz.func95 J qh qh J<|qc<|qa J<|q9<|qf<|qc<|O J<|Qw J<|O J<|q9<|q7 c fun j l c=>?_;refine Qm (fun g=>.inl g = j) (fun g=>⟨[],[],0⟩) qe ?_ ?_
 ·refine Qb (q4y b f) (fun k=>⟨[(0,.d (.sl 4 (b.map qm))),(1,.d (.fn p1F p1C)),(7,q8 (b.length : Int)),(8,q8 k)],[],0⟩) _ j l (wkA [] [] []) ?_;intro k q a;unfold q4y at a;refine qc<|U _ J<|q9<|qf ?_;refine qn J a (fun _ a=>?_) (fun _ a=>?_)
  ·refine qo<|qf<|Q6<|qc<|O J<|qa J<|qw<|O J<|O J<|O J<|q7 a fun m n a=>Qa n J<|U _ J<|q7 a fun o p a=>Kt _ (p1Ok m o p) J J J (.inl J)<|q9 ?_;refine qn J a (fun _ a=>?_) (fun _ a=>?_)
   ·refine qc<|O J<|qa J<|Q2 ?_;refine ⟨_,ql a,fun hm=>?_⟩;subst hm;cases c;exact Qo _ J
   refine qo<|Qj<|Qk<|Q0<|U _ J<|O J<|qv<|⟨_,ql a,wkA [] [] []⟩
  refine Q7 ?_;refine ⟨_,ql a,fun hm=>?_⟩;subst hm;exact ⟨_,J,wkA [] [] []⟩
 intro g hb;subst hb;refine qc<|qa J<|Q2 ?_;cases c;exact Qo _ J
theorem q104 (b : List qd) (c : qd→Option Bool) (p1F : FuncId) (p1C : List DV) (p1Ok : ∀ (d : qd) (r : Bool),c d = some r→Pure Tryz.prog tab p1F ([.agg (qm d)] ++ p1C) (.bool r)) (r : Bool) (a : qai b c = some r) : Pure Tryz.prog tab 58 [.sl 4 (b.map qm),.fn p1F p1C] (.bool r):=by
 unfold qai at a;refine K2 Tryz.func58 J qh qh J<|qc<|qa J<|qw<|O J<|O J<|q7 a fun f g a=>Q9 (q108 b c p1F p1C p1Ok f g) J<|U _ J<|qa J<|Q2 ?_;cases a;exact Qo _ J
theorem qy4 (b : qd) (r : Bool) (a : q3b b = some r) : Pure Tryz.prog tab 68 [.agg (qm b)] (.bool r):=by
 unfold q3b at a;refine K2 Tryz.func68 J qh qh J<|qc<|K6 _ _ J<|qa J<|qw<|U _ J<|q7 a fun c d a=>Q9 (qn9 b c d) J<|U _ J<|qa J<|Q2 ?_;cases a;exact Qo _ J
theorem qn5 (c : List qd) (r : Int) (a : q72 c = some r) : Pure Tryz.prog tab 32 [.sl 4 (c.map qm)] (qg r):=by
 unfold q72 at a;refine K2 Tryz.func32 J qh qh J<|qc<|qa J<|q9<|qf<|qc<|O J<|Qw J<|U _ J<|q9 ?_;refine qn J a (fun _ a=>?_) (fun _ a=>?_)
 ·refine qc<|qa J<|Q2 ?_;cases a;exact Qo _ J
 refine qo<|qf<|qc<|O J<|q7 a fun m n a=>Q9 (q104 c (fun d=>q3b d) 68 [] (fun d r hr=>qy4 d r hr) m n) J<|q9 ?_;refine qn J a (fun _ a=>?_) (fun _ a=>?_)
 ·refine qc<|qa J<|Q2 ?_;cases a;exact Qo _ J
 refine qo<|qf<|qc<|O J<|q7 a fun f o a=>Q9 (qn8 c f o) J<|O J<|U _ J<|U _ J<|qa J<|qa J<|qw<|O J<|U _ J<|q7 a fun p b a=>?_;refine Qh 6 (fun A st=>∃ g h j k l,st = A [(22,Q5 p),(21,l),(20,k),(19,j),(18,h),(17,g)]) ?_ ?_
 ·refine Qi J J b (fun b=>?_) (fun b=>?_)
  ·refine qb J<|qb J<|qb J<|qb J<|U _ J<|q9 ?_;cases b;exact ⟨_,_,_,_,_,J⟩
  refine O J<|O J<|q7 b fun q s b=>Q9 (qh3 f.1 c q s) J<|U _ J<|U _ J<|q9 ?_;cases b;exact ⟨_,_,_,_,_,J⟩
 rintro _ ⟨g,h,j,k,l,rfl⟩;refine q9 ?_;refine qn J a (fun _ a=>?_) (fun _ a=>?_)
 ·refine qc<|qa J<|Q2 ?_;cases a;exact Qo _ J
 refine qo<|qc<|qa J<|Q2 ?_;cases a;exact Qo _ J
theorem qv6 (c : List qd) (d : Int) (r : Int) (a : q9k c d = some r) : Pure Tryz.prog tab 48 [.sl 4 (c.map qm),qg d] (qg r):=by
 unfold q9k at a;refine K2 Tryz.func48 J qh qh J<|qc<|qa J<|q9<|qf<|qc<|O J<|q7 a fun j k a=>Q9 (qn5 c j k) J<|qa J<|qw<|O J<|U _ J<|q9 ?_;refine qn J a (fun _ a=>?_) (fun _ a=>?_)
 ·refine qc<|O J<|qa J<|Q2 ?_;cases a;exact Qo _ J
 refine qo<|qf<|qc<|O J<|U _ J<|q7 a fun l b a=>?_;refine Qh 4 (fun A st=>∃ f g h,st = A [(16,Q5 l),(15,h),(14,g),(13,f)]) ?_ ?_
 ·refine Qi J J b (fun b=>?_) (fun b=>?_)
  ·refine qb J<|qb J<|U _ J<|q9 ?_;cases b;exact ⟨_,_,_,J⟩
  refine O J<|U _ J<|U _ J<|q9 ?_;cases b;exact ⟨_,_,_,J⟩
 rintro _ ⟨f,g,h,rfl⟩;refine q9 ?_;refine qn J a (fun _ a=>?_) (fun _ a=>?_)
 ·refine qc<|qa J<|Q2 ?_;cases a;exact Qo _ J
 refine qo<|qc<|qa J<|Q2 ?_;cases a;exact Qo _ J
theorem qy6 (g : List qd) (r : qd × Int) (a : qa8 g = some r) : Pure Tryz.prog tab 87 [.sl 4 (g.map qm)] (.tup [.agg (qm r.1),qg r.2]):=by
 unfold qa8 at a;refine K2 Tryz.func87 J qh qh J<|qc<|K9 J J<|qa J<|q9<|qf<|qc<|O J<|q7 a fun k l a=>Q9 (qn5 g k l) J<|qa J<|qw<|O J<|U _ J<|q9 ?_;refine qn J a (fun _ a=>?_) (fun _ a=>?_)
 ·refine qc<|U _ J<|O J<|Qv 0 _ J<|qa J<|Q2 ?_;cases a;exact Qo _ J
 refine qo<|qf<|qc<|O J<|Qw J<|U _ J<|q9 ?_;refine qn J a (fun _ a=>?_) (fun _ a=>?_)
 ·refine qc<|U _ J<|Qv 0 _ J<|qa J<|Q2 ?_;cases a;exact Qo _ J
 refine qo<|qc<|O J<|q7 a fun p m a=>Qa m J<|U _ J<|K9 J J<|Qv 1 _ J<|q9<|qf<|qc<|O J<|Qw J<|O J<|q9<|q7 a fun j n a=>?_;refine Qm (fun f=>f = j) (fun f=>⟨[(2,.ref 0 4 0 0),(5,.ref 1 4 0 0)],[(0,.dat 4 [[qg 0,qg 0,qg 0,qg 0]]),(1,.dat 4 [[qg f.1,qg f.2.1,qg f.2.2.1,qg f.2.2.2]])],2⟩) qe ?_ ?_
 ·refine Qb (q4t g) (fun b=>⟨[(2,.ref 0 4 0 0),(5,.ref 1 4 0 0),(21,.d (.sl 4 (g.map qm))),(22,q8 (g.length : Int)),(23,q8 b.1)],[(0,.dat 4 [[qg 0,qg 0,qg 0,qg 0]]),(1,.dat 4 [[qg b.2.1,qg b.2.2.1,qg b.2.2.2.1,qg b.2.2.2.2]])],2⟩) _ j n (wkA [(0,0),(1,1)] [] []) ?_;intro b q c;unfold q4t at c;refine qc<|U _ J<|q9<|qf ?_;refine qn J c (fun _ c=>?_) (fun _ c=>?_)
  ·refine qo<|qf<|Q6<|qc<|q7 c fun h o c=>Qa o J<|U _ J<|K9 J J<|Qv 2 _ J<|q9<|Q0<|U _ J<|U _ J<|U _ J<|U _ J<|q69 (r:=min b.2.1 h.X0) J J (by simp only [q61];rfl)<|U _ J<|U _ J<|U _ J<|U _ J<|q69 (r:=min b.2.2.1 h.Y0) J J (by simp only [q61];rfl)<|U _ J<|U _ J<|U _ J<|U _ J<|q68 (r:=max b.2.2.2.1 h.X1) J J (by simp only [q60];rfl)<|U _ J<|U _ J<|U _ J<|U _ J<|q68 (r:=max b.2.2.2.2 h.Y1) J J (by simp only [q60];rfl)<|U _ J<|Qv 1 _ J<|qv<|Qk<|Q0<|U _ J<|O J<|qv<|⟨_,ql c,wkA [(0,0),(1,1)] [] []⟩
  refine Q7 ?_;refine ⟨_,ql c,fun hm=>?_⟩;subst hm;exact ⟨_,J,wkA [(0,0),(1,1)] [] []⟩
 intro f hb;subst hb;refine qc<|U _ J<|Qv 0 _ J<|qa J<|Q2 ?_;cases a;exact Qo _ J
theorem qgd (b : qd) (f : List qd) (r : List qd) (a : q4c  b f = some r) : K4 Tryz.prog tab 88 [.d (.agg [qg ((b).X0),qg ((b).Y0),qg ((b).X1),qg ((b).Y1)]),.ref 0 1 0 0] [(0,.cel 1 [[.hs 1 4 0 f.length]]),(1,.dat 4 (f.map qm))] 2 (.d (.tup [])) [(0,.cel 1 [[.hs 2 4 0 r.length]]),(2,.dat 4 (r.map qm))] 3:=by
 unfold q4c at a;refine Kb Tryz.func88 J qh qh J<|qc<|K6 _ _ J<|qw<|U _ J<|U _ J<|U _ J<|U _ J<|U _ J<|q7 a fun n c a=>?_;refine Qh 7 (fun A st=>∃ g h j k l m,st = A [(14,Q5 n),(13,m),(12,l),(11,k),(10,j),(9,h),(8,g)]) ?_ ?_
 ·refine Qi J J c (fun c=>?_) (fun c=>?_)
  ·refine U _ J<|U _ J<|U _ J<|U _ J<|U _ J<|U _ J<|q9 ?_;cases c;exact ⟨_,_,_,_,_,_,J⟩
  refine qb J<|qb J<|qb J<|qb J<|qb J<|U _ J<|q9 ?_;cases c;exact ⟨_,_,_,_,_,_,J⟩
 rintro _ ⟨g,h,j,k,l,m,rfl⟩;refine q9 ?_;refine qn J a (fun _ a=>?_) (fun _ a=>?_)
 ·refine Q0<|U _ J<|U _ J<|K6 _ _ J<|q7 a fun p o a=>Kl _ o J J J J J J J (Kp J J) J J J J<|Qv 0 _ J<|qv ?_;obtain rfl:=qt a;exact ⟨.inl J,_,J,wkA [(2,4)] [] []⟩
 refine qo<|Qj ?_;obtain rfl:=qt a;exact ⟨.inl J,_,J,wkA [(2,1)] [] []⟩
theorem qlw (a : qd) (b : Int) (r : qd) (c : q4b a b = some r) : Pure Tryz.prog tab 50 [.agg (qm a),qg b] (.agg (qm r)):=by
 unfold q4b at c;refine K2 Tryz.func50 J qh qh J<|qc<|K6 _ _ J<|K9 J J<|qw<|U _ J<|U _ J<|O J<|U _ J<|U _ J<|U _ J<|O J<|U _ J<|U _ J<|U _ J<|O J<|U _ J<|U _ J<|U _ J<|O J<|U _ J<|U _ J<|Qv 1 _ J<|Q2 ?_;cases c;exact Qo _ J
theorem qlv (c : qd) (d : qd) (r : Bool) (b : q1y c d = some r) : Pure Tryz.prog tab 52 [.agg (qm c),.box (qm d)] (.bool r):=by
 unfold q1y at b;refine K2 Tryz.func52 J qh qh J<|qc<|K6 _ _ J<|qa J<|qw<|U _ J<|U _ J<|U _ J<|U _ J<|U _ J<|q7 b fun m a b=>?_;refine Qh 7 (fun A st=>∃ f g h j k l,st = A [(15,Q5 m),(14,l),(13,k),(12,j),(11,h),(10,g),(9,f)]) ?_ ?_
 ·refine Qi J J a (fun a=>?_) (fun a=>?_)
  ·refine qb J<|qb J<|qb J<|qb J<|qb J<|U _ J<|q9 ?_;cases a;exact ⟨_,_,_,_,_,_,J⟩
  refine U _ J<|U _ J<|U _ J<|U _ J<|U _ J<|U _ J<|q9 ?_;cases a;exact ⟨_,_,_,_,_,_,J⟩
 rintro _ ⟨f,g,h,j,k,l,rfl⟩;refine qa J<|Q2 ?_;cases b;exact Qo _ J
theorem qv7 (a : qq) (b : qq) (r : Int) (c : q9l a b = some r) : Pure Tryz.prog tab 143 [.agg (Qg a),.agg (Qg b)] (qg r):=by
 unfold q9l at c;refine K2 Tryz.func143 J qh qh J<|qc<|K6 _ _ J<|K6 _ _ J<|qa J<|qw<|U _ J<|U _ J<|U _ J<|U _ J<|U _ J<|qa J<|Q2 ?_;cases c;exact Qo _ J
theorem q10n (k : qq→qq→Option Int) (q1F : FuncId) (q1C : List DV) (q1Ok : ∀ (p : qq) (q : qq) (r : Int),k p q = some r→Pure Tryz.prog tab q1F ([.agg (Qg p),.agg (Qg q)] ++ q1C) (qg r)) (n : List qq) (f : Int) (g : Int) (r : List qq) (l : qay k n f g = some r) : K4 Tryz.prog tab 171 [.hs 0 3 0 n.length,q8 f,q8 g,.d (.fn q1F q1C)] [(0,.dat 3 (n.map Qg))] 1 (.d (.tup [])) [(0,.dat 3 (r.map Qg))] 1:=by
 unfold qay at l;refine Kb Tryz.func171 J qh qh J<|qc<|O J<|U _ J<|qa J<|q9<|q7 l fun al am l=>Q6<|Qb (qaz g f k) (fun h=>⟨[(0,.hs 0 3 0 h.2.length),(1,q8 f),(2,q8 g),(3,.d (.fn q1F q1C)),(8,q8 h.1)],[(0,.dat 3 (h.2.map Qg))],1⟩) _ al am (wkA [] [] []) ?_;intro h az c;unfold qaz at c;refine qf<|qc<|O J<|O J<|U _ J<|q9 ?_;refine qn J c (fun _ c=>?_) (fun _ c=>?_)
 ·refine qo<|qf<|q7 c fun an o c=>?_;refine Qm (fun j=>j = an) (fun j=>⟨[(0,.hs 0 3 0 j.length),(1,q8 f),(2,q8 g),(3,.d (.fn q1F q1C)),(8,q8 h.1)],[(0,.dat 3 (j.map Qg))],1⟩) qe ?_ ?_
  ·refine qc<|O J<|qa J<|q9<|q7 o fun ao ap o=>Q6<|Qb (qb0 f k) (fun m=>⟨[(0,.hs 0 3 0 m.2.length),(1,q8 f),(2,q8 g),(3,.d (.fn q1F q1C)),(8,q8 h.1),(9,q8 m.1)],[(0,.dat 3 (m.2.map Qg))],1⟩) _ ao ap (wkA [] [] []) ?_;intro m ba a;unfold qb0 at a;refine qf<|qf<|Q8 [q0,q0,q0,qu 0,q0,q0,q0,q0,qu 0,q0,q0,q0,q0,q0,q0,q0,q0] qh<|O J<|O J<|U _ J<|q7 a fun aq b a=>?_;refine Qh 14 (fun A st=>∃ s t u v w x y z aa ab ac ad ae,st = A [(34,Q5 aq),(33,ae),(32,ad),(31,ac),(30,ab),(29,aa),(28,z),(27,y),(26,x),(25,w),(24,v),(23,u),(22,t),(21,s)]) ?_ ?_
   ·refine Qi J J b (fun b=>?_) (fun b=>?_)
    ·refine O J<|O J<|O J<|q7 b fun ar af b=>qs af J J<|Q4 _ af J<|O J<|O J<|U _ J<|q7 b fun au ag b=>qs ag J J<|Q4 _ ag J<|q7 b fun av aw b=>Kt _ (q1Ok ar au av aw) J J J (.inl J)<|U _ J<|U _ J<|q9 ?_;cases b;exact ⟨_,_,_,_,_,_,_,_,_,_,_,_,_,J⟩
    refine qb J<|qb J<|qb J<|qb J<|qb J<|qb J<|qb J<|qb J<|qb J<|qb J<|qb J<|qb J<|U _ J<|q9 ?_;cases b;exact ⟨_,_,_,_,_,_,_,_,_,_,_,_,_,J⟩
   rintro _ ⟨s,t,u,v,w,x,y,z,aa,ab,ac,ad,ae,rfl⟩;refine q9 ?_;refine qn J a (fun _ a=>?_) (fun _ a=>?_)
   ·refine qo<|qf<|Q6<|Q8 [Qp 0,q0,Qp 0,q0,qu 0,q0,q0,q0,qu 0,q0,q0,q0,q0,q0,q0,q0,q0,q0] qh<|O J<|O J<|O J<|O J<|U _ J<|O J<|O J<|U _ J<|q7 a fun ax ah a=>qs ah J J<|Q4 _ ah J<|O J<|O J<|q7 a fun ay ai a=>qs ai J J<|Q4 _ ai J<|q7 a fun bb aj a=>qs aj J J<|Qr ax aj J J J J J J J J (leb J) J<|q7 a fun bc ak a=>qs ak qe J<|Qr ay ak J J J J J J J J (leb J) J<|qv<|Qk<|Q0<|O J<|U _ J<|qa J<|qv<|⟨_,ql a,wkE [] [] [] J ⟨⟨_,J,Qz qe J Q1 (ltd J)⟩,qi J,qi J,qi J,qi J,qi J,trivial⟩ ⟨Qf J J,trivial⟩⟩
   refine Q7 ?_;refine ⟨_,ql a,fun hm=>?_⟩;subst hm;obtain rfl:=qt o;exact ⟨_,J,wkA [] [] []⟩
  intro j hb;subst hb;refine Q0<|O J<|U _ J<|qa J<|qv<|⟨_,ql c,wkA [] [] []⟩
 refine Q7 ?_;refine ⟨_,ql c,fun hm=>?_⟩;subst hm;obtain rfl:=qt l;exact ⟨.inl J,_,J,wkA [] [] []⟩
theorem qny (l : qq→qq→Option Int) (q1F : FuncId) (q1C : List DV) (q1Ok : ∀ (n : qq) (o : qq) (r : Int),l n o = some r→Pure Tryz.prog tab q1F ([.agg (Qg n),.agg (Qg o)] ++ q1C) (qg r)) (m : List qq) (p : Int) (f : Int) (g : Int) (r : List qq) (h : q8b l m p f g = some r) : K4 Tryz.prog tab 188 [.hs 0 3 0 m.length,q8 p,q8 f,q8 g,.d (.fn q1F q1C)] [(0,.dat 3 (m.map Qg))] 1 (.d (.tup [])) [(0,.dat 3 (r.map Qg))] 1:=by
 unfold q8b at h;refine Kb Tryz.func188 J qh qh J<|qc<|O J<|qa J<|q9<|q7 h fun aq ar h=>Q6<|Qb (qc0 f g l) (fun c=>⟨[(0,.hs 0 3 0 c.2.length),(2,q8 f),(3,q8 g),(4,.d (.fn q1F q1C)),(10,q8 c.1)],[(0,.dat 3 (c.2.map Qg))],1⟩) _ aq ar (wkA [] [] []) ?_;intro c bg a;unfold qc0 at a;refine Q6<|qc<|O J<|U _ J<|U _ J<|qa J<|q9<|qf<|qc<|O J<|O J<|U _ J<|q9 ?_;refine qn J a (fun _ a=>?_) (fun _ a=>?_)
 ·refine Q7 ?_;refine ⟨_,ql a,fun hm=>?_⟩;subst hm;obtain rfl:=qt h;exact ⟨.inl J,_,J,wkA [] [] []⟩
 refine qo<|qf<|qf<|Q8 [q0,q0,q0,qu 0,q0,q0,q0,q0,q0,q0,qu 0,q0,q0,q0,q0,q0,q0,q0,q0,q0,q0,q0] qh<|O J<|U _ J<|O J<|U _ J<|q7 a fun au b a=>?_;refine Qh 18 (fun A st=>∃ q s t u v w x y z aa ab ac ad ae af ag ah,st = A [(40,Q5 au),(39,ah),(38,ag),(37,af),(36,ae),(35,ad),(34,ac),(33,ab),(32,aa),(31,z),(30,y),(29,x),(28,w),(27,v),(26,u),(25,t),(24,s),(23,q)]) ?_ ?_
 ·refine Qi J J b (fun b=>?_) (fun b=>?_)
  ·refine O J<|O J<|O J<|O J<|U _ J<|q7 b fun av ai b=>qs ai J J<|Q4 _ ai J<|O J<|O J<|O J<|U _ J<|U _ J<|q7 b fun aw aj b=>qs aj J J<|Q4 _ aj J<|q7 b fun ax ay b=>Kt _ (q1Ok av aw ax ay) J J J (.inl J)<|U _ J<|U _ J<|q9 ?_;cases b;exact ⟨_,_,_,_,_,_,_,_,_,_,_,_,_,_,_,_,_,J⟩
  refine qb J<|qb J<|qb J<|qb J<|qb J<|qb J<|qb J<|qb J<|qb J<|qb J<|qb J<|qb J<|qb J<|qb J<|qb J<|qb J<|U _ J<|q9 ?_;cases b;exact ⟨_,_,_,_,_,_,_,_,_,_,_,_,_,_,_,_,_,J⟩
 rintro _ ⟨q,s,t,u,v,w,x,y,z,aa,ab,ac,ad,ae,af,ag,ah,rfl⟩;refine q9<|q7 a fun az j a=>?_;refine Y2 (fun k=>k = az) (fun k=>⟨[(0,.hs 0 3 0 c.2.length),(2,q8 f),(3,q8 g),(4,.d (.fn q1F q1C)),(10,q8 c.1),(11,q8 k)],[(0,.dat 3 (c.2.map Qg))],1⟩) qe ?_ ?_
 ·refine qn J j (fun _ j=>?_) (fun _ j=>?_)
  ·refine Q0<|O J<|U _ J<|qa J<|qv ?_;obtain rfl:=qt j;exact ⟨_,J,wkA [] [] []⟩
  refine qo<|Qj ?_;obtain rfl:=qt j;exact ⟨_,J,wkA [] [] []⟩
 intro k hb;subst hb;refine qf<|qf<|Q8 [q0,q0,q0,qu 0,q0,q0,q0,q0,q0,qu 0,q0,q0,q0,q0,q0,q0] qh<|O J<|O J<|O J<|O J<|U _ J<|q7 a fun ba ak a=>qs ak J J<|Q4 _ ak J<|O J<|O J<|O J<|U _ J<|q7 a fun bb al a=>qs al J J<|Q4 _ al J<|q7 a fun bc bd a=>Kt _ (q1Ok ba bb bc bd) J J J (.inl J)<|U _ J<|U _ J<|q9 ?_;refine qn J a (fun _ a=>?_) (fun _ a=>?_)
 ·refine q23 ?_;refine ⟨_,ql a,fun hm=>?_⟩;subst hm;obtain rfl:=qt h;exact ⟨.inr J,_,J,wkA [] [] []⟩
 refine qo<|qf<|Q8 [Qp 0,q0,Qp 0,q0,qu 0,q0,q0,q0,q0,q0,qu 0,q0,q0,q0,q0,q0,q0,q0,q0,q0,q0,q0,q0,q0] qh<|O J<|O J<|O J<|U _ J<|O J<|O J<|O J<|U _ J<|O J<|O J<|O J<|U _ J<|q7 a fun be am a=>qs am J J<|Q4 _ am J<|O J<|O J<|O J<|U _ J<|q7 a fun bf an a=>qs an J J<|Q4 _ an J<|q7 a fun bh ao a=>qs ao J J<|Qr be ao J J J J J J J J (leb J) J<|q7 a fun bi ap a=>qs ap qe J<|Qr bf ap J J J J J J J J (leb J) J<|q9<|Q0<|O J<|qa J<|qv<|Qk<|Qj<|⟨_,ql a,wkE [] [] [] J ⟨⟨_,J,Qz qe J Q1 (ltd J)⟩,qi J,qi J,qi J,qi J,trivial⟩ ⟨Qf J J,trivial⟩⟩
theorem q10k (g : qq→qq→Option Int) (q1F : FuncId) (q1C : List DV) (q1Ok : ∀ (o : qq) (p : qq) (r : Int),g o p = some r→Pure Tryz.prog tab q1F ([.agg (Qg o),.agg (Qg p)] ++ q1C) (qg r)) (m : List qq) (b : Int) (h : Int) (r : List qq) (j : qas g m b h = some r) : K4 Tryz.prog tab 172 [.hs 0 3 0 m.length,q8 b,q8 h,.d (.fn q1F q1C)] [(0,.dat 3 (m.map Qg))] 1 (.d (.tup [])) [(0,.dat 3 (r.map Qg))] 1:=by
 unfold qas at j;refine Kb Tryz.func172 J qh qh J<|qc<|O J<|qa J<|qw<|qa J<|qw<|O J<|O J<|U _ J<|qa J<|q9<|qf<|qc<|O J<|U _ J<|U _ J<|qa J<|q9<|q7 j fun q z j=>?_;refine Qm (fun l=>l = q) (fun l=>⟨[(0,.hs 0 3 0 l.length),(3,.d (.fn q1F q1C)),(8,q8 b),(9,q8 0),(10,.d (qg (w64 (h - b))))],[(0,.dat 3 (l.map Qg))],1⟩) qe ?_ ?_
 ·refine Qb (qat g h b) (fun k=>⟨[(0,.hs 0 3 0 k.2.length),(3,.d (.fn q1F q1C)),(8,q8 b),(9,q8 0),(10,.d (qg (w64 (h - b)))),(11,q8 k.1)],[(0,.dat 3 (k.2.map Qg))],1⟩) _ q z (wkA [] [] []) ?_;intro k ai c;unfold qat at c;refine qf<|qc<|O J<|U _ J<|q9 ?_;refine qn J c (fun _ c=>?_) (fun _ c=>?_)
  ·refine qo<|qf<|Q6<|Q0<|O J<|O J<|O J<|O J<|O J<|q7 c fun s aa c=>q7 c fun aj ab c=>?_;have ac:=Kd ab;refine K8 [(0,0)] [(0,0)] _ (.d (.tup [])) 1 [(0,.dat 3 (s.map Qg))] 1 (qny g q1F q1C q1Ok k.2 k.1 (w64 (h - b)) b s aa)<|qv<|Qk<|Q0<|O J<|U _ J<|qa J<|qv<|⟨_,ql c,wkE [] [] [] J ⟨⟨_,J,Qz (by simp [ac]) J Q1 (ltd J)⟩,qi J,qi J,qi J,qi J,qi J,trivial⟩ ⟨Qf J J,trivial⟩⟩
  refine Q7 ?_;refine ⟨_,ql c,fun hm=>?_⟩;subst hm;exact ⟨_,J,wkA [] [] []⟩
 intro l hb;subst hb;refine qc<|O J<|U _ J<|qa J<|q9<|q7 j fun ad ae j=>Q6<|Qb (qau b g) (fun f=>⟨[(0,.hs 0 3 0 f.2.length),(3,.d (.fn q1F q1C)),(8,q8 b),(9,q8 0),(12,q8 f.1)],[(0,.dat 3 (f.2.map Qg))],1⟩) _ ad ae (wkA [] [] []) ?_;intro f ak a;unfold qau at a;refine qf<|qc<|O J<|U _ J<|q9 ?_;refine qn J a (fun _ a=>?_) (fun _ a=>?_)
 ·refine qo<|qf<|Q6<|qf<|Q8 [Qp 0,q0,Qp 0,q0,qu 0,q0,q0,q0,qu 0,q0,q0,q0,q0,q0,q0,q0,q0,q0,q0,q0] qh<|O J<|O J<|O J<|O J<|O J<|U _ J<|O J<|O J<|O J<|U _ J<|q7 a fun t u a=>qs u J J<|Q4 _ u J<|O J<|O J<|q7 a fun v w a=>qs w J J<|Q4 _ w J<|q7 a fun al x a=>qs x J J<|Qr t x J J J J J J J J (leb J) J<|q7 a fun am y a=>qs y qe J<|Qr v y J J J J J J J J (leb J) J<|q9<|Q0<|O J<|O J<|O J<|O J<|O J<|q7 a fun n af a=>q7 a fun an ag a=>?_;have ah:=Kd ag;refine J5 [(0,0)] [(0,0)] [.hs 0 3 0 f.2.length,q8 0,q8 f.1,q8 b,.d (.fn q1F q1C)] (.d (.tup [])) [(0,.dat 3 (n.map Qg))] [(0,.dat 3 (n.map Qg))] 1 (qny g q1F q1C q1Ok ((f.2.set b.toNat t).set (w64 (b + f.1)).toNat v) 0 f.1 b n af) J J J (Y7 [(0,0)] [] [] J ⟨⟨_,J,Qz qe J Q1 (ltd J)⟩,qi J,qi J,qi J,qi J,trivial⟩ ⟨Qf J J,trivial⟩) (Y7 [(0,0)] [] [] J ⟨qi J,trivial⟩ ⟨Qf J J,trivial⟩) J ⟨.inl J,trivial⟩<|qv<|Qk<|Q0<|O J<|U _ J<|qa J<|qv<|⟨_,ql a,wkE [] [] [] J ⟨⟨_,J,Qz (by simp [ah]) J Q1 (ltd J)⟩,qi J,qi J,qi J,qi J,trivial⟩ ⟨Qf J J,trivial⟩⟩
 refine Q7 ?_;refine ⟨_,ql a,fun hm=>?_⟩;subst hm;obtain rfl:=qt j;exact ⟨.inl J,_,J,wkA [] [] []⟩
theorem qha (b : qq→qq→Option Int) (q1F : FuncId) (q1C : List DV) (q1Ok : ∀ (c : qq) (f : qq) (r : Int),b c f = some r→Pure Tryz.prog tab q1F ([.agg (Qg c),.agg (Qg f)] ++ q1C) (qg r)) (g : List qq) (h : Int) (j : Int) (k : Int) (r : Int × Int × Int) (a : q53 b g h j k = some r) : K4 Tryz.prog tab 194 [.d (.sl 3 (g.map Qg)),q8 h,q8 j,.ref 0 1 0 0,.d (.fn q1F q1C)] [(0,.dat 1 [[qg k]])] 1 (.d (.tup [qg r.1,qg r.2.1])) [(0,.dat 1 [[qg r.2.2]])] 1:=by
 unfold q53 at a;refine Kb Tryz.func194 J qh qh J<|qc<|qa J<|qa J<|q9<|qf<|qf<|Q8 [q0,q0,q0,q0,q0,q0,q0,q0,q0,q0,q0] qh<|O J<|O J<|O J<|q7 a fun l m a=>Qa m J<|U _ J<|O J<|O J<|q7 a fun n o a=>Qa o J<|U _ J<|q7 a fun p q a=>Kt _ (q1Ok l n p q) J J J (.inl J)<|U _ J<|q9 ?_;refine qn J a (fun _ a=>?_) (fun _ a=>?_)
 ·refine qc<|O J<|U _ J<|U _ J<|U _ J<|U _ J<|Qv 0 _ J<|qw<|O J<|O J<|qa J<|qa J<|Q2 ?_;obtain rfl:=qt a;exact ⟨.inr J,_,J,wkA [] [] []⟩
 refine qo<|qc<|O J<|O J<|qa J<|qa J<|Q2 ?_;obtain rfl:=qt a;exact ⟨.inr J,_,J,wkA [] [] []⟩
theorem qnv (f : qq→qq→Option Int) (q1F : FuncId) (q1C : List DV) (q1Ok : ∀ (n : qq) (o : qq) (r : Int),f n o = some r→Pure Tryz.prog tab q1F ([.agg (Qg n),.agg (Qg o)] ++ q1C) (qg r)) (g : List qq) (j : Int) (k : Int) (l : Int) (m : Int) (r : Int × Int) (a : q7l f g j k l m = some r) : K4 Tryz.prog tab 190 [.d (.sl 3 (g.map Qg)),q8 j,q8 k,q8 l,.ref 0 1 0 0,.d (.fn q1F q1C)] [(0,.dat 1 [[qg m]])] 1 (q8 r.1) [(0,.dat 1 [[qg r.2]])] 1:=by
 unfold q7l at a;refine Kb Tryz.func190 J qh qh J<|qc<|qa J<|qw<|O J<|O J<|O J<|O J<|O J<|q7 a fun b p a=>K8 [(0,0)] [(0,0)] _ (.d (.tup [qg b.1,qg b.2.1])) 1 [(0,.dat 1 [[qg b.2.2]])] 1 (qha f q1F q1C q1Ok g j k m b p)<|O J<|U _ J<|U _ J<|qa J<|qa J<|qw<|O J<|O J<|O J<|O J<|O J<|q7 a fun c q a=>K8 [(0,0)] [(0,0)] _ (.d (.tup [qg c.1,qg c.2.1])) 1 [(0,.dat 1 [[qg c.2.2]])] 1 (qha f q1F q1C q1Ok g b.2.1 l b.2.2 c q)<|O J<|U _ J<|U _ J<|qa J<|qa J<|qw<|O J<|O J<|O J<|O J<|O J<|q7 a fun h s a=>K8 [(0,0)] [(0,0)] _ (.d (.tup [qg h.1,qg h.2.1])) 1 [(0,.dat 1 [[qg h.2.2]])] 1 (qha f q1F q1C q1Ok g b.1 c.1 c.2.2 h s)<|O J<|U _ J<|U _ J ?_;refine qa J<|qa J<|qw<|O J<|qa J<|Q2 ?_;obtain rfl:=qt a;exact ⟨.inr J,_,J,wkA [] [] []⟩
theorem qh6 (c : qq→qq→Option Int) (q1F : FuncId) (q1C : List DV) (q1Ok : ∀ (j : qq) (k : qq) (r : Int),c j k = some r→Pure Tryz.prog tab q1F ([.agg (Qg j),.agg (Qg k)] ++ q1C) (qg r)) (f : List qq) (a : Int) (g : Int) (r : Int × Int) (b : q50 c f a g = some r) : K4 Tryz.prog tab 189 [.d (.sl 3 (f.map Qg)),q8 a,.ref 0 1 0 0,.d (.fn q1F q1C)] [(0,.dat 1 [[qg g]])] 1 (q8 r.1) [(0,.dat 1 [[qg r.2]])] 1:=by
 unfold q50 at b;refine Kb Tryz.func189 J qh qh J<|qc<|qa J<|qw<|O J<|O J<|U _ J<|O J<|O J<|U _ J<|O J<|O J<|q7 b fun h l b=>K8 [(0,0)] [(0,0)] _ (q8 h.1) 1 [(0,.dat 1 [[qg h.2]])] 1 (qnv c q1F q1C q1Ok f (w64 (a - 1)) a (w64 (a + 1)) g h l)<|qa J<|Q2 ?_;obtain rfl:=qt b;exact ⟨.inr J,_,J,wkA [] [] []⟩
theorem q10h (h : List qq) (g : Int) (k : Int) (j : qq→qq→Option Int) (p3F : FuncId) (p3C : List DV) (p3Ok : ∀ (q : qq) (s : qq) (r : Int),j q s = some r→Pure Tryz.prog tab p3F ([.agg (Qg q),.agg (Qg s)] ++ p3C) (qg r)) (r : Int × Int) (a : qaq h g k j = some r) : Pure Tryz.prog tab 174 [.sl 3 (h.map Qg),qg g,qg k,.fn p3F p3C] (.tup [qg r.1,qg r.2]):=by
 unfold qaq at a;refine K2 Tryz.func174 J qh qh J<|qc<|qa J<|qa J<|qw<|O J<|O J<|U _ J<|qa J<|qw<|K9 J J<|qw<|O J<|O J<|U _ J<|U _ J<|U _ J<|qa J<|qw<|O J<|O J<|U _ J<|U _ J<|U _ J<|qa J<|qw<|O J<|O J<|U _ J<|U _ J<|U _ J<|qa J<|q9<|qf<|qc<|O J<|U _ J<|q9<|q7 a fun t f a=>?_;refine Y2 (fun l=>l = t) (fun l=>⟨[(11,.ref 0 1 0 0),(13,q8 l.1)],[(0,.dat 1 [[qg l.2]])],1⟩) qe ?_ ?_
 ·refine qn J f (fun _ f=>?_) (fun _ f=>?_)
  ·refine qf<|qc<|O J<|U _ J<|q9<|q7 f fun u b f=>?_;refine Y2 (fun c=>c = u) (fun c=>⟨[(0,.d (.sl 3 (h.map Qg))),(3,.d (.fn p3F p3C)),(11,.ref 0 1 0 0),(12,q8 c.1),(13,q8 c.2.1),(14,q8 c.2.2.1)],[(0,.dat 1 [[qg c.2.2.2]])],1⟩) qe ?_ ?_
   ·refine qn J b (fun _ b=>?_) (fun _ b=>?_)
    ·refine qc<|O J<|O J<|O J<|q7 b fun m v b=>K8 [(0,0)] [(0,0)] _ (q8 m.1) 1 [(0,.dat 1 [[qg m.2]])] 1 (qh6 j p3F p3C p3Ok h (w64 (g + (w64 ((w64 (Int.tdiv (w64 (k - g)) 4)) * 1)))) 0 m v)<|qa J<|qw<|O J<|O J<|O J<|q7 b fun n w b=>K8 [(0,0)] [(0,0)] _ (q8 n.1) 1 [(0,.dat 1 [[qg n.2]])] 1 (qh6 j p3F p3C p3Ok h (w64 (g + (w64 ((w64 (Int.tdiv (w64 (k - g)) 4)) * 2)))) m.2 n w)<|qa J<|q9<|Q0<|O J<|O J<|O J<|q7 b fun o x b=>K8 [(0,0)] [(0,0)] _ (q8 o.1) 1 [(0,.dat 1 [[qg o.2]])] 1 (qh6 j p3F p3C p3Ok h (w64 (g + (w64 ((w64 (Int.tdiv (w64 (k - g)) 4)) * 3)))) n.2 o x)<|qa J<|qv ?_;obtain rfl:=qt b;exact ⟨_,J,wkA [(0,0)] [] []⟩
    refine qo<|Qj ?_;obtain rfl:=qt b;exact ⟨_,J,wkA [(0,0)] [] []⟩
   intro c hb;subst hb;refine Q0<|O J<|O J<|O J<|O J<|O J<|q7 f fun p y f=>K8 [(0,0)] [(0,0)] _ (q8 p.1) 1 [(0,.dat 1 [[qg p.2]])] 1 (qnv j p3F p3C p3Ok h c.1 c.2.1 c.2.2.1 c.2.2.2 p y)<|qa J<|qv ?_;obtain rfl:=qt f;exact ⟨_,J,wkA [(0,0)] [] []⟩
  refine qo<|Qj ?_;obtain rfl:=qt f;exact ⟨_,J,wkA [(0,0)] [] []⟩
 intro l hb;subst hb;refine qc<|U _ J<|q9<|Q6<|qc<|U _ J<|qa J<|q9 ?_;refine qn J a (fun _ a=>?_) (fun _ a=>?_)
 ·refine qc<|O J<|qa J<|qa J<|Q2 ?_;cases a;exact Qo _ J
 refine qc<|U _ J<|qa J<|q9 ?_;refine qn J a (fun _ a=>?_) (fun _ a=>?_)
 ·refine qc<|O J<|qa J<|qa J<|Q2 ?_;cases a;exact Qo _ J
 refine qc<|O J<|qa J<|qa J<|Q2 ?_;cases a;exact Qo _ J
theorem q115 (g : qq→qq→Option Int) (q1F : FuncId) (q1C : List DV) (_q1Ok : ∀ (h : qq) (j : qq) (r : Int),g h j = some r→Pure Tryz.prog tab q1F ([.agg (Qg h),.agg (Qg j)] ++ q1C) (qg r)) (f : List qq) (k : Int) (l : Int) (r : List qq) (c : qbv g f k l = some r) : K4 Tryz.prog tab 175 [.hs 0 3 0 f.length,q8 k,q8 l,.d (.fn q1F q1C)] [(0,.dat 3 (f.map Qg))] 1 (.d (.tup [])) [(0,.dat 3 (r.map Qg))] 1:=by
 unfold qbv at c;refine Kb Tryz.func175 J qh qh J<|qc<|O J<|qa J<|qw<|O J<|U _ J<|qa J<|q9<|q7 c fun q s c=>Q6<|Qb (qbw) (fun b=>⟨[(0,.hs 0 3 0 b.2.2.length),(8,q8 b.1),(9,q8 b.2.1)],[(0,.dat 3 (b.2.2.map Qg))],1⟩) _ q s (wkA [] [] []) ?_;intro b v a;unfold qbw at a;refine qf<|qc<|O J<|O J<|U _ J<|q9 ?_;refine qn J a (fun _ a=>?_) (fun _ a=>?_)
 ·refine qo<|Q6<|qf<|Q8 [Qp 0,q0,Qp 0,q0,qu 0,q0,q0,q0,qu 0,q0,q0,q0,q0,q0,q0,q0] qh<|O J<|O J<|O J<|O J<|O J<|O J<|q7 a fun t m a=>qs m J J<|Q4 _ m J<|O J<|O J<|q7 a fun u n a=>qs n J J<|Q4 _ n J<|q7 a fun w o a=>qs o J J<|Qr t o J J J J J J J J (leb J) J<|q7 a fun x p a=>qs p qe J<|Qr u p J J J J J J J J (leb J) J<|qw<|O J<|U _ J<|qa J<|q9<|Q0<|O J<|U _ J<|qa J<|qv<|Qk<|Qj<|⟨_,ql a,wkE [] [] [] J ⟨⟨_,J,Qz qe J Q1 (ltd J)⟩,qi J,qi J,trivial⟩ ⟨Qf J J,trivial⟩⟩
 refine Q7 ?_;refine ⟨_,ql a,fun hm=>?_⟩;subst hm;obtain rfl:=qt c;exact ⟨.inl J,_,J,wkA [] [] []⟩
theorem q10q (o : qq→qq→Option Int) (q1F : FuncId) (q1C : List DV) (q1Ok : ∀ (x : qq) (y : qq) (r : Int),o x y = some r→Pure Tryz.prog tab q1F ([.agg (Qg x),.agg (Qg y)] ++ q1C) (qg r)) (w : List qq) (j : Int) (g : Int) (r : Bool × List qq) (p : q7n o w j g = some r) : K4 Tryz.prog tab 176 [.hs 0 3 0 w.length,q8 j,q8 g,.d (.fn q1F q1C)] [(0,.dat 3 (w.map Qg))] 1 (Q5 r.1) [(0,.dat 3 (r.2.map Qg))] 1:=by
 unfold q7n at p;refine Kb Tryz.func176 J qh qh J<|qc<|qa J<|qw<|O J<|U _ J<|qa J<|q9<|qf<|qc<|qa J<|q9<|q7 p fun z bk p=>?_;refine Qm (fun t=>.inl t = z) (fun t=>⟨[],[(0,.dat 3 (t.map Qg))],1⟩) qe ?_ ?_
 ·refine Qb (q7o g o j) (fun f=>⟨[(0,.hs 0 3 0 f.2.2.length),(1,q8 j),(2,q8 g),(3,.d (.fn q1F q1C)),(9,q8 f.1),(10,q8 f.2.1)],[(0,.dat 3 (f.2.2.map Qg))],1⟩) _ z bk (wkA [] [] []) ?_;intro f cm k;unfold q7o at k;refine qf<|qc<|O J<|U _ J<|q9 ?_;refine qn J k (fun _ k=>?_) (fun _ k=>?_)
  ·refine qo<|qf<|q7 k fun bl a k=>?_;refine Qm (fun q=>.inl q = bl) (fun q=>⟨[(0,.hs 0 3 0 q.2.length),(1,q8 j),(2,q8 g),(3,.d (.fn q1F q1C)),(9,q8 q.1),(10,q8 f.2.1)],[(0,.dat 3 (q.2.map Qg))],1⟩) qe ?_ ?_
   ·refine qf<|q7 a fun aa bm a=>?_;refine Qm (fun l=>l = aa) (fun l=>⟨[(0,.hs 0 3 0 f.2.2.length),(1,q8 j),(2,q8 g),(3,.d (.fn q1F q1C)),(9,q8 l),(10,q8 f.2.1)],[(0,.dat 3 (f.2.2.map Qg))],1⟩) qe ?_ ?_
    ·refine Qb (qb4 g f o) (fun ab=>⟨[(0,.hs 0 3 0 f.2.2.length),(1,q8 j),(2,q8 g),(3,.d (.fn q1F q1C)),(9,q8 ab),(10,q8 f.2.1)],[(0,.dat 3 (f.2.2.map Qg))],1⟩) _ aa bm (wkA [] [] []) ?_;intro ab cn m;unfold qb4 at m;refine qf<|qf<|Q8 [q0,q0,q0,q0,qu 0,q0,q0,q0,q0,qu 0,q0,q0,q0,q0,q0,q0,q0,q0] qh<|O J<|O J<|U _ J<|q7 m fun bn h m=>?_;refine Qh 15 (fun A st=>∃ ac ad ae af ag ah ai aj ak al am an ao ap,st = A [(36,Q5 bn),(35,ap),(34,ao),(33,an),(32,am),(31,al),(30,ak),(29,aj),(28,ai),(27,ah),(26,ag),(25,af),(24,ae),(23,ad),(22,ac)]) ?_ ?_
     ·refine Qi J J h (fun h=>?_) (fun h=>?_)
      ·refine O J<|O J<|O J<|q7 h fun bo aq h=>qs aq J J<|Q4 _ aq J<|O J<|O J<|U _ J<|q7 h fun bp ar h=>qs ar J J<|Q4 _ ar J<|q7 h fun bq br h=>Kt _ (q1Ok bo bp bq br) J J J (.inl J)<|U _ J<|U _ J<|U _ J<|q9 ?_;cases h;exact ⟨_,_,_,_,_,_,_,_,_,_,_,_,_,_,J⟩
      refine qb J<|qb J<|qb J<|qb J<|qb J<|qb J<|qb J<|qb J<|qb J<|qb J<|qb J<|qb J<|qb J<|U _ J<|q9 ?_;cases h;exact ⟨_,_,_,_,_,_,_,_,_,_,_,_,_,_,J⟩
     rintro _ ⟨ac,ad,ae,af,ag,ah,ai,aj,ak,al,am,an,ao,ap,rfl⟩;refine q9 ?_;refine qn J m (fun _ m=>?_) (fun _ m=>?_)
     ·refine qo<|Q6<|Q0<|O J<|U _ J<|qa J<|qv<|Qk<|Qj<|⟨_,ql m,wkA [] [] []⟩
     refine Q7 ?_;refine ⟨_,ql m,fun hm=>?_⟩;subst hm;exact ⟨_,J,wkA [] [] []⟩
    intro l hb;subst hb;refine qf<|qc<|O J<|O J<|U _ J<|q9 ?_;refine qn J a (fun _ a=>?_) (fun _ a=>?_)
    ·refine qc<|qa J<|Q2 ?_;obtain rfl:=qt a;refine ⟨_,ql k,fun hm=>?_⟩;subst hm;obtain rfl:=qt p;exact ⟨.inr J,_,J,wkA [] [] []⟩
    refine qo<|qf<|qc<|O J<|O J<|U _ J<|U _ J<|q9 ?_;refine qn J a (fun _ a=>?_) (fun _ a=>?_)
    ·refine qc<|qa J<|Q2 ?_;obtain rfl:=qt a;refine ⟨_,ql k,fun hm=>?_⟩;subst hm;obtain rfl:=qt p;exact ⟨.inr J,_,J,wkA [] [] []⟩
    refine qo<|qf<|Q8 [Qp 0,q0,Qp 0,q0,qu 0,q0,q0,q0,qu 0,q0,q0,q0,q0,q0,q0,q0,q0,q0] qh<|O J<|O J<|O J<|O J<|U _ J<|O J<|O J<|U _ J<|q7 a fun bs au a=>qs au J J<|Q4 _ au J<|O J<|O J<|q7 a fun bt av a=>qs av J J<|Q4 _ av J<|q7 a fun co aw a=>qs aw J J<|Qr bs aw J J J J J J J J (leb J) J<|q7 a fun cp ax a=>qs ax qe J<|Qr bt ax J J J J J J J J (leb J) J<|q9<|qf<|qc<|O J<|O J<|U _ J<|U _ J<|q9<|q7 a fun bu n a=>?_;refine Y2 (fun s=>s = bu) (fun s=>⟨[(0,.hs 0 3 0 s.length),(1,q8 j),(2,q8 g),(3,.d (.fn q1F q1C)),(9,q8 l),(10,q8 f.2.1)],[(0,.dat 3 (s.map Qg))],1⟩) qe ?_ ?_
    ·refine qn J n (fun _ n=>?_) (fun _ n=>?_)
     ·refine qc<|O J<|U _ J<|qa J<|q9<|q7 n fun bv bw n=>Q6<|Qb (qb5 o) (fun u=>⟨[(0,.hs 0 3 0 u.2.length),(1,q8 j),(2,q8 g),(3,.d (.fn q1F q1C)),(9,q8 l),(10,q8 f.2.1),(11,q8 u.1)],[(0,.dat 3 (u.2.map Qg))],1⟩) _ bv bw (wkE [] [] [] J ⟨⟨_,J,Qz qe J Q1 (ltd J)⟩,qi J,qi J,qi J,qi J,qi J,qi J,trivial⟩ ⟨Qf J J,trivial⟩) ?_;intro u cq b;unfold qb5 at b;refine qf<|qc<|O J<|U _ J<|q9 ?_;refine qn J b (fun _ b=>?_) (fun _ b=>?_)
      ·refine qo<|qf<|Q6<|qf<|qf<|Q8 [q0,q0,q0,qu 0,q0,q0,q0,q0,qu 0,q0,q0,q0,q0] qh<|O J<|O J<|O J<|q7 b fun bx ay b=>qs ay J J<|Q4 _ ay J<|O J<|O J<|U _ J<|q7 b fun bz az b=>qs az J J<|Q4 _ az J<|q7 b fun ca cb b=>Kt _ (q1Ok bx bz ca cb) J J J (.inl J)<|U _ J<|U _ J<|q9 ?_;refine qn J b (fun _ b=>?_) (fun _ b=>?_)
       ·refine Q7 ?_;refine ⟨_,ql b,fun hm=>?_⟩;subst hm;obtain rfl:=qt n;exact ⟨_,J,wkA [] [] []⟩
       refine qo<|Q8 [Qp 0,q0,Qp 0,q0,qu 0,q0,q0,q0,qu 0,q0,q0,q0,q0,q0,q0,q0,q0,q0] qh<|O J<|O J<|O J<|O J<|U _ J<|O J<|O J<|U _ J<|q7 b fun cc ba b=>qs ba J J<|Q4 _ ba J<|O J<|O J<|q7 b fun cd bb b=>qs bb J J<|Q4 _ bb J<|q7 b fun cr bc b=>qs bc J J<|Qr cc bc J J J J J J J J (leb J) J<|q7 b fun cs bd b=>qs bd qe J<|Qr cd bd J J J J J J J J (leb J) J<|qv<|Qk<|Q0<|O J<|U _ J<|qa J<|qv<|⟨_,ql b,wkE [] [] [] J ⟨⟨_,J,Qz qe J Q1 (ltd J)⟩,qi J,qi J,qi J,qi J,qi J,qi J,trivial⟩ ⟨Qf J J,trivial⟩⟩
      refine Q7 ?_;refine ⟨_,ql b,fun hm=>?_⟩;subst hm;obtain rfl:=qt n;exact ⟨_,J,wkA [] [] []⟩
     refine qo<|Qj ?_;obtain rfl:=qt n;exact ⟨_,J,wkE [] [] [] J ⟨⟨_,J,Qz qe J Q1 (ltd J)⟩,qi J,qi J,qi J,qi J,qi J,trivial⟩ ⟨Qf J J,trivial⟩⟩
    intro s hb;subst hb;refine qc<|O J<|O J<|U _ J<|U _ J<|q9 ?_;refine qn J a (fun _ a=>?_) (fun _ a=>?_)
    ·refine qc<|O J<|U _ J<|qa J<|q9<|q7 a fun ce cf a=>Q6<|Qb (qb6 g o l) (fun v=>⟨[(0,.hs 0 3 0 v.2.length),(1,q8 j),(2,q8 g),(3,.d (.fn q1F q1C)),(9,q8 l),(10,q8 f.2.1),(12,q8 v.1)],[(0,.dat 3 (v.2.map Qg))],1⟩) _ ce cf (wkA [] [] []) ?_;intro v ct c;unfold qb6 at c;refine qf<|qc<|O J<|O J<|U _ J<|q9 ?_;refine qn J c (fun _ c=>?_) (fun _ c=>?_)
     ·refine qo<|qf<|Q6<|qf<|qf<|Q8 [q0,q0,q0,qu 0,q0,q0,q0,q0,qu 0,q0,q0,q0,q0] qh<|O J<|O J<|O J<|q7 c fun cg be c=>qs be J J<|Q4 _ be J<|O J<|O J<|U _ J<|q7 c fun ch bf c=>qs bf J J<|Q4 _ bf J<|q7 c fun ci cj c=>Kt _ (q1Ok cg ch ci cj) J J J (.inl J)<|U _ J<|U _ J<|q9 ?_;refine qn J c (fun _ c=>?_) (fun _ c=>?_)
      ·refine Q7 ?_;refine ⟨_,ql c,fun hm=>?_⟩;subst hm;obtain rfl:=qt a;exact ⟨_,J,wkA [] [] []⟩
      refine qo<|Q8 [Qp 0,q0,Qp 0,q0,qu 0,q0,q0,q0,qu 0,q0,q0,q0,q0,q0,q0,q0,q0,q0] qh<|O J<|O J<|O J<|O J<|U _ J<|O J<|O J<|U _ J<|q7 c fun ck bg c=>qs bg J J<|Q4 _ bg J<|O J<|O J<|q7 c fun cl bh c=>qs bh J J<|Q4 _ bh J<|q7 c fun cu bi c=>qs bi J J<|Qr ck bi J J J J J J J J (leb J) J<|q7 c fun cv bj c=>qs bj qe J<|Qr cl bj J J J J J J J J (leb J) J<|qv<|Qk<|Q0<|O J<|U _ J<|qa J<|qv<|⟨_,ql c,wkE [] [] [] J ⟨⟨_,J,Qz qe J Q1 (ltd J)⟩,qi J,qi J,qi J,qi J,qi J,qi J,trivial⟩ ⟨Qf J J,trivial⟩⟩
     refine Q7 ?_;refine ⟨_,ql c,fun hm=>?_⟩;subst hm;obtain rfl:=qt a;exact ⟨_,J,wkA [] [] []⟩
    refine qo<|Qj ?_;obtain rfl:=qt a;exact ⟨_,J,wkA [] [] []⟩
   intro q hb;subst hb;refine Q0<|O J<|U _ J<|qa J<|qv<|⟨_,ql k,wkA [] [] []⟩
  refine Q7 ?_;refine ⟨_,ql k,fun hm=>?_⟩;subst hm;exact ⟨_,J,wkA [] [] []⟩
 intro t hb;subst hb;refine qc<|qa J<|Q2 ?_;obtain rfl:=qt p;exact ⟨.inr J,_,J,wkA [] [] []⟩
theorem q10v (m : qq→qq→Option Int) (q1F : FuncId) (q1C : List DV) (q1Ok : ∀ (q : qq) (s : qq) (r : Int),m q s = some r→Pure Tryz.prog tab q1F ([.agg (Qg q),.agg (Qg s)] ++ q1C) (qg r)) (p : List qq) (h : Int) (t : Int) (u : Int) (r : Int × List qq) (c : qbn m p h t u = some r) : K4 Tryz.prog tab 177 [.hs 0 3 0 p.length,q8 h,q8 t,q8 u,.d (.fn q1F q1C)] [(0,.dat 3 (p.map Qg))] 1 (q8 r.1) [(0,.dat 3 (r.2.map Qg))] 1:=by
 unfold qbn at c;refine Kb Tryz.func177 J qh qh J<|qc<|qa J<|q9<|qf<|Q8 [Qp 0,q0,Qp 0,q0,qu 0,q0,q0,q0,qu 0,q0,q0,q0,q0,q0,q0,q0] qh<|O J<|O J<|O J<|O J<|O J<|O J<|q7 c fun bn v c=>qs v J J<|Q4 _ v J<|O J<|O J<|q7 c fun bo w c=>qs w J J<|Q4 _ w J<|q7 c fun cf x c=>qs x J J<|Qr bn x J J J J J J J J (leb J) J<|q7 c fun cg y c=>qs y qe J<|Qr bo y J J J J J J J J (leb J) J<|qw<|O J<|U _ J<|O J<|U _ J<|qa J<|qa J<|q9<|qf<|q7 c fun z bp c=>?_;refine Qm (fun n=>n = z) (fun n=>⟨[(11,q8 n.1)],[(0,.dat 3 (n.2.map Qg))],1⟩) qe ?_ ?_
 ·refine Qb (qbo h m) (fun b=>⟨[(0,.hs 0 3 0 b.2.2.length),(1,q8 h),(4,.d (.fn q1F q1C)),(11,q8 b.1),(12,q8 b.2.1)],[(0,.dat 3 (b.2.2.map Qg))],1⟩) _ z bp (wkE [] [] [] J ⟨⟨_,J,Qz qe J Q1 (ltd J)⟩,qi J,qi J,qi J,qi J,trivial⟩ ⟨Qf J J,trivial⟩) ?_;intro b ch a;unfold qbo at a;refine Q6<|qf<|q7 a fun aa bq a=>?_;refine Qm (fun l=>l = aa) (fun l=>⟨[(0,.hs 0 3 0 b.2.2.length),(1,q8 h),(4,.d (.fn q1F q1C)),(11,q8 l),(12,q8 b.2.1)],[(0,.dat 3 (b.2.2.map Qg))],1⟩) qe ?_ ?_
  ·refine Qb (qbp b h m) (fun ab=>⟨[(0,.hs 0 3 0 b.2.2.length),(1,q8 h),(4,.d (.fn q1F q1C)),(11,q8 ab),(12,q8 b.2.1)],[(0,.dat 3 (b.2.2.map Qg))],1⟩) _ aa bq (wkA [] [] []) ?_;intro ab ci j;unfold qbp at j;refine qf<|qf<|Q8 [q0,q0,q0,q0,qu 0,q0,q0,q0,qu 0,q0,q0,q0,q0,q0,q0,q0,q0] qh<|O J<|O J<|U _ J<|q7 j fun br f j=>?_;refine Qh 14 (fun A st=>∃ ac ad ae af ag ah ai aj ak al am an ao,st = A [(47,Q5 br),(46,ao),(45,an),(44,am),(43,al),(42,ak),(41,aj),(40,ai),(39,ah),(38,ag),(37,af),(36,ae),(35,ad),(34,ac)]) ?_ ?_
   ·refine Qi J J f (fun f=>?_) (fun f=>?_)
    ·refine O J<|O J<|O J<|q7 f fun bs ap f=>qs ap J J<|Q4 _ ap J<|O J<|O J<|q7 f fun bt aq f=>qs aq J J<|Q4 _ aq J<|q7 f fun bu bv f=>Kt _ (q1Ok bs bt bu bv) J J J (.inl J)<|U _ J<|U _ J<|U _ J<|q9 ?_;cases f;exact ⟨_,_,_,_,_,_,_,_,_,_,_,_,_,J⟩
    refine qb J<|qb J<|qb J<|qb J<|qb J<|qb J<|qb J<|qb J<|qb J<|qb J<|qb J<|qb J<|U _ J<|q9 ?_;cases f;exact ⟨_,_,_,_,_,_,_,_,_,_,_,_,_,J⟩
   rintro _ ⟨ac,ad,ae,af,ag,ah,ai,aj,ak,al,am,an,ao,rfl⟩;refine q9 ?_;refine qn J j (fun _ j=>?_) (fun _ j=>?_)
   ·refine qo<|Q6<|Q0<|O J<|U _ J<|qa J<|qv<|Qk<|Qj<|⟨_,ql j,wkA [] [] []⟩
   refine Q7 ?_;refine ⟨_,ql j,fun hm=>?_⟩;subst hm;exact ⟨_,J,wkA [] [] []⟩
  intro l hb;subst hb;refine qf<|q7 a fun ar bw a=>?_;refine Qm (fun o=>o = ar) (fun o=>⟨[(0,.hs 0 3 0 b.2.2.length),(1,q8 h),(4,.d (.fn q1F q1C)),(11,q8 l),(12,q8 o)],[(0,.dat 3 (b.2.2.map Qg))],1⟩) qe ?_ ?_
  ·refine Qb (qbq l b h m) (fun au=>⟨[(0,.hs 0 3 0 b.2.2.length),(1,q8 h),(4,.d (.fn q1F q1C)),(11,q8 l),(12,q8 au)],[(0,.dat 3 (b.2.2.map Qg))],1⟩) _ ar bw (wkA [] [] []) ?_;intro au cj k;unfold qbq at k;refine qf<|qf<|Q8 [q0,q0,q0,qu 0,q0,q0,q0,qu 0,q0,q0,q0,q0,q0,q0,q0,q0] qh<|O J<|O J<|U _ J<|q7 k fun bx g k=>?_;refine Qh 13 (fun A st=>∃ av aw ax ay az ba bb bc bd be bf bg,st = A [(65,Q5 bx),(64,bg),(63,bf),(62,be),(61,bd),(60,bc),(59,bb),(58,ba),(57,az),(56,ay),(55,ax),(54,aw),(53,av)]) ?_ ?_
   ·refine Qi J J g (fun g=>?_) (fun g=>?_)
    ·refine O J<|O J<|O J<|q7 g fun bz bh g=>qs bh J J<|Q4 _ bh J<|O J<|O J<|q7 g fun ca bi g=>qs bi J J<|Q4 _ bi J<|q7 g fun cb cc g=>Kt _ (q1Ok bz ca cb cc) J J J (.inl J)<|U _ J<|U _ J<|q9 ?_;cases g;exact ⟨_,_,_,_,_,_,_,_,_,_,_,_,J⟩
    refine qb J<|qb J<|qb J<|qb J<|qb J<|qb J<|qb J<|qb J<|qb J<|qb J<|qb J<|U _ J<|q9 ?_;cases g;exact ⟨_,_,_,_,_,_,_,_,_,_,_,_,J⟩
   rintro _ ⟨av,aw,ax,ay,az,ba,bb,bc,bd,be,bf,bg,rfl⟩;refine q9 ?_;refine qn J k (fun _ k=>?_) (fun _ k=>?_)
   ·refine qo<|Q6<|Q0<|O J<|U _ J<|qa J<|qv<|Qk<|Qj<|⟨_,ql k,wkA [] [] []⟩
   refine Q7 ?_;refine ⟨_,ql k,fun hm=>?_⟩;subst hm;exact ⟨_,J,wkA [] [] []⟩
  intro o hb;subst hb;refine qf<|qc<|O J<|O J<|U _ J<|q9 ?_;refine qn J a (fun _ a=>?_) (fun _ a=>?_)
  ·refine Q7 ?_;refine ⟨_,ql a,fun hm=>?_⟩;subst hm;exact ⟨_,J,wkA [] [] []⟩
  refine qo<|qf<|Q8 [Qp 0,q0,Qp 0,q0,qu 0,q0,q0,q0,qu 0,q0,q0,q0,q0,q0,q0,q0] qh<|O J<|O J<|O J<|O J<|O J<|O J<|q7 a fun cd bj a=>qs bj J J<|Q4 _ bj J<|O J<|O J<|q7 a fun ce bk a=>qs bk J J<|Q4 _ bk J<|q7 a fun ck bl a=>qs bl J J<|Qr cd bl J J J J J J J J (leb J) J<|q7 a fun cl bm a=>qs bm qe J<|Qr ce bm J J J J J J J J (leb J) J<|qw<|O J<|U _ J<|qa J<|q9<|Q0<|O J<|U _ J<|qa J<|qv<|Qk<|Qj<|⟨_,ql a,wkE [] [] [] J ⟨⟨_,J,Qz qe J Q1 (ltd J)⟩,qi J,qi J,qi J,qi J,trivial⟩ ⟨Qf J J,trivial⟩⟩
 intro n hb;subst hb;refine qc<|O J<|qa J<|Q2 ?_;obtain rfl:=qt c;exact ⟨.inr J,_,J,wkA [] [] []⟩
theorem q10t (u : qq→qq→Option Int) (q1F : FuncId) (q1C : List DV) (q1Ok : ∀ (x0 : qq) (x1 : qq) (r : Int),u x0 x1 = some r→Pure Tryz.prog tab q1F ([.agg (Qg x0),.agg (Qg x1)] ++ q1C) (qg r)) (g : List qq) (b : Int) (y : Int) (h : Int) (r : Int × Bool × List qq) (a : qbb u g b y h = some r) : K4 Tryz.prog tab 178 [.hs 0 3 0 g.length,q8 b,q8 y,q8 h,.d (.fn q1F q1C)] [(0,.dat 3 (g.map Qg))] 1 (.d (.tup [qg r.1,.bool r.2.1])) [(0,.dat 3 (r.2.2.map Qg))] 1:=by
 unfold qbb at a;refine Kb Tryz.func178 J qh qh J<|qc<|qa J<|qa J<|q9<|qf<|Q8 [Qp 0,q0,Qp 0,q0,qu 0,q0,q0,q0,qu 0,q0,q0,q0,q0,q0,q0,q0] qh<|O J<|O J<|O J<|O J<|O J<|O J<|q7 a fun j ad a=>qs ad J J<|Q4 _ ad J<|O J<|O J<|q7 a fun k ae a=>qs ae J J<|Q4 _ ae J<|q7 a fun gb af a=>qs af J J<|Qr j af J J J J J J J J (leb J) J<|q7 a fun gc ag a=>qs ag qe J<|Qr k ag J J J J J J J J (leb J) J<|qw<|O J<|U _ J<|O J<|U _ J<|qa J<|qa J<|q9<|qf<|q7 a fun ah ds a=>?_;refine Qm (fun v=>v = ah) (fun v=>⟨[(0,.hs 0 3 0 ((g.set b.toNat j).set h.toNat k).length),(1,q8 b),(4,.d (.fn q1F q1C)),(12,q8 v),(13,.d (qg (w64 (y - 1))))],[(0,.dat 3 (((g.set b.toNat j).set h.toNat k).map Qg))],1⟩) qe ?_ ?_
 ·refine Qb (qbc y g b j h k u) (fun ai=>⟨[(0,.hs 0 3 0 ((g.set b.toNat j).set h.toNat k).length),(1,q8 b),(4,.d (.fn q1F q1C)),(12,q8 ai),(13,.d (qg (w64 (y - 1))))],[(0,.dat 3 (((g.set b.toNat j).set h.toNat k).map Qg))],1⟩) _ ah ds (wkE [] [] [] J ⟨⟨_,J,Qz qe J Q1 (ltd J)⟩,qi J,qi J,qi J,qi J,trivial⟩ ⟨Qf J J,trivial⟩) ?_;intro ai gd p;unfold qbc at p;refine qf<|qf<|Q8 [q0,q0,q0,qu 0,q0,q0,q0,qu 0,q0,q0,q0,q0,q0,q0,q0,q0] qh<|O J<|O J<|U _ J<|q7 p fun dt l p=>?_;refine Qh 13 (fun A st=>∃ aj ak al am an ao ap aq ar au av aw,st = A [(47,Q5 dt),(46,aw),(45,av),(44,au),(43,ar),(42,aq),(41,ap),(40,ao),(39,an),(38,am),(37,al),(36,ak),(35,aj)]) ?_ ?_
  ·refine Qi J J l (fun l=>?_) (fun l=>?_)
   ·refine O J<|O J<|O J<|q7 l fun du ax l=>qs ax J J<|Q4 _ ax J<|O J<|O J<|q7 l fun dv ay l=>qs ay J J<|Q4 _ ay J<|q7 l fun dw dx l=>Kt _ (q1Ok du dv dw dx) J J J (.inl J)<|U _ J<|U _ J<|q9 ?_;cases l;exact ⟨_,_,_,_,_,_,_,_,_,_,_,_,J⟩
   refine qb J<|qb J<|qb J<|qb J<|qb J<|qb J<|qb J<|qb J<|qb J<|qb J<|qb J<|U _ J<|q9 ?_;cases l;exact ⟨_,_,_,_,_,_,_,_,_,_,_,_,J⟩
  rintro _ ⟨aj,ak,al,am,an,ao,ap,aq,ar,au,av,aw,rfl⟩;refine q9 ?_;refine qn J p (fun _ p=>?_) (fun _ p=>?_)
  ·refine qo<|Q6<|Q0<|O J<|U _ J<|qa J<|qv<|Qk<|Qj<|⟨_,ql p,wkA [] [] []⟩
  refine Q7 ?_;refine ⟨_,ql p,fun hm=>?_⟩;subst hm;exact ⟨_,J,wkA [] [] []⟩
 intro v hb;subst hb;refine qf<|q7 a fun az dy a=>?_;refine Qm (fun z=>z = az) (fun z=>⟨[(0,.hs 0 3 0 ((g.set b.toNat j).set h.toNat k).length),(1,q8 b),(4,.d (.fn q1F q1C)),(12,q8 v),(13,q8 z)],[(0,.dat 3 (((g.set b.toNat j).set h.toNat k).map Qg))],1⟩) qe ?_ ?_
 ·refine Qb (qbd v g b j h k u) (fun ba=>⟨[(0,.hs 0 3 0 ((g.set b.toNat j).set h.toNat k).length),(1,q8 b),(4,.d (.fn q1F q1C)),(12,q8 v),(13,q8 ba)],[(0,.dat 3 (((g.set b.toNat j).set h.toNat k).map Qg))],1⟩) _ az dy (wkA [] [] []) ?_;intro ba ge q;unfold qbd at q;refine qf<|qf<|Q8 [q0,q0,q0,q0,qu 0,q0,q0,q0,qu 0,q0,q0,q0,q0,q0,q0,q0,q0] qh<|O J<|O J<|U _ J<|q7 q fun dz m q=>?_;refine Qh 14 (fun A st=>∃ bb bc bd be bf bg bh bi bj bk bl bm bn,st = A [(66,Q5 dz),(65,bn),(64,bm),(63,bl),(62,bk),(61,bj),(60,bi),(59,bh),(58,bg),(57,bf),(56,be),(55,bd),(54,bc),(53,bb)]) ?_ ?_
  ·refine Qi J J m (fun m=>?_) (fun m=>?_)
   ·refine O J<|O J<|O J<|q7 m fun fa bo m=>qs bo J J<|Q4 _ bo J<|O J<|O J<|q7 m fun fb bp m=>qs bp J J<|Q4 _ bp J<|q7 m fun fc fd m=>Kt _ (q1Ok fa fb fc fd) J J J (.inl J)<|U _ J<|U _ J<|U _ J<|q9 ?_;cases m;exact ⟨_,_,_,_,_,_,_,_,_,_,_,_,_,J⟩
   refine qb J<|qb J<|qb J<|qb J<|qb J<|qb J<|qb J<|qb J<|qb J<|qb J<|qb J<|qb J<|U _ J<|q9 ?_;cases m;exact ⟨_,_,_,_,_,_,_,_,_,_,_,_,_,J⟩
  rintro _ ⟨bb,bc,bd,be,bf,bg,bh,bi,bj,bk,bl,bm,bn,rfl⟩;refine q9 ?_;refine qn J q (fun _ q=>?_) (fun _ q=>?_)
  ·refine qo<|Q6<|Q0<|O J<|U _ J<|qa J<|qv<|Qk<|Qj<|⟨_,ql q,wkA [] [] []⟩
  refine Q7 ?_;refine ⟨_,ql q,fun hm=>?_⟩;subst hm;exact ⟨_,J,wkA [] [] []⟩
 intro z hb;subst hb;refine qf<|qc<|O J<|O J<|U _ J<|q9 ?_;refine qn J a (fun _ a=>?_) (fun _ a=>?_)
 ·refine qf<|Q8 [Qp 0,q0,Qp 0,q0,qu 0,q0,q0,q0,qu 0,q0,q0,q0,q0,q0,q0,q0] qh<|O J<|O J<|O J<|O J<|O J<|O J<|q7 a fun fe bq a=>qs bq J J<|Q4 _ bq J<|O J<|O J<|q7 a fun ff br a=>qs br J J<|Q4 _ br J<|q7 a fun gf bs a=>qs bs J J<|Qr fe bs J J J J J J J J (leb J) J<|q7 a fun gg bt a=>qs bt qe J<|Qr ff bt J J J J J J J J (leb J) J<|qw<|O J<|qa J<|qa J<|Q2 ?_;obtain rfl:=qt a;exact ⟨.inr J,_,J,wkA [] [] []⟩
 refine qo<|qf<|Q8 [Qp 0,q0,Qp 0,q0,qu 0,q0,q0,q0,qu 0,q0,q0,q0,q0,q0,q0,q0] qh<|O J<|O J<|O J<|O J<|O J<|O J<|q7 a fun fg bu a=>qs bu J J<|Q4 _ bu J<|O J<|O J<|q7 a fun fh bv a=>qs bv J J<|Q4 _ bv J<|q7 a fun gh bw a=>qs bw J J<|Qr fg bw J J J J J J J J (leb J) J<|q7 a fun gi bx a=>qs bx qe J<|Qr fh bx J J J J J J J J (leb J) J<|qw<|O J<|U _ J<|qa J<|qw<|O J<|U _ J<|qa J<|q9<|qf<|q7 a fun bz fi a=>?_;refine Qm (fun x=>x = bz) (fun x=>⟨[(0,.hs 0 3 0 x.2.length),(1,q8 b),(13,q8 x.1)],[(0,.dat 3 (x.2.map Qg))],1⟩) qe ?_ ?_
 ·refine Qb (qbe b u) (fun f=>⟨[(0,.hs 0 3 0 f.2.2.length),(1,q8 b),(4,.d (.fn q1F q1C)),(12,q8 f.1),(13,q8 f.2.1)],[(0,.dat 3 (f.2.2.map Qg))],1⟩) _ bz fi (wkE [] [] [] J ⟨⟨_,J,Qz qe J Q1 (ltd J)⟩,qi J,qi J,qi J,qi J,trivial⟩ ⟨Qf J J,trivial⟩) ?_;intro f gj c;unfold qbe at c;refine Q6<|qf<|q7 c fun ca fj c=>?_;refine Qm (fun w=>w = ca) (fun w=>⟨[(0,.hs 0 3 0 f.2.2.length),(1,q8 b),(4,.d (.fn q1F q1C)),(12,q8 w),(13,q8 f.2.1)],[(0,.dat 3 (f.2.2.map Qg))],1⟩) qe ?_ ?_
  ·refine Qb (qbf f b u) (fun cb=>⟨[(0,.hs 0 3 0 f.2.2.length),(1,q8 b),(4,.d (.fn q1F q1C)),(12,q8 cb),(13,q8 f.2.1)],[(0,.dat 3 (f.2.2.map Qg))],1⟩) _ ca fj (wkA [] [] []) ?_;intro cb gk s;unfold qbf at s;refine qf<|qf<|Q8 [q0,q0,q0,qu 0,q0,q0,q0,qu 0,q0,q0,q0,q0,q0,q0,q0,q0] qh<|O J<|O J<|U _ J<|q7 s fun fk n s=>?_;refine Qh 13 (fun A st=>∃ cc cd ce cf cg ch ci cj ck cl cm cn,st = A [(120,Q5 fk),(119,cn),(118,cm),(117,cl),(116,ck),(115,cj),(114,ci),(113,ch),(112,cg),(111,cf),(110,ce),(109,cd),(108,cc)]) ?_ ?_
   ·refine Qi J J n (fun n=>?_) (fun n=>?_)
    ·refine O J<|O J<|O J<|q7 n fun fl co n=>qs co J J<|Q4 _ co J<|O J<|O J<|q7 n fun fm cp n=>qs cp J J<|Q4 _ cp J<|q7 n fun fo fq n=>Kt _ (q1Ok fl fm fo fq) J J J (.inl J)<|U _ J<|U _ J<|q9 ?_;cases n;exact ⟨_,_,_,_,_,_,_,_,_,_,_,_,J⟩
    refine qb J<|qb J<|qb J<|qb J<|qb J<|qb J<|qb J<|qb J<|qb J<|qb J<|qb J<|U _ J<|q9 ?_;cases n;exact ⟨_,_,_,_,_,_,_,_,_,_,_,_,J⟩
   rintro _ ⟨cc,cd,ce,cf,cg,ch,ci,cj,ck,cl,cm,cn,rfl⟩;refine q9 ?_;refine qn J s (fun _ s=>?_) (fun _ s=>?_)
   ·refine qo<|Q6<|Q0<|O J<|U _ J<|qa J<|qv<|Qk<|Qj<|⟨_,ql s,wkA [] [] []⟩
   refine Q7 ?_;refine ⟨_,ql s,fun hm=>?_⟩;subst hm;exact ⟨_,J,wkA [] [] []⟩
  intro w hb;subst hb;refine qf<|q7 c fun cq fr c=>?_;refine Qm (fun aa=>aa = cq) (fun aa=>⟨[(0,.hs 0 3 0 f.2.2.length),(1,q8 b),(4,.d (.fn q1F q1C)),(12,q8 w),(13,q8 aa)],[(0,.dat 3 (f.2.2.map Qg))],1⟩) qe ?_ ?_
  ·refine Qb (qbg w f b u) (fun cr=>⟨[(0,.hs 0 3 0 f.2.2.length),(1,q8 b),(4,.d (.fn q1F q1C)),(12,q8 w),(13,q8 cr)],[(0,.dat 3 (f.2.2.map Qg))],1⟩) _ cq fr (wkA [] [] []) ?_;intro cr gl t;unfold qbg at t;refine qf<|qf<|Q8 [q0,q0,q0,q0,qu 0,q0,q0,q0,qu 0,q0,q0,q0,q0,q0,q0,q0,q0] qh<|O J<|O J<|U _ J<|q7 t fun fs o t=>?_;refine Qh 14 (fun A st=>∃ cs ct cu cv cw cx cy cz da dc dd de df,st = A [(139,Q5 fs),(138,df),(137,de),(136,dd),(135,dc),(134,da),(133,cz),(132,cy),(131,cx),(130,cw),(129,cv),(128,cu),(127,ct),(126,cs)]) ?_ ?_
   ·refine Qi J J o (fun o=>?_) (fun o=>?_)
    ·refine O J<|O J<|O J<|q7 o fun ft dg o=>qs dg J J<|Q4 _ dg J<|O J<|O J<|q7 o fun fu dh o=>qs dh J J<|Q4 _ dh J<|q7 o fun fv fw o=>Kt _ (q1Ok ft fu fv fw) J J J (.inl J)<|U _ J<|U _ J<|U _ J<|q9 ?_;cases o;exact ⟨_,_,_,_,_,_,_,_,_,_,_,_,_,J⟩
    refine qb J<|qb J<|qb J<|qb J<|qb J<|qb J<|qb J<|qb J<|qb J<|qb J<|qb J<|qb J<|U _ J<|q9 ?_;cases o;exact ⟨_,_,_,_,_,_,_,_,_,_,_,_,_,J⟩
   rintro _ ⟨cs,ct,cu,cv,cw,cx,cy,cz,da,dc,dd,de,df,rfl⟩;refine q9 ?_;refine qn J t (fun _ t=>?_) (fun _ t=>?_)
   ·refine qo<|Q6<|Q0<|O J<|U _ J<|qa J<|qv<|Qk<|Qj<|⟨_,ql t,wkA [] [] []⟩
   refine Q7 ?_;refine ⟨_,ql t,fun hm=>?_⟩;subst hm;exact ⟨_,J,wkA [] [] []⟩
  intro aa hb;subst hb;refine qf<|qc<|O J<|O J<|U _ J<|q9 ?_;refine qn J c (fun _ c=>?_) (fun _ c=>?_)
  ·refine Q7 ?_;refine ⟨_,ql c,fun hm=>?_⟩;subst hm;exact ⟨_,J,wkA [] [] []⟩
  refine qo<|qf<|Q8 [Qp 0,q0,Qp 0,q0,qu 0,q0,q0,q0,qu 0,q0,q0,q0,q0,q0,q0,q0] qh<|O J<|O J<|O J<|O J<|O J<|O J<|q7 c fun fx dj c=>qs dj J J<|Q4 _ dj J<|O J<|O J<|q7 c fun fy dk c=>qs dk J J<|Q4 _ dk J<|q7 c fun gm dl c=>qs dl J J<|Qr fx dl J J J J J J J J (leb J) J<|q7 c fun gn dm c=>qs dm qe J<|Qr fy dm J J J J J J J J (leb J) J<|qw<|O J<|U _ J<|qa J<|q9<|Q0<|O J<|U _ J<|qa J<|qv<|Qk<|Qj<|⟨_,ql c,wkE [] [] [] J ⟨⟨_,J,Qz qe J Q1 (ltd J)⟩,qi J,qi J,qi J,qi J,trivial⟩ ⟨Qf J J,trivial⟩⟩
 intro x hb;subst hb;refine qf<|Q8 [Qp 0,q0,Qp 0,q0,qu 0,q0,q0,q0,qu 0,q0,q0,q0,q0,q0,q0,q0] qh<|O J<|O J<|O J<|O J<|O J<|O J<|q7 a fun fz dn a=>qs dn J J<|Q4 _ dn J<|O J<|O J<|q7 a fun ga dp a=>qs dp J J<|Q4 _ dp J<|q7 a fun go dq a=>qs dq J J<|Qr fz dq J J J J J J J J (leb J) J<|q7 a fun gp dr a=>qs dr qe J<|Qr ga dr J J J J J J J J (leb J) J<|qw<|O J<|qa J<|qa J<|Q2 ?_;obtain rfl:=qt a;exact ⟨.inr J,_,J,wkA [] [] []⟩
theorem q10e (n : qq→qq→Option Int) (q1F : FuncId) (q1C : List DV) (_q1Ok : ∀ (o : qq) (p : qq) (r : Int),n o p = some r→Pure Tryz.prog tab q1F ([.agg (Qg o),.agg (Qg p)] ++ q1C) (qg r)) (m : List qq) (f : Int) (g : Int) (r : List qq) (b : qam n m f g = some r) : K4 Tryz.prog tab 173 [.hs 0 3 0 m.length,q8 f,q8 g,.d (.fn q1F q1C)] [(0,.dat 3 (m.map Qg))] 1 (.d (.tup [])) [(0,.dat 3 (r.map Qg))] 1:=by
 unfold qam at b;refine Kb Tryz.func173 J qh qh J<|qc<|O J<|O J<|U _ J<|qa J<|qw<|O J<|U _ J<|q9 ?_;refine qn J b (fun _ b=>?_) (fun _ b=>?_)
 ·refine qc<|O J<|U _ J<|K9 J J<|Qv 1 _ J<|qw<|O J<|q7 b fun j v b=>Q9 (qh9 (w64 (g - f)) j v) J<|qa J<|qw<|O J<|O J<|U _ J<|U _ J<|U _ J<|U _ J<|qa J<|q9<|q7 b fun w x b=>Q6<|Qb (qan f g j) (fun c=>⟨[(0,.hs 0 3 0 c.2.1.length),(1,q8 f),(8,.d (qg (w64 (g - f)))),(9,.ref 1 1 0 0),(10,.d (.int .u64 j)),(11,q8 c.1)],[(0,.dat 3 (c.2.1.map Qg)),(1,.dat 1 [[.int .u64 c.2.2]])],2⟩) _ w x (wkA [(1,1)] [] []) ?_;intro c ac a;unfold qan at a;refine qf<|qc<|O J<|O J<|O J<|U _ J<|U _ J<|U _ J<|U _ J<|U _ J<|q9 ?_;refine qn J a (fun _ a=>?_) (fun _ a=>?_)
  ·refine qo<|qf<|Q6<|qc<|q7 a fun k y a=>K8 [(0,1)] [(0,1),(1,0)] _ (.d (.int .u64 k)) 1 [(1,.dat 1 [[.int .u64 k]]),(0,.dat 3 (c.2.1.map Qg))] 2 (qhd c.2.2 k y)<|O J<|U _ J<|U _ J<|U _ J<|qa J<|q9<|qf<|qc<|O J<|O J<|U _ J<|q9<|q7 a fun z h a=>?_;refine Y2 (fun l=>l = z) (fun l=>⟨[(0,.hs 0 3 0 c.2.1.length),(1,q8 f),(8,.d (qg (w64 (g - f)))),(9,.ref 1 1 0 0),(10,.d (.int .u64 j)),(11,q8 c.1),(12,q8 l)],[(0,.dat 3 (c.2.1.map Qg)),(1,.dat 1 [[.int .u64 k]])],2⟩) qe ?_ ?_
   ·refine qn J h (fun _ h=>?_) (fun _ h=>?_)
    ·refine Q0<|O J<|O J<|U _ J<|qa J<|qv ?_;obtain rfl:=qt h;exact ⟨_,J,wkA [(1,1)] [] []⟩
    refine qo<|Qj ?_;obtain rfl:=qt h;exact ⟨_,J,wkA [(1,1)] [] []⟩
   intro l hb;subst hb;refine Q8 [Qp 0,q0,Qp 0,q0,qu 0,q0,q0,q0,qu 0,q0,q0,q0,q0,q0,q0,q0,q0,q0,q0,q0] qh<|O J<|O J<|O J<|O J<|O J<|U _ J<|O J<|O J<|O J<|U _ J<|q7 a fun aa q a=>qs q J J<|Q4 _ q J<|O J<|O J<|q7 a fun ab s a=>qs s J J<|Q4 _ s J<|q7 a fun ad t a=>qs t J J<|Qr aa t J J J J J J J J (leb J) J<|q7 a fun ae u a=>qs u qe J<|Qr ab u J J J J J J J J (leb J) J<|qv<|Qk<|Q0<|O J<|U _ J<|qa J<|qv<|⟨_,ql a,wkE [(1,1)] [] [] J ⟨⟨_,J,Qz qe J Q1 (ltd J)⟩,qi J,qi J,⟨_,J,.ref J Q1 (ltd J)⟩,qi J,qi J,trivial⟩ ⟨Qf J J,Qf J J,trivial⟩⟩
  refine Q7 ?_;refine ⟨_,ql a,fun hm=>?_⟩;subst hm;obtain rfl:=qt b;exact ⟨.inl J,_,J,wkA [] [] []⟩
 refine qo<|Qj ?_;obtain rfl:=qt b;exact ⟨.inl J,_,J,wkA [] [] []⟩
end Go.Proofs.YtmekakoiicomaaaGreat
