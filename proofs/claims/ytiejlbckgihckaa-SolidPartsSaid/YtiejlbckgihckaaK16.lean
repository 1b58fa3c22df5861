/- W_All -/
import Derived.Test.YtiejlbckgihckaaK15
namespace Go.Proofs.Ytiejlbckgihckaa
open Go Go.Am Go.Sh
set_option maxHeartbeats 8000000
set_option maxRecDepth 100000
theorem qd9 (g : List Int) (r : List Int) (n : J9 g = some r) : Pure Try.prog tab 34 [.sl 1 (g.map (eI .i64))] (.sl 1 (r.map (eI .i64))):=by
 unfold J9 at n;refine Qy Try.func34 J qg qg J<|qd<|qa J<|qy<|qa J<|q9<|qe<|qd<|qa J<|q9<|q7 n fun s bb n=>?_;refine Qf (fun l=>l = s) (fun l=>⟨[(3,.hs 0 1 0 l.length)],[(0,.dat 1 (l.map (eI .i64)))],1⟩) qb ?_ ?_
 ·refine Qb (q30 g) (fun b=>⟨[(0,.d (.sl 1 (g.map (eI .i64)))),(3,.hs 0 1 0 b.2.length),(4,q8 b.1)],[(0,.dat 1 (b.2.map (eI .i64)))],1⟩) _ s bb (wkA [] [] [0]) ?_;intro b bk h;unfold q30 at h;refine qe<|qd<|O J<|O J<|Qq J<|U _ J<|q9 ?_;refine qo J h (fun _ h=>?_) (fun _ h=>?_)
  ·refine qq<|qe<|q7 h fun bc a h=>?_;refine Qf (fun m=>m = bc) (fun m=>⟨[(0,.d (.sl 1 (g.map (eI .i64)))),(3,.hs 0 1 0 m.length),(4,q8 b.1)],[(0,.dat 1 (m.map (eI .i64)))],1⟩) qb ?_ ?_
   ·refine qd<|O J<|U _ J<|qa J<|q9<|qe<|q7 a fun t bd a=>?_;refine Qf (fun o=>o = t) (fun o=>⟨[(0,.d (.sl 1 (g.map (eI .i64)))),(3,.hs 0 1 0 b.2.length),(4,q8 b.1),(5,q8 o)],[(0,.dat 1 (b.2.map (eI .i64)))],1⟩) qb ?_ ?_
    ·refine Qb (q31 b g) (fun u=>⟨[(0,.d (.sl 1 (g.map (eI .i64)))),(3,.hs 0 1 0 b.2.length),(4,q8 b.1),(5,q8 u)],[(0,.dat 1 (b.2.map (eI .i64)))],1⟩) _ t bd (wkA [(0,0)] [] []) ?_;intro u bl j;unfold q31 at j;refine qe<|qe<|Qa [q0,q0,q0,q0,q0,q0,qt 0,q0,q0,q0,q0,q0,q0,q0] qg<|O J<|U _ J<|q7 j fun be c j=>?_;refine Qi 12 (fun A st=>∃ v x y z aa ab ac ad ae af ag,st = A [(27,Q3 be),(26,ag),(25,af),(24,ae),(23,ad),(22,ac),(21,ab),(20,aa),(19,z),(18,y),(17,x),(16,v)]) ?_ ?_
     ·refine Qj J J c (fun c=>?_) (fun c=>?_)
      ·refine O J<|O J<|U _ J<|q7 c fun bm ah c=>qr ah J J<|Q2 _ ah J<|O J<|O J<|q7 c fun bn bf c=>Qd bf J<|U _ J<|U _ J<|U _ J<|q9 ?_;cases c;exact ⟨_,_,_,_,_,_,_,_,_,_,_,J⟩
      refine qc J<|qc J<|qc J<|qc J<|qc J<|qc J<|qc J<|qc J<|qc J<|qc J<|U _ J<|q9 ?_;cases c;exact ⟨_,_,_,_,_,_,_,_,_,_,_,J⟩
     rintro _ ⟨v,x,y,z,aa,ab,ac,ad,ae,af,ag,rfl⟩;refine q9 ?_;refine qo J j (fun _ j=>?_) (fun _ j=>?_)
     ·refine qq<|Q4<|qx<|O J<|U _ J<|qa J<|qu<|Qm<|Qg<|⟨_,qn j,wkA [(0,0)] [] []⟩
     refine Q8 ?_;refine ⟨_,qn j,fun hm=>?_⟩;subst hm;exact ⟨_,J,wkA [(0,0)] [] []⟩
    intro o hb;subst hb;refine qe<|qe<|Qa [q0,q0,q0,q0,q0,q0,qt 0,q0,q0,q0,q0,q0,q0,q0] qg<|O J<|U _ J<|q7 a fun bg f a=>?_;refine Qi 12 (fun A st=>∃ ai aj ak al am an ao ap aq ar au,st = A [(43,Q3 bg),(42,au),(41,ar),(40,aq),(39,ap),(38,ao),(37,an),(36,am),(35,al),(34,ak),(33,aj),(32,ai)]) ?_ ?_
    ·refine Qj J J f (fun f=>?_) (fun f=>?_)
     ·refine O J<|O J<|U _ J<|q7 f fun bo av f=>qr av J J<|Q2 _ av J<|O J<|O J<|q7 f fun bp bh f=>Qd bh J<|U _ J<|U _ J<|U _ J<|q9 ?_;cases f;exact ⟨_,_,_,_,_,_,_,_,_,_,_,J⟩
     refine qc J<|qc J<|qc J<|qc J<|qc J<|qc J<|qc J<|qc J<|qc J<|qc J<|U _ J<|q9 ?_;cases f;exact ⟨_,_,_,_,_,_,_,_,_,_,_,J⟩
    rintro _ ⟨ai,aj,ak,al,am,an,ao,ap,aq,ar,au,rfl⟩;refine q9 ?_;refine qo J a (fun _ a=>?_) (fun _ a=>?_)
    ·refine Q8 ?_;cases a;exact ⟨_,J,wkA [(0,0)] [] []⟩
    refine qq<|qd<|O J<|K3 _ _ J<|q7 a fun p bi a=>Y3 _ bi J J J J J J J (Kx J J) J J J J<|qa J<|q9<|qe<|Qa [Qo 2,q0,q0,q0,q0,q0,q0,q0] qg<|O J<|O J<|U _ J<|q7 a fun aw q a=>q71 q J J J J J (q6g J) (fun _=>rfl)<|O J<|O J<|q7 a fun k ax a=>q71 ax J J J J J (q6g J) (fun _=>rfl)<|qoo (w:=aw) (xs:=p) (ys:=(p.drop k.1).take k.2) (enc:=(eI .i64)) (.hs 2 1 k.1 k.2) (q8x q) J J J J J J (qm6 (q8x ax) J) J J J J ?_;have ay:=@qfg _ p ((p.drop k.1).take k.2) aw (q8x q);refine q9<|qx<|O J<|O J<|O J<|O J<|q7 a fun az bj a=>Qd bj J<|U _ J<|q7 a fun bq ba a=>qr ba (by simp [ay]) J<|Qt (ds:=[qk az]) az ba J J J J J J J J (leb J) J<|qu ?_;cases a;exact ⟨_,J,wkE [(0,2)] [] [] J ⟨qi J,⟨_,J,Qx (by simp [ay]) J Q0 (ltd J)⟩,qi J,trivial⟩ ⟨Qn J J,trivial⟩⟩
   intro m hb;subst hb;refine qx<|O J<|U _ J<|qa J<|qu<|⟨_,qn h,wkA [(0,0)] [] []⟩
  refine Q8 ?_;refine ⟨_,qn h,fun hm=>?_⟩;subst hm;exact ⟨_,J,wkA [(0,0)] [] []⟩
 intro l hb;subst hb;refine qd<|O J<|qa J<|qz ?_;cases n;exact finD (.inr J) J (Jc J J) (.refl _)
theorem qqs (j : List qf) (g : List qf) (r : List Int) (c : q7c j g = some r) : Pure Try.prog tab 23 [.sl 6 (j.map Q5),.sl 6 (g.map Q5)] (.sl 1 (r.map (eI .i64))):=by
 unfold q7c at c;refine Qy Try.func23 J qg qg J<|qd<|qa J<|qy<|qa J<|q9<|qe<|qd<|qa J<|q9<|q7 c fun m o c=>?_;refine Qf (fun h=>h = m) (fun h=>⟨[(1,.d (.sl 6 (g.map Q5))),(5,.hs 0 1 0 h.length)],[(0,.dat 1 (h.map (eI .i64)))],1⟩) qb ?_ ?_
 ·refine Qb (q38 j) (fun k=>⟨[(0,.d (.sl 6 (j.map Q5))),(1,.d (.sl 6 (g.map Q5))),(5,.hs 0 1 0 k.2.length),(6,q8 k.1)],[(0,.dat 1 (k.2.map (eI .i64)))],1⟩) _ m o (wkA [] [] [0]) ?_;intro k z a;unfold q38 at a;refine qe<|qd<|O J<|O J<|Qq J<|U _ J<|q9 ?_;refine qo J a (fun _ a=>?_) (fun _ a=>?_)
  ·refine qq<|qe<|Q4<|Qa [q0,(some [0,1],[0,2]),(some [],[1]),q0,q0,q0,q0,q0,q0,q0,q0,q0,q0,q0,q0,q0] qg<|O J<|O J<|O J<|q7 a fun aa p a=>Qd p J<|U _ J<|U _ J<|U _ J<|O J<|O J<|q7 a fun ab q a=>Qd q J<|U _ J<|U _ J<|U _ J<|K3 _ _ J<|q7 a fun ac s a=>Y3 _ s J J J J J J J (Kx J J) J J J J<|qa J<|qu<|Qm<|qx<|O J<|U _ J<|qa J<|qu<|⟨_,qn a,wkA [(0,2)] [] []⟩
  refine Q8 ?_;refine ⟨_,qn a,fun hm=>?_⟩;subst hm;exact ⟨_,J,wkA [(0,0)] [] []⟩
 intro h hb;subst hb;refine qe<|qd<|qa J<|q9<|q7 c fun n t c=>?_;refine Qf (fun f=>f = n) (fun f=>⟨[(5,.hs 0 1 0 f.length)],[(0,.dat 1 (f.map (eI .i64)))],1⟩) qb ?_ ?_
 ·refine Qb (q39 g) (fun l=>⟨[(1,.d (.sl 6 (g.map Q5))),(5,.hs 0 1 0 l.2.length),(7,q8 l.1)],[(0,.dat 1 (l.2.map (eI .i64)))],1⟩) _ n t (wkA [(0,0)] [] []) ?_;intro l ad b;unfold q39 at b;refine qe<|qd<|O J<|O J<|Qq J<|U _ J<|q9 ?_;refine qo J b (fun _ b=>?_) (fun _ b=>?_)
  ·refine qq<|qe<|Q4<|Qa [q0,(some [0,1],[0,2]),(some [],[1]),q0,q0,q0,q0,q0,q0,q0,q0,q0,q0,q0,q0,q0] qg<|O J<|O J<|O J<|q7 b fun ae u b=>Qd u J<|U _ J<|U _ J<|U _ J<|O J<|O J<|q7 b fun af v b=>Qd v J<|U _ J<|U _ J<|U _ J<|K3 _ _ J<|q7 b fun ag w b=>Y3 _ w J J J J J J J (Kx J J) J J J J<|qa J<|qu<|Qm<|qx<|O J<|U _ J<|qa J<|qu<|⟨_,qn b,wkA [(0,2)] [] []⟩
  refine Q8 ?_;refine ⟨_,qn b,fun hm=>?_⟩;subst hm;exact ⟨_,J,wkA [(0,0)] [] []⟩
 intro f hb;subst hb;refine qe ?_;refine Yz (st':=⟨[(5,.d (.sl 1 (f.map (eI .i64))))],[],0⟩) (wkA [] [0] []) ?_ qb;refine qx<|O J<|q7 c fun x y c=>Qk (qd9 f x y) J<|qa J<|qz ?_;cases c;exact Qh _ J
theorem qa8 (f : List qf) (g : Int) (r : List ql) (l : Ja f g = some r) : Pure Try.prog tab 25 [.sl 6 (f.map Q5),qk g] (.sl 4 (r.map Q7)):=by
 unfold Ja at l;refine Qy Try.func25 J qg qg J<|qd<|qa J<|qy<|qa J<|q9<|qe<|qd<|qa J<|q9<|q7 l fun m x l=>?_;refine Qf (fun h=>h = m) (fun h=>⟨[(5,.hs 0 4 0 h.length)],[(0,.dat 4 (h.map Q7))],1⟩) qb ?_ ?_
 ·refine Qb (q4v f g) (fun j=>⟨[(0,.d (.sl 6 (f.map Q5))),(1,q8 g),(5,.hs 0 4 0 j.2.length),(6,q8 j.1)],[(0,.dat 4 (j.2.map Q7))],1⟩) _ m x (wkA [] [] [0]) ?_;intro j ah b;unfold q4v at b;refine qe<|qd<|O J<|O J<|Qq J<|U _ J<|q9 ?_;refine qo J b (fun _ b=>?_) (fun _ b=>?_)
  ·refine qq<|qe<|q7 b fun y a b=>?_;refine Qf (fun k=>k = y) (fun k=>⟨[(0,.d (.sl 6 (f.map Q5))),(1,q8 g),(5,.hs 0 4 0 k.length),(6,q8 j.1)],[(0,.dat 4 (k.map Q7))],1⟩) qb ?_ ?_
   ·refine qd<|O J<|O J<|q7 a fun ai z a=>Qd z J<|U _ J<|U _ J<|U _ J<|O J<|U _ J<|q7 a fun aa c a=>?_;refine Qi 10 (fun A st=>∃ n o p q s t u v w,st = A [(30,Q3 aa),(29,w),(28,v),(27,u),(26,t),(25,s),(24,q),(23,p),(22,o),(21,n)]) ?_ ?_
    ·refine Qj J J c (fun c=>?_) (fun c=>?_)
     ·refine O J<|O J<|O J<|q7 c fun aj ab c=>Qd ab J<|U _ J<|U _ J<|U _ J<|U _ J<|U _ J<|q9 ?_;cases c;exact ⟨_,_,_,_,_,_,_,_,_,J⟩
     refine qc J<|qc J<|qc J<|qc J<|qc J<|qc J<|qc J<|qc J<|U _ J<|q9 ?_;cases c;exact ⟨_,_,_,_,_,_,_,_,_,J⟩
    rintro _ ⟨n,o,p,q,s,t,u,v,w,rfl⟩;refine q9 ?_;refine qo J a (fun _ a=>?_) (fun _ a=>?_)
    ·refine Qa [q0,(some [0,1],[0,2]),(some [],[1]),q0,q0,q0,q0,q0,q0,q0,q0,q0,q0,q0,q0,q0,q0,q0,q0,q0,q0,q0,q0,q0,q0,q0,q0,q0,q0] qg<|O J<|O J<|O J<|q7 a fun ak ac a=>Qd ac J<|U _ J<|U _ J<|U _ J<|O J<|O J<|q7 a fun al ad a=>Qd ad J<|U _ J<|U _ J<|U _ J<|O J<|O J<|q7 a fun am ae a=>Qd ae J<|U _ J<|U _ J<|U _ J<|O J<|O J<|q7 a fun an af a=>Qd af J<|U _ J<|U _ J<|U _ J<|U _ J<|K3 _ _ J<|q7 a fun ao ag a=>Y3 _ ag J J J J J J J (Kx J J) J J J J<|qa J<|qu ?_;cases a;exact ⟨_,J,wkA [(0,2)] [] []⟩
    refine qq<|Qg ?_;cases a;exact ⟨_,J,wkA [(0,0)] [] []⟩
   intro k hb;subst hb;refine qx<|O J<|U _ J<|qa J<|qu<|⟨_,qn b,wkA [(0,0)] [] []⟩
  refine Q8 ?_;refine ⟨_,qn b,fun hm=>?_⟩;subst hm;exact ⟨_,J,wkA [(0,0)] [] []⟩
 intro h hb;subst hb;refine qd<|O J<|qa J<|qz ?_;cases l;exact finD (.inr J) J (Jc J J) (.refl _)
theorem qqk (j : List ql) (g : List ql) (r : List Int) (c : q79 j g = some r) : Pure Try.prog tab 35 [.sl 4 (j.map Q7),.sl 4 (g.map Q7)] (.sl 1 (r.map (eI .i64))):=by
 unfold q79 at c;refine Qy Try.func35 J qg qg J<|qd<|qa J<|qy<|qa J<|q9<|qe<|qd<|qa J<|q9<|q7 c fun m o c=>?_;refine Qf (fun h=>h = m) (fun h=>⟨[(1,.d (.sl 4 (g.map Q7))),(5,.hs 0 1 0 h.length)],[(0,.dat 1 (h.map (eI .i64)))],1⟩) qb ?_ ?_
 ·refine Qb (q34 j) (fun k=>⟨[(0,.d (.sl 4 (j.map Q7))),(1,.d (.sl 4 (g.map Q7))),(5,.hs 0 1 0 k.2.length),(6,q8 k.1)],[(0,.dat 1 (k.2.map (eI .i64)))],1⟩) _ m o (wkA [] [] [0]) ?_;intro k z a;unfold q34 at a;refine qe<|qd<|O J<|O J<|Qq J<|U _ J<|q9 ?_;refine qo J a (fun _ a=>?_) (fun _ a=>?_)
  ·refine qq<|qe<|Q4<|Qa [q0,(some [0,1],[0,2]),(some [],[1]),q0,q0,q0,q0,q0,q0,q0,q0,q0,q0,q0] qg<|O J<|O J<|O J<|q7 a fun aa p a=>Qd p J<|U _ J<|U _ J<|O J<|O J<|q7 a fun ab q a=>Qd q J<|U _ J<|U _ J<|K3 _ _ J<|q7 a fun ac s a=>Y3 _ s J J J J J J J (Kx J J) J J J J<|qa J<|qu<|Qm<|qx<|O J<|U _ J<|qa J<|qu<|⟨_,qn a,wkA [(0,2)] [] []⟩
  refine Q8 ?_;refine ⟨_,qn a,fun hm=>?_⟩;subst hm;exact ⟨_,J,wkA [(0,0)] [] []⟩
 intro h hb;subst hb;refine qe<|qd<|qa J<|q9<|q7 c fun n t c=>?_;refine Qf (fun f=>f = n) (fun f=>⟨[(5,.hs 0 1 0 f.length)],[(0,.dat 1 (f.map (eI .i64)))],1⟩) qb ?_ ?_
 ·refine Qb (q35 g) (fun l=>⟨[(1,.d (.sl 4 (g.map Q7))),(5,.hs 0 1 0 l.2.length),(7,q8 l.1)],[(0,.dat 1 (l.2.map (eI .i64)))],1⟩) _ n t (wkA [(0,0)] [] []) ?_;intro l ad b;unfold q35 at b;refine qe<|qd<|O J<|O J<|Qq J<|U _ J<|q9 ?_;refine qo J b (fun _ b=>?_) (fun _ b=>?_)
  ·refine qq<|qe<|Q4<|Qa [q0,(some [0,1],[0,2]),(some [],[1]),q0,q0,q0,q0,q0,q0,q0,q0,q0,q0,q0] qg<|O J<|O J<|O J<|q7 b fun ae u b=>Qd u J<|U _ J<|U _ J<|O J<|O J<|q7 b fun af v b=>Qd v J<|U _ J<|U _ J<|K3 _ _ J<|q7 b fun ag w b=>Y3 _ w J J J J J J J (Kx J J) J J J J<|qa J<|qu<|Qm<|qx<|O J<|U _ J<|qa J<|qu<|⟨_,qn b,wkA [(0,2)] [] []⟩
  refine Q8 ?_;refine ⟨_,qn b,fun hm=>?_⟩;subst hm;exact ⟨_,J,wkA [(0,0)] [] []⟩
 intro f hb;subst hb;refine qe ?_;refine Yz (st':=⟨[(5,.d (.sl 1 (f.map (eI .i64))))],[],0⟩) (wkA [] [0] []) ?_ qb;refine qx<|O J<|q7 c fun x y c=>Qk (qd9 f x y) J<|qa J<|qz ?_;cases c;exact Qh _ J
theorem qqm (j : List ql) (g : List ql) (r : List Int) (c : q7a j g = some r) : Pure Try.prog tab 36 [.sl 4 (j.map Q7),.sl 4 (g.map Q7)] (.sl 1 (r.map (eI .i64))):=by
 unfold q7a at c;refine Qy Try.func36 J qg qg J<|qd<|qa J<|qy<|qa J<|q9<|qe<|qd<|qa J<|q9<|q7 c fun m o c=>?_;refine Qf (fun h=>h = m) (fun h=>⟨[(1,.d (.sl 4 (g.map Q7))),(5,.hs 0 1 0 h.length)],[(0,.dat 1 (h.map (eI .i64)))],1⟩) qb ?_ ?_
 ·refine Qb (q36 j) (fun k=>⟨[(0,.d (.sl 4 (j.map Q7))),(1,.d (.sl 4 (g.map Q7))),(5,.hs 0 1 0 k.2.length),(6,q8 k.1)],[(0,.dat 1 (k.2.map (eI .i64)))],1⟩) _ m o (wkA [] [] [0]) ?_;intro k z a;unfold q36 at a;refine qe<|qd<|O J<|O J<|Qq J<|U _ J<|q9 ?_;refine qo J a (fun _ a=>?_) (fun _ a=>?_)
  ·refine qq<|qe<|Q4<|Qa [q0,(some [0,1],[0,2]),(some [],[1]),q0,q0,q0,q0,q0,q0,q0,q0,q0,q0,q0] qg<|O J<|O J<|O J<|q7 a fun aa p a=>Qd p J<|U _ J<|U _ J<|O J<|O J<|q7 a fun ab q a=>Qd q J<|U _ J<|U _ J<|K3 _ _ J<|q7 a fun ac s a=>Y3 _ s J J J J J J J (Kx J J) J J J J<|qa J<|qu<|Qm<|qx<|O J<|U _ J<|qa J<|qu<|⟨_,qn a,wkA [(0,2)] [] []⟩
  refine Q8 ?_;refine ⟨_,qn a,fun hm=>?_⟩;subst hm;exact ⟨_,J,wkA [(0,0)] [] []⟩
 intro h hb;subst hb;refine qe<|qd<|qa J<|q9<|q7 c fun n t c=>?_;refine Qf (fun f=>f = n) (fun f=>⟨[(5,.hs 0 1 0 f.length)],[(0,.dat 1 (f.map (eI .i64)))],1⟩) qb ?_ ?_
 ·refine Qb (q37 g) (fun l=>⟨[(1,.d (.sl 4 (g.map Q7))),(5,.hs 0 1 0 l.2.length),(7,q8 l.1)],[(0,.dat 1 (l.2.map (eI .i64)))],1⟩) _ n t (wkA [(0,0)] [] []) ?_;intro l ad b;unfold q37 at b;refine qe<|qd<|O J<|O J<|Qq J<|U _ J<|q9 ?_;refine qo J b (fun _ b=>?_) (fun _ b=>?_)
  ·refine qq<|qe<|Q4<|Qa [q0,(some [0,1],[0,2]),(some [],[1]),q0,q0,q0,q0,q0,q0,q0,q0,q0,q0,q0] qg<|O J<|O J<|O J<|q7 b fun ae u b=>Qd u J<|U _ J<|U _ J<|O J<|O J<|q7 b fun af v b=>Qd v J<|U _ J<|U _ J<|K3 _ _ J<|q7 b fun ag w b=>Y3 _ w J J J J J J J (Kx J J) J J J J<|qa J<|qu<|Qm<|qx<|O J<|U _ J<|qa J<|qu<|⟨_,qn b,wkA [(0,2)] [] []⟩
  refine Q8 ?_;refine ⟨_,qn b,fun hm=>?_⟩;subst hm;exact ⟨_,J,wkA [(0,0)] [] []⟩
 intro f hb;subst hb;refine qe ?_;refine Yz (st':=⟨[(5,.d (.sl 1 (f.map (eI .i64))))],[],0⟩) (wkA [] [0] []) ?_ qb;refine qx<|O J<|q7 c fun x y c=>Qk (qd9 f x y) J<|qa J<|qz ?_;cases c;exact Qh _ J
theorem qif (h : List ql) (j : Int) (k : Int) (r : Bool) (g : q4q h j k = some r) : Pure Try.prog tab 38 [.sl 4 (h.map Q7),qk j,qk k] (.bool r):=by
 unfold q4q at g;refine Qy Try.func38 J qg qg J<|qd<|qa J<|q9<|qe<|qd<|qa J<|q9<|q7 g fun m an g=>?_;refine Qf (fun l=>.inl l = m) (fun l=>⟨[],[],0⟩) qb ?_ ?_
 ·refine Qb (q1v h j k) (fun n=>⟨[(0,.d (.sl 4 (h.map Q7))),(1,q8 j),(2,q8 k),(7,q8 n)],[],0⟩) _ m an (wkA [] [] []) ?_;intro n ax a;unfold q1v at a;refine qe<|qd<|O J<|O J<|Qq J<|U _ J<|q9 ?_;refine qo J a (fun _ a=>?_) (fun _ a=>?_)
  ·refine qq<|qe<|Q4<|qd<|O J<|O J<|q7 a fun ay ao a=>Qd ao J<|U _ J<|U _ J<|O J<|U _ J<|q7 a fun ap b a=>?_;refine Qi 9 (fun A st=>∃ o p q s t u v w,st = A [(29,Q3 ap),(28,w),(27,v),(26,u),(25,t),(24,s),(23,q),(22,p),(21,o)]) ?_ ?_
   ·refine Qj J J b (fun b=>?_) (fun b=>?_)
    ·refine O J<|O J<|O J<|q7 b fun az aq b=>Qd aq J<|U _ J<|U _ J<|U _ J<|U _ J<|q9 ?_;cases b;exact ⟨_,_,_,_,_,_,_,_,J⟩
    refine qc J<|qc J<|qc J<|qc J<|qc J<|qc J<|qc J<|U _ J<|q9 ?_;cases b;exact ⟨_,_,_,_,_,_,_,_,J⟩
   rintro _ ⟨o,p,q,s,t,u,v,w,rfl⟩;refine q7 a fun ar c a=>?_;refine Qi 9 (fun A st=>∃ x y z aa ab ac ad ae,st = A [(38,Q3 ar),(37,ae),(36,ad),(35,ac),(34,ab),(33,aa),(32,z),(31,y),(30,x)]) ?_ ?_
   ·refine Qj J J c (fun c=>?_) (fun c=>?_)
    ·refine O J<|O J<|q7 c fun ba au c=>Qd au J<|U _ J<|U _ J<|O J<|U _ J<|U _ J<|q9 ?_;cases c;exact ⟨_,_,_,_,_,_,_,_,J⟩
    refine qc J<|qc J<|qc J<|qc J<|qc J<|qc J<|qc J<|U _ J<|q9 ?_;cases c;exact ⟨_,_,_,_,_,_,_,_,J⟩
   rintro _ ⟨x,y,z,aa,ab,ac,ad,ae,rfl⟩;refine q7 a fun av f a=>?_;refine Qi 9 (fun A st=>∃ af ag ah ai aj ak al am,st = A [(47,Q3 av),(46,am),(45,al),(44,ak),(43,aj),(42,ai),(41,ah),(40,ag),(39,af)]) ?_ ?_
   ·refine Qj J J f (fun f=>?_) (fun f=>?_)
    ·refine O J<|O J<|O J<|q7 f fun bb aw f=>Qd aw J<|U _ J<|U _ J<|U _ J<|U _ J<|q9 ?_;cases f;exact ⟨_,_,_,_,_,_,_,_,J⟩
    refine qc J<|qc J<|qc J<|qc J<|qc J<|qc J<|qc J<|U _ J<|q9 ?_;cases f;exact ⟨_,_,_,_,_,_,_,_,J⟩
   rintro _ ⟨af,ag,ah,ai,aj,ak,al,am,rfl⟩;refine q9 ?_;refine qo J a (fun _ a=>?_) (fun _ a=>?_)
   ·refine qd<|qa J<|qz ?_;refine ⟨_,qn a,fun hm=>?_⟩;subst hm;cases g;exact Qh _ J
   refine qq<|Qg<|Qm<|qx<|O J<|U _ J<|qa J<|qu<|⟨_,qn a,wkA [] [] []⟩
  refine Q8 ?_;refine ⟨_,qn a,fun hm=>?_⟩;subst hm;exact ⟨_,J,wkA [] [] []⟩
 intro l hb;subst hb;refine qd<|qa J<|qz ?_;cases g;exact Qh _ J
theorem qqe (f : Int) (g : Bool) (h : Bool) (r : Bool) (a : q4o f g h = some r) : Pure Try.prog tab 37 [qk f,.bool g,.bool h] (.bool r):=by
 unfold q4o at a;refine Qy Try.func37 J qg qg J<|qd<|qa J<|q9<|qe<|qd<|O J<|U _ J<|q9 ?_;refine qo J a (fun _ a=>?_) (fun _ a=>?_)
 ·refine qd<|O J<|q7 a fun q b a=>?_;refine Qi 3 (fun A st=>∃ j k,st = A [(12,Q3 q),(11,k),(10,j)]) ?_ ?_
  ·refine Qj J J b (fun b=>?_) (fun b=>?_)
   ·refine O J<|U _ J<|q9 ?_;cases b;exact ⟨_,_,J⟩
   refine qc J<|U _ J<|q9 ?_;cases b;exact ⟨_,_,J⟩
  rintro _ ⟨j,k,rfl⟩;refine qa J<|qz ?_;cases a;exact Qh _ J
 refine qq<|qe<|qd<|O J<|U _ J<|q9 ?_;refine qo J a (fun _ a=>?_) (fun _ a=>?_)
 ·refine qd<|O J<|q7 a fun s c a=>?_;refine Qi 3 (fun A st=>∃ l m,st = A [(18,Q3 s),(17,m),(16,l)]) ?_ ?_
  ·refine Qj J J c (fun c=>?_) (fun c=>?_)
   ·refine qc J<|U _ J<|q9 ?_;cases c;exact ⟨_,_,J⟩
   refine O J<|U _ J<|q9 ?_;cases c;exact ⟨_,_,J⟩
  rintro _ ⟨l,m,rfl⟩;refine qa J<|qz ?_;cases a;exact Qh _ J
 refine qq<|qd<|O J<|q7 a fun t d a=>?_;refine Qi 4 (fun A st=>∃ n o p,st = A [(23,Q3 t),(22,p),(21,o),(20,n)]) ?_ ?_
 ·refine Qj J J d (fun d=>?_) (fun d=>?_)
  ·refine O J<|U _ J<|U _ J<|q9 ?_;cases d;exact ⟨_,_,_,J⟩
  refine qc J<|qc J<|U _ J<|q9 ?_;cases d;exact ⟨_,_,_,J⟩
 rintro _ ⟨n,o,p,rfl⟩;refine qa J<|qz ?_;cases a;exact Qh _ J
theorem qqc (f : List Int) (g : List Bool) (r : List qm) (l : q2y f g = some r) : Pure Try.prog tab 39 [.sl 1 (f.map (eI .i64)),.sl 1 (g.map eB)] (.sl 2 (r.map Qu)):=by
 unfold q2y at l;refine Qy Try.func39 J qg qg J<|qd<|qa J<|qy<|qa J<|q9<|qe<|qd<|qa J<|q9<|q7 l fun m ad l=>?_;refine Qf (fun h=>h = m) (fun h=>⟨[(5,.hs 0 2 0 h.length)],[(0,.dat 2 (h.map Qu))],1⟩) qb ?_ ?_
 ·refine Qb (q2z f g) (fun j=>⟨[(0,.d (.sl 1 (f.map (eI .i64)))),(1,.d (.sl 1 (g.map eB))),(5,.hs 0 2 0 j.2.length),(6,q8 j.1)],[(0,.dat 2 (j.2.map Qu))],1⟩) _ m ad (wkA [] [] [0]) ?_;intro j an c;unfold q2z at c;refine qe<|qd<|O J<|U _ J<|O J<|Qq J<|U _ J<|q9 ?_;refine qo J c (fun _ c=>?_) (fun _ c=>?_)
  ·refine qq<|qe<|q7 c fun ae a c=>?_;refine Qf (fun k=>k = ae) (fun k=>⟨[(0,.d (.sl 1 (f.map (eI .i64)))),(1,.d (.sl 1 (g.map eB))),(5,.hs 0 2 0 k.length),(6,q8 j.1)],[(0,.dat 2 (k.map Qu))],1⟩) qb ?_ ?_
   ·refine qe<|qd<|O J<|O J<|q7 a fun ao af a=>Qd af J<|U _ J<|U _ J<|q9 ?_;refine qo J a (fun _ a=>?_) (fun _ a=>?_)
    ·refine Q8 ?_;cases a;exact ⟨_,J,wkA [(0,0)] [] []⟩
    refine qq<|qd<|O J<|U _ J<|qa J<|q9<|qe<|Qa [q0,q0,q0,q0,q0,q0,qt 0,q0,q0,q0,q0,q0,q0,q0,q0] qg<|O J<|U _ J<|q7 a fun ag b a=>?_;refine Qi 13 (fun A st=>∃ n o p q s t u v w x y z,st = A [(36,Q3 ag),(35,z),(34,y),(33,x),(32,w),(31,v),(30,u),(29,t),(28,s),(27,q),(26,p),(25,o),(24,n)]) ?_ ?_
    ·refine Qj J J b (fun b=>?_) (fun b=>?_)
     ·refine O J<|O J<|U _ J<|q7 b fun ap aa b=>qr aa J J<|U _ J<|Q2 _ aa J<|O J<|O J<|q7 b fun aq ah b=>Qd ah J<|U _ J<|U _ J<|U _ J<|q9 ?_;cases b;exact ⟨_,_,_,_,_,_,_,_,_,_,_,_,J⟩
     refine qc J<|qc J<|qc J<|qc J<|qc J<|qc J<|qc J<|qc J<|qc J<|qc J<|qc J<|U _ J<|q9 ?_;cases b;exact ⟨_,_,_,_,_,_,_,_,_,_,_,_,J⟩
    rintro _ ⟨n,o,p,q,s,t,u,v,w,x,y,z,rfl⟩;refine q9 ?_;refine qo J a (fun _ a=>?_) (fun _ a=>?_)
    ·refine qx<|O J<|O J<|U _ J<|O J<|O J<|U _ J<|q7 a fun ab ai a=>Qd ai J<|U _ J<|q7 a fun aj ac a=>qr ac J J<|U _ J<|Qt (ds:=[qk ab]) ({Lo:=aj.Lo,Hi:=ab} : qm) ac J J J J J J J J (leb J) J<|qu ?_;cases a;exact ⟨_,J,wkE [(0,0)] [] [] J ⟨qi J,qi J,⟨_,J,Qx qb J Q0 (ltd J)⟩,qi J,trivial⟩ ⟨Qn J J,trivial⟩⟩
    refine Qa [q0,(some [0,1],[0,2]),(some [],[1]),q0,q0,q0,q0,q0,q0,q0,q0,q0,q0,q0] qg<|O J<|O J<|O J<|q7 a fun ar ak a=>Qd ak J<|U _ J<|O J<|O J<|U _ J<|q7 a fun au al a=>Qd al J<|U _ J<|U _ J<|K3 _ _ J<|q7 a fun av am a=>Y3 _ am J J J J J J J (Kx J J) J J J J<|qa J<|qu ?_;cases a;exact ⟨_,J,wkA [(0,2)] [] []⟩
   intro k hb;subst hb;refine qx<|O J<|U _ J<|qa J<|qu<|⟨_,qn c,wkA [(0,0)] [] []⟩
  refine Q8 ?_;refine ⟨_,qn c,fun hm=>?_⟩;subst hm;exact ⟨_,J,wkA [(0,0)] [] []⟩
 intro h hb;subst hb;refine qd<|O J<|qa J<|qz ?_;cases l;exact finD (.inr J) J (Jc J J) (.refl _)
theorem qqf (c : List qm) (f : List qm) (r : Bool) (b : q4p c f = some r) : Pure Try.prog tab 40 [.sl 2 (c.map Qu),.sl 2 (f.map Qu)] (.bool r):=by
 unfold q4p at b;refine Qy Try.func40 J qg qg J<|qd<|qa J<|q9<|qe<|qd<|O J<|Qq J<|O J<|Qq J<|U _ J<|q9 ?_;refine qo J b (fun _ b=>?_) (fun _ b=>?_)
 ·refine qd<|qa J<|qz ?_;cases b;exact Qh _ J
 refine qq<|qe<|qd<|qa J<|q9<|q7 b fun h k b=>?_;refine Qf (fun g=>.inl g = h) (fun g=>⟨[],[],0⟩) qb ?_ ?_
 ·refine Qb (qa5 c f) (fun j=>⟨[(0,.d (.sl 2 (c.map Qu))),(1,.d (.sl 2 (f.map Qu))),(5,q8 j)],[],0⟩) _ h k (wkA [] [] []) ?_;intro j n a;unfold qa5 at a;refine qe<|qd<|O J<|O J<|Qq J<|U _ J<|q9 ?_;refine qo J a (fun _ a=>?_) (fun _ a=>?_)
  ·refine qq<|qe<|Q4<|qe<|Qa [q0,q0,q0,q0,q0,q0,q0,q0,q0] qg<|O J<|O J<|q7 a fun o l a=>Qd l J<|U _ J<|O J<|O J<|q7 a fun p m a=>Qd m J<|U _ J<|U _ J<|q9 ?_;refine qo J a (fun _ a=>?_) (fun _ a=>?_)
   ·refine qd<|qa J<|qz ?_;refine ⟨_,qn a,fun hm=>?_⟩;subst hm;cases b;exact Qh _ J
   refine qq<|Qg<|Qm<|qx<|O J<|U _ J<|qa J<|qu<|⟨_,qn a,wkA [] [] []⟩
  refine Q8 ?_;refine ⟨_,qn a,fun hm=>?_⟩;subst hm;exact ⟨_,J,wkA [] [] []⟩
 intro g hb;subst hb;refine qd<|qa J<|qz ?_;cases b;exact Qh _ J
theorem qda (j : Int) (f : List ql) (g : List ql) (r : List ql) (n : Zs j f g = some r) : Pure Try.prog tab 24 [qk j,.sl 4 (f.map Q7),.sl 4 (g.map Q7)] (.sl 4 (r.map Q7)):=by
 unfold Zs at n;refine Qy Try.func24 J qg qg J<|qd<|qa J<|qy<|O J<|O J<|q7 n fun k h2 n=>Qk (qqk f g k h2) J<|O J<|O J<|q7 n fun l h4 n=>Qk (qqm f g l h4) J<|qa J<|qa J<|qy<|qa J<|qy<|qa J<|qy<|qa J<|q9<|qe<|qd<|qa J<|q9<|q7 n fun aa an n=>?_;refine Qf (fun t=>t = aa) (fun t=>⟨[(9,.hs 0 4 0 t.length)],[(0,.dat 4 (t.map Q7))],1⟩) qb ?_ ?_
 ·refine Qb (q1w k l f g j) (fun a=>⟨[(0,q8 j),(1,.d (.sl 4 (f.map Q7))),(2,.d (.sl 4 (g.map Q7))),(7,.d (.sl 1 (k.map (eI .i64)))),(8,.d (.sl 1 (l.map (eI .i64)))),(9,.hs 0 4 0 a.2.2.2.length),(10,.d (.sl 2 (a.1.map Qu))),(11,q8 a.2.1),(12,q8 a.2.2.1)],[(0,.dat 4 (a.2.2.2.map Q7))],1⟩) _ aa an (wkA [] [] [0]) ?_;intro a bs o;unfold q1w at o;refine qe<|qd<|O J<|U _ J<|O J<|Qq J<|U _ J<|q9 ?_;refine qo J o (fun _ o=>?_) (fun _ o=>?_)
  ·refine qq<|qe<|q7 o fun ao h o=>?_;refine Qf (fun p=>p = ao) (fun p=>⟨[(0,q8 j),(1,.d (.sl 4 (f.map Q7))),(2,.d (.sl 4 (g.map Q7))),(7,.d (.sl 1 (k.map (eI .i64)))),(8,.d (.sl 1 (l.map (eI .i64)))),(9,.hs 0 4 0 p.2.2.length),(10,.d (.sl 2 (p.1.map Qu))),(11,q8 p.2.1),(12,q8 a.2.2.1)],[(0,.dat 4 (p.2.2.map Q7))],1⟩) qb ?_ ?_
   ·refine qd<|qa J<|q9<|qe<|qd<|qa J<|q9<|q7 h fun ab ap h=>?_;refine Qf (fun q=>q = ab) (fun q=>⟨[(0,q8 j),(1,.d (.sl 4 (f.map Q7))),(2,.d (.sl 4 (g.map Q7))),(7,.d (.sl 1 (k.map (eI .i64)))),(8,.d (.sl 1 (l.map (eI .i64)))),(9,.hs 0 4 0 a.2.2.2.length),(10,.d (.sl 2 (a.1.map Qu))),(11,q8 a.2.1),(12,q8 a.2.2.1),(13,.hs 1 1 0 q.length)],[(0,.dat 4 (a.2.2.2.map Q7)),(1,.dat 1 (q.map eB))],2⟩) qb ?_ ?_
    ·refine Qb (q32 l k a f g j) (fun w=>⟨[(0,q8 j),(1,.d (.sl 4 (f.map Q7))),(2,.d (.sl 4 (g.map Q7))),(7,.d (.sl 1 (k.map (eI .i64)))),(8,.d (.sl 1 (l.map (eI .i64)))),(9,.hs 0 4 0 a.2.2.2.length),(10,.d (.sl 2 (a.1.map Qu))),(11,q8 a.2.1),(12,q8 a.2.2.1),(13,.hs 1 1 0 w.2.length),(14,q8 w.1)],[(0,.dat 4 (a.2.2.2.map Q7)),(1,.dat 1 (w.2.map eB))],2⟩) _ ab ap (wkA [(0,0)] [] [1]) ?_;intro w bt b;unfold q32 at b;refine qe<|qd<|O J<|O J<|Qq J<|U _ J<|q9 ?_;refine qo J b (fun _ b=>?_) (fun _ b=>?_)
     ·refine qq<|qe<|Q4<|Qa [q0,(some [1,2],[1,3]),(some [],[2]),q0,q0,q0,q0,q0,q0,q0,q0,q0,q0,q0,q0,q0,q0,q0,q0,q0,q0,q0,q0,q0,q0,q0] qg<|O J<|O J<|O J<|O J<|O J<|q7 b fun aq ar b=>Qd ar J<|U _ J<|O J<|O J<|q7 b fun au av b=>Qd av J<|U _ J<|q7 b fun ac aw b=>Qk (qif f aq au ac aw) J<|O J<|O J<|O J<|q7 b fun ax ay b=>Qd ay J<|U _ J<|O J<|O J<|q7 b fun az ba b=>Qd ba J<|U _ J<|q7 b fun ad bb b=>Qk (qif g ax az ad bb) J<|q7 b fun bc bd b=>Qk (qqe j ac ad bc bd) J<|K3 _ _ J<|q7 b fun bu be b=>Y3 _ be J J J J J J J (Kx J J) J J J J<|qa J<|qu<|Qm ?_;refine qx<|O J<|U _ J<|qa J<|qu<|⟨_,qn b,wkA [(0,0),(1,3)] [] []⟩
     refine Q8 ?_;refine ⟨_,qn b,fun hm=>?_⟩;subst hm;exact ⟨_,J,wkA [(0,0),(1,1)] [] []⟩
    intro q hb;subst hb;refine qe ?_;refine Yz (st':=⟨[(0,q8 j),(1,.d (.sl 4 (f.map Q7))),(2,.d (.sl 4 (g.map Q7))),(7,.d (.sl 1 (k.map (eI .i64)))),(8,.d (.sl 1 (l.map (eI .i64)))),(9,.hs 0 4 0 a.2.2.2.length),(10,.d (.sl 2 (a.1.map Qu))),(11,q8 a.2.1),(12,q8 a.2.2.1),(13,.d (.sl 1 (q.map eB)))],[(0,.dat 4 (a.2.2.2.map Q7))],1⟩) (wkA [(0,0)] [1] []) ?_ qb;refine qx<|O J<|O J<|q7 h fun u bf h=>Qk (qqc l q u bf) J<|qa J<|q9<|qe<|qd<|O J<|U _ J<|q7 h fun bg s h=>?_;refine Qi 5 (fun A st=>∃ ae af ag ah,st = A [(71,Q3 bg),(70,ah),(69,ag),(68,af),(67,ae)]) ?_ ?_
    ·refine Qj J J s (fun s=>?_) (fun s=>?_)
     ·refine O J<|O J<|q7 s fun bh bi s=>Qk (qqf u a.1 bh bi) J<|U _ J<|q9 ?_;cases s;exact ⟨_,_,_,_,J⟩
     refine qc J<|qc J<|qc J<|U _ J<|q9 ?_;cases s;exact ⟨_,_,_,_,J⟩
    rintro _ ⟨ae,af,ag,ah,rfl⟩;refine q9 ?_;refine qo J h (fun _ h=>?_) (fun _ h=>?_)
    ·refine qe<|qd<|O J<|qa J<|q9<|q7 h fun ai bj h=>?_;refine Qf (fun v=>v = ai) (fun v=>⟨[(0,q8 j),(1,.d (.sl 4 (f.map Q7))),(2,.d (.sl 4 (g.map Q7))),(7,.d (.sl 1 (k.map (eI .i64)))),(8,.d (.sl 1 (l.map (eI .i64)))),(9,.hs 0 4 0 v.length),(10,.d (.sl 2 (a.1.map Qu))),(11,q8 a.2.1),(12,q8 a.2.2.1)],[(0,.dat 4 (v.map Q7))],1⟩) qb ?_ ?_
     ·refine Qb (q33 k a) (fun x=>⟨[(0,q8 j),(1,.d (.sl 4 (f.map Q7))),(2,.d (.sl 4 (g.map Q7))),(7,.d (.sl 1 (k.map (eI .i64)))),(8,.d (.sl 1 (l.map (eI .i64)))),(9,.hs 0 4 0 x.2.length),(10,.d (.sl 2 (a.1.map Qu))),(11,q8 a.2.1),(12,q8 a.2.2.1),(16,q8 x.1)],[(0,.dat 4 (x.2.map Q7))],1⟩) _ ai bj (wkA [(0,0)] [] []) ?_;intro x bv m;unfold q33 at m;refine qe<|qd<|O J<|O J<|U _ J<|U _ J<|q9 ?_;refine qo J m (fun _ m=>?_) (fun _ m=>?_)
      ·refine qq<|qe<|Q4<|qx<|O J<|O J<|O J<|O J<|U _ J<|q7 m fun aj bk m=>Qd bk J<|U _ J<|q7 m fun z ak m=>qr ak J J<|U _ J<|Qt (ds:=[qk aj]) ({X0:=z.X0,Y0:=z.Y0,X1:=aj,Y1:=z.Y1} : ql) ak J J J J J J J J (leb J) J<|qu<|Qm<|qx<|O J<|U _ J<|qa J<|qu<|⟨_,qn m,wkE [(0,0)] [] [] J ⟨qi J,qi J,qi J,qi J,qi J,⟨_,J,Qx qb J Q0 (ltd J)⟩,qi J,qi J,qi J,qi J,trivial⟩ ⟨Qn J J,trivial⟩⟩
      refine Q8 ?_;refine ⟨_,qn m,fun hm=>?_⟩;subst hm;exact ⟨_,J,wkA [(0,0)] [] []⟩
     intro v hb;subst hb;refine Q8 ?_;cases h;exact ⟨_,J,wkA [(0,0)] [] []⟩
    refine qq<|qd<|O J<|U _ J<|O J<|qa J<|qa J<|qy<|qa J<|q9<|q7 h fun bl bm h=>Q4<|Qb (q4r u k a) (fun y=>⟨[(0,q8 j),(1,.d (.sl 4 (f.map Q7))),(2,.d (.sl 4 (g.map Q7))),(7,.d (.sl 1 (k.map (eI .i64)))),(8,.d (.sl 1 (l.map (eI .i64)))),(9,.hs 0 4 0 y.2.length),(10,.d (.sl 2 (u.map Qu))),(11,q8 (a.2.2.2.length : Int)),(12,q8 a.2.2.1),(15,.d (.sl 2 (u.map Qu))),(17,q8 y.1)],[(0,.dat 4 (y.2.map Q7))],1⟩) _ bl bm (wkA [(0,0)] [] []) ?_;intro y bw c;unfold q4r at c;refine qe<|qd<|O J<|O J<|Qq J<|U _ J<|q9 ?_;refine qo J c (fun _ c=>?_) (fun _ c=>?_)
    ·refine qq<|qe<|Q4<|Qa [q0,(some [0,1],[0,2]),(some [],[1]),q0,q0,q0,q0,q0,q0,q0,q0,q0,q0,q0,q0,q0,q0,q0,q0,q0,q0,q0,q0,q0] qg<|O J<|O J<|O J<|q7 c fun bz bn c=>Qd bn J<|U _ J<|O J<|O J<|q7 c fun ca bo c=>Qd bo J<|U _ J<|U _ J<|O J<|O J<|U _ J<|q7 c fun cb bp c=>Qd bp J<|U _ J<|O J<|O J<|q7 c fun cc bq c=>Qd bq J<|U _ J<|U _ J<|U _ J<|K3 _ _ J<|q7 c fun cd br c=>Y3 _ br J J J J J J J (Kx J J) J J J J<|qa J<|qu<|Qm<|qx<|O J<|U _ J<|qa J<|qu<|⟨_,qn c,wkA [(0,2)] [] []⟩
    refine Q8 ?_;refine ⟨_,qn c,fun hm=>?_⟩;subst hm;cases h;exact ⟨_,J,wkA [(0,0)] [] []⟩
   intro p hb;subst hb;refine qx<|O J<|U _ J<|qa J<|qu<|⟨_,qn o,wkA [(0,0)] [] []⟩
  refine Q8 ?_;refine ⟨_,qn o,fun hm=>?_⟩;subst hm;exact ⟨_,J,wkA [(0,0)] [] []⟩
 intro t hb;subst hb;refine qd<|O J<|qa J<|qz ?_;cases n;exact finD (.inr J) J (Jc J J) (.refl _)
theorem qqi (c : List ql) (f : List ql) (r : Bool) (b : q4t c f = some r) : Pure Try.prog tab 26 [.sl 4 (c.map Q7),.sl 4 (f.map Q7)] (.bool r):=by
 unfold q4t at b;refine Qy Try.func26 J qg qg J<|qd<|qa J<|q9<|qe<|qd<|O J<|Qq J<|O J<|Qq J<|U _ J<|q9 ?_;refine qo J b (fun _ b=>?_) (fun _ b=>?_)
 ·refine qd<|qa J<|qz ?_;cases b;exact Qh _ J
 refine qq<|qe<|qd<|qa J<|q9<|q7 b fun h k b=>?_;refine Qf (fun g=>.inl g = h) (fun g=>⟨[],[],0⟩) qb ?_ ?_
 ·refine Qb (qa6 c f) (fun j=>⟨[(0,.d (.sl 4 (c.map Q7))),(1,.d (.sl 4 (f.map Q7))),(5,q8 j)],[],0⟩) _ h k (wkA [] [] []) ?_;intro j n a;unfold qa6 at a;refine qe<|qd<|O J<|O J<|Qq J<|U _ J<|q9 ?_;refine qo J a (fun _ a=>?_) (fun _ a=>?_)
  ·refine qq<|qe<|Q4<|qe<|Qa [q0,q0,q0,q0,q0,q0,q0,q0,q0] qg<|O J<|O J<|q7 a fun o l a=>Qd l J<|U _ J<|O J<|O J<|q7 a fun p m a=>Qd m J<|U _ J<|U _ J<|q9 ?_;refine qo J a (fun _ a=>?_) (fun _ a=>?_)
   ·refine qd<|qa J<|qz ?_;refine ⟨_,qn a,fun hm=>?_⟩;subst hm;cases b;exact Qh _ J
   refine qq<|Qg<|Qm<|qx<|O J<|U _ J<|qa J<|qu<|⟨_,qn a,wkA [] [] []⟩
  refine Q8 ?_;refine ⟨_,qn a,fun hm=>?_⟩;subst hm;exact ⟨_,J,wkA [] [] []⟩
 intro g hb;subst hb;refine qd<|qa J<|qz ?_;cases b;exact Qh _ J
theorem qij (l : Int) (f : List qf) (g : List qf) (r : List qf × Bool) (o : q1x l f g = some r) : Pure Try.prog tab 13 [qk l,.sl 6 (f.map Q5),.sl 6 (g.map Q5)] (.tup [.sl 6 (r.1.map Q5),.bool r.2]):=by
 unfold q1x at o;refine Qy Try.func13 J qg qg J<|qd<|qa J<|qa J<|qy<|O J<|O J<|q7 o fun m h2 o=>Qk (qqs f g m h2) J<|qa J<|qy<|qa J<|qy<|qa J<|qy<|qa J<|q9<|qe<|qd<|qa J<|q9<|q7 o fun y bh o=>?_;refine Qf (fun s=>.inl s = y) (fun s=>⟨[(9,.hs 0 6 0 s.length)],[(0,.dat 6 (s.map Q5))],1⟩) qb ?_ ?_
 ·refine Qb (q12 m f g l) (fun c=>⟨[(0,q8 l),(1,.d (.sl 6 (f.map Q5))),(2,.d (.sl 6 (g.map Q5))),(8,.d (.sl 1 (m.map (eI .i64)))),(9,.hs 0 6 0 c.2.2.2.length),(10,.d (.sl 4 (c.1.map Q7))),(11,q8 c.2.1),(12,q8 c.2.2.1)],[(0,.dat 6 (c.2.2.2.map Q5))],1⟩) _ y bh (wkA [] [] [0]) ?_;intro c cs n;unfold q12 at n;refine qe<|qd<|O J<|U _ J<|O J<|Qq J<|U _ J<|q9 ?_;refine qo J n (fun _ n=>?_) (fun _ n=>?_)
  ·refine qq<|qe<|q7 n fun bi a n=>?_;refine Qf (fun p=>.inl p = bi) (fun p=>⟨[(0,q8 l),(1,.d (.sl 6 (f.map Q5))),(2,.d (.sl 6 (g.map Q5))),(8,.d (.sl 1 (m.map (eI .i64)))),(9,.hs 0 6 0 p.2.2.length),(10,.d (.sl 4 (p.1.map Q7))),(11,q8 p.2.1),(12,q8 c.2.2.1)],[(0,.dat 6 (p.2.2.map Q5))],1⟩) qb ?_ ?_
   ·refine qe<|Qa [q0,q0,q0,q0,q0,q0,q0,q0,q0,q0,q0,q0,q0,q0,q0] qg<|O J<|O J<|O J<|O J<|q7 a fun bj bk a=>Qd bk J<|U _ J<|q7 a fun z bl a=>Qk (qa8 f bj z bl) J<|O J<|O J<|O J<|q7 a fun bm bn a=>Qd bn J<|U _ J<|q7 a fun aa bo a=>Qk (qa8 g bm aa bo) J<|q7 a fun t bp a=>Qk (qda l z aa t bp) J<|qa J<|q9<|qe<|qd<|O J<|Qq J<|U _ J<|q7 a fun bq h a=>?_;refine Qi 11 (fun A st=>∃ ab ac ad ae af ag ah ai aj ak,st = A [(53,Q3 bq),(52,ak),(51,aj),(50,ai),(49,ah),(48,ag),(47,af),(46,ae),(45,ad),(44,ac),(43,ab)]) ?_ ?_
    ·refine Qj J J h (fun h=>?_) (fun h=>?_)
     ·refine qc J<|qc J<|qc J<|qc J<|qc J<|qc J<|qc J<|qc J<|qc J<|U _ J<|q9 ?_;cases h;exact ⟨_,_,_,_,_,_,_,_,_,_,J⟩
     refine O J<|O J<|O J<|q7 h fun br bs h=>Qd bs J<|U _ J<|q7 h fun al bt h=>Qk (qa8 f br al bt) J<|q7 h fun bu bv h=>Qk (q74 (.cons (.refl _) (.cons (.refl _) (.cons (.nil _) .nil))) (qda 2 al [] bu bv)) J<|Qq J<|U _ J<|U _ J<|q9 ?_;cases h;exact ⟨_,_,_,_,_,_,_,_,_,_,J⟩
    rintro _ ⟨ab,ac,ad,ae,af,ag,ah,ai,aj,ak,rfl⟩;refine q7 a fun bw j a=>?_;refine Qi 11 (fun A st=>∃ am an ao ap aq ar au av aw ax,st = A [(64,Q3 bw),(63,ax),(62,aw),(61,av),(60,au),(59,ar),(58,aq),(57,ap),(56,ao),(55,an),(54,am)]) ?_ ?_
    ·refine Qj J J j (fun j=>?_) (fun j=>?_)
     ·refine qc J<|qc J<|qc J<|qc J<|qc J<|qc J<|qc J<|qc J<|qc J<|U _ J<|q9 ?_;cases j;exact ⟨_,_,_,_,_,_,_,_,_,_,J⟩
     refine O J<|O J<|O J<|q7 j fun bz ca j=>Qd ca J<|U _ J<|q7 j fun ay cb j=>Qk (qa8 g bz ay cb) J<|q7 j fun cc cd j=>Qk (q74 (.cons (.refl _) (.cons (.refl _) (.cons (.nil _) .nil))) (qda 2 ay [] cc cd)) J<|Qq J<|U _ J<|U _ J<|q9 ?_;cases j;exact ⟨_,_,_,_,_,_,_,_,_,_,J⟩
    rintro _ ⟨am,an,ao,ap,aq,ar,au,av,aw,ax,rfl⟩;refine q9 ?_;refine qo J a (fun _ a=>?_) (fun _ a=>?_)
    ·refine qd<|qa J<|qa J<|qz ?_;cases a;refine ⟨_,qn n,fun hm=>?_⟩;subst hm;cases o;exact finD (.inr J) J J (Jf (.cons (.nil _) (.cons (.refl _) .nil)))
    refine qq<|qe<|qd<|O J<|U _ J<|q7 a fun ce q a=>?_;refine Qi 5 (fun A st=>∃ az ba bb bc,st = A [(71,Q3 ce),(70,bc),(69,bb),(68,ba),(67,az)]) ?_ ?_
    ·refine Qj J J q (fun q=>?_) (fun q=>?_)
     ·refine O J<|O J<|q7 q fun cf cg q=>Qk (qqi t c.1 cf cg) J<|U _ J<|q9 ?_;cases q;exact ⟨_,_,_,_,J⟩
     refine qc J<|qc J<|qc J<|U _ J<|q9 ?_;cases q;exact ⟨_,_,_,_,J⟩
    rintro _ ⟨az,ba,bb,bc,rfl⟩;refine q9 ?_;refine qo J a (fun _ a=>?_) (fun _ a=>?_)
    ·refine qe<|qd<|O J<|qa J<|q9<|q7 a fun bd ch a=>?_;refine Qf (fun u=>u = bd) (fun u=>⟨[(0,q8 l),(1,.d (.sl 6 (f.map Q5))),(2,.d (.sl 6 (g.map Q5))),(8,.d (.sl 1 (m.map (eI .i64)))),(9,.hs 0 6 0 u.length),(10,.d (.sl 4 (c.1.map Q7))),(11,q8 c.2.1),(12,q8 c.2.2.1)],[(0,.dat 6 (u.map Q5))],1⟩) qb ?_ ?_
     ·refine Qb (q3a m c) (fun v=>⟨[(0,q8 l),(1,.d (.sl 6 (f.map Q5))),(2,.d (.sl 6 (g.map Q5))),(8,.d (.sl 1 (m.map (eI .i64)))),(9,.hs 0 6 0 v.2.length),(10,.d (.sl 4 (c.1.map Q7))),(11,q8 c.2.1),(12,q8 c.2.2.1),(14,q8 v.1)],[(0,.dat 6 (v.2.map Q5))],1⟩) _ bd ch (wkA [(0,0)] [] []) ?_;intro v ct k;unfold q3a at k;refine qe<|qd<|O J<|O J<|U _ J<|U _ J<|q9 ?_;refine qo J k (fun _ k=>?_) (fun _ k=>?_)
      ·refine qq<|qe<|Q4<|qx<|O J<|O J<|O J<|O J<|U _ J<|q7 k fun be ci k=>Qd ci J<|U _ J<|q7 k fun x bf k=>qr bf J J<|U _ J<|U _ J<|Qt (ds:=[qk be]) ({Lo:=x.Lo,Hi:=({X:=x.Hi.X,Y:=x.Hi.Y,Z:=be} : Qe)} : qf) bf J J J J J J J J (leb J) J<|qu<|Qm<|qx<|O J<|U _ J<|qa J<|qu<|⟨_,qn k,wkE [(0,0)] [] [] J ⟨qi J,qi J,qi J,qi J,⟨_,J,Qx qb J Q0 (ltd J)⟩,qi J,qi J,qi J,qi J,trivial⟩ ⟨Qn J J,trivial⟩⟩
      refine Q8 ?_;refine ⟨_,qn k,fun hm=>?_⟩;subst hm;exact ⟨_,J,wkA [(0,0)] [] []⟩
     intro u hb;subst hb;refine Q8 ?_;cases a;exact ⟨_,J,wkA [(0,0)] [] []⟩
    refine qq<|qd<|O J<|U _ J<|O J<|qa J<|qa J<|qy<|qa J<|q9<|q7 a fun cj ck a=>Q4<|Qb (q4y t m c) (fun w=>⟨[(0,q8 l),(1,.d (.sl 6 (f.map Q5))),(2,.d (.sl 6 (g.map Q5))),(8,.d (.sl 1 (m.map (eI .i64)))),(9,.hs 0 6 0 w.2.length),(10,.d (.sl 4 (t.map Q7))),(11,q8 (c.2.2.2.length : Int)),(12,q8 c.2.2.1),(13,.d (.sl 4 (t.map Q7))),(15,q8 w.1)],[(0,.dat 6 (w.2.map Q5))],1⟩) _ cj ck (wkA [(0,0)] [] []) ?_;intro w cu b;unfold q4y at b;refine qe<|qd<|O J<|O J<|Qq J<|U _ J<|q9 ?_;refine qo J b (fun _ b=>?_) (fun _ b=>?_)
    ·refine qq<|qe<|Q4<|Qa [q0,(some [0,1],[0,2]),(some [],[1]),q0,q0,q0,q0,q0,q0,q0,q0,q0,q0,q0,q0,q0,q0,q0,q0,q0,q0,q0,q0,q0,q0,q0,q0,q0,q0,q0,q0,q0,q0,q0,q0,q0] qg<|O J<|O J<|O J<|q7 b fun cv cl b=>Qd cl J<|U _ J<|U _ J<|O J<|O J<|q7 b fun cw cm b=>Qd cm J<|U _ J<|U _ J<|O J<|O J<|q7 b fun cx cn b=>Qd cn J<|U _ J<|U _ J<|O J<|O J<|q7 b fun cy co b=>Qd co J<|U _ J<|U _ J<|O J<|O J<|q7 b fun cz cp b=>Qd cp J<|U _ J<|U _ J<|O J<|O J<|U _ J<|q7 b fun da cq b=>Qd cq J ?_;refine U _ J<|U _ J<|U _ J<|K3 _ _ J<|q7 b fun dc cr b=>Y3 _ cr J J J J J J J (Kx J J) J J J J<|qa J<|qu<|Qm<|qx<|O J<|U _ J<|qa J<|qu<|⟨_,qn b,wkA [(0,2)] [] []⟩
    refine Q8 ?_;refine ⟨_,qn b,fun hm=>?_⟩;subst hm;cases a;exact ⟨_,J,wkA [(0,0)] [] []⟩
   intro p hb;subst hb;refine qx<|O J<|U _ J<|qa J<|qu<|⟨_,qn n,wkA [(0,0)] [] []⟩
  refine Q8 ?_;refine ⟨_,qn n,fun hm=>?_⟩;subst hm;exact ⟨_,J,wkA [(0,0)] [] []⟩
 intro s hb;subst hb;refine qd<|O J<|O J<|U _ J<|U _ J<|qa J<|qa J<|qz ?_;cases o;exact finD (.inr J) J (q8z (U5 (Jc J J) (U5 J J))) (.refl _)
theorem qik (c : List qf) (f : List qf) (r : Bool) (b : q7f c f = some r) : Pure Try.prog tab 7 [.sl 6 (c.map Q5),.sl 6 (f.map Q5)] (.bool r):=by
 unfold q7f at b;refine Qy Try.func7 J qg qg J<|qd<|qa J<|q9<|qe<|qd<|O J<|Qq J<|O J<|Qq J<|U _ J<|q9 ?_;refine qo J b (fun _ b=>?_) (fun _ b=>?_)
 ·refine qd<|qa J<|qz ?_;cases b;exact Qh _ J
 refine qq<|qe<|qd<|qa J<|q9<|q7 b fun h k b=>?_;refine Qf (fun g=>.inl g = h) (fun g=>⟨[],[],0⟩) qb ?_ ?_
 ·refine Qb (qa9 c f) (fun j=>⟨[(0,.d (.sl 6 (c.map Q5))),(1,.d (.sl 6 (f.map Q5))),(5,q8 j)],[],0⟩) _ h k (wkA [] [] []) ?_;intro j n a;unfold qa9 at a;refine qe<|qd<|O J<|O J<|Qq J<|U _ J<|q9 ?_;refine qo J a (fun _ a=>?_) (fun _ a=>?_)
  ·refine qq<|qe<|Q4<|qe<|Qa [q0,q0,q0,q0,q0,q0,q0,q0,q0] qg<|O J<|O J<|q7 a fun o l a=>Qd l J<|U _ J<|O J<|O J<|q7 a fun p m a=>Qd m J<|U _ J<|U _ J<|q9 ?_;refine qo J a (fun _ a=>?_) (fun _ a=>?_)
   ·refine qd<|qa J<|qz ?_;refine ⟨_,qn a,fun hm=>?_⟩;subst hm;cases b;exact Qh _ J
   refine qq<|Qg<|Qm<|qx<|O J<|U _ J<|qa J<|qu<|⟨_,qn a,wkA [] [] []⟩
  refine Q8 ?_;refine ⟨_,qn a,fun hm=>?_⟩;subst hm;exact ⟨_,J,wkA [] [] []⟩
 intro g hb;subst hb;refine qd<|qa J<|qz ?_;cases b;exact Qh _ J
theorem qih (c : List qf) (r : Int) (a : q4w c = some r) : Pure Try.prog tab 11 [.sl 6 (c.map Q5)] (qk r):=by
 unfold q4w at a;refine Qy Try.func11 J qg qg J<|qd<|qa J<|q9<|qe<|qd<|O J<|Qq J<|U _ J<|q9 ?_;refine qo J a (fun _ a=>?_) (fun _ a=>?_)
 ·refine qd<|qa J<|qz ?_;cases a;exact Qh _ J
 refine qq<|qe<|qd<|qa J<|q9<|q7 a fun h q a=>?_;refine Qf (fun g=>.inl g = h) (fun g=>⟨[(0,.d (.sl 6 (c.map Q5)))],[],0⟩) qb ?_ ?_
 ·refine Qb (q4x c) (fun j=>⟨[(0,.d (.sl 6 (c.map Q5))),(3,q8 j)],[],0⟩) _ h q (wkA [] [] []) ?_;intro j aa b;unfold q4x at b;refine qe<|qd<|O J<|O J<|Qq J<|U _ J<|q9 ?_;refine qo J b (fun _ b=>?_) (fun _ b=>?_)
  ·refine qq<|qe<|Q4<|qd<|O J<|O J<|q7 b fun s t b=>Qd t J<|U _ J<|q7 b fun u v b=>Qk (qqy s u v) J<|U _ J<|q9 ?_;refine qo J b (fun _ b=>?_) (fun _ b=>?_)
   ·refine qd<|qa J<|qz ?_;refine ⟨_,qn b,fun hm=>?_⟩;subst hm;cases a;exact Qh _ J
   refine qq<|Qg<|Qm<|qx<|O J<|U _ J<|qa J<|qu<|⟨_,qn b,wkA [] [] []⟩
  refine Q8 ?_;refine ⟨_,qn b,fun hm=>?_⟩;subst hm;exact ⟨_,J,wkA [] [] []⟩
 intro g hb;subst hb;refine qd<|O J<|q7 a fun k w a=>Qk (q74 (.cons (.refl _) (.cons (.refl _) (.cons (.nil _) .nil))) (qij 2 c [] k w)) J<|O J<|U _ J<|U _ J<|qa J<|qa J<|q9<|qe<|qd<|O J<|U _ J<|q7 a fun x f a=>?_;refine Qi 6 (fun A st=>∃ l m n o p,st = A [(33,Q3 x),(32,p),(31,o),(30,n),(29,m),(28,l)]) ?_ ?_
 ·refine Qj J J f (fun f=>?_) (fun f=>?_)
  ·refine qc J<|qc J<|qc J<|qc J<|U _ J<|q9 ?_;cases f;exact ⟨_,_,_,_,_,J⟩
  refine O J<|O J<|q7 f fun y z f=>Qk (qik k.1 c y z) J<|U _ J<|U _ J<|q9 ?_;cases f;exact ⟨_,_,_,_,_,J⟩
 rintro _ ⟨l,m,n,o,p,rfl⟩;refine q9 ?_;refine qo J a (fun _ a=>?_) (fun _ a=>?_)
 ·refine qd<|qa J<|qz ?_;cases a;exact Qh _ J
 refine qq<|qd<|qa J<|qz ?_;cases a;exact Qh _ J
theorem qqq (b : qf) (c : qf) (r : qf) (a : q11 b c = some r) : Pure Try.prog tab 22 [.agg (Q5 b),.agg (Q5 c)] (.agg (Q5 r)):=by
 unfold q11 at a;refine Qy Try.func22 J qg qg J<|qd<|K3 _ _ J<|K3 _ _ J<|Kn J J<|qy<|U _ J<|U _ J<|U _ J<|U _ J<|U _ J<|U _ J<|q2v (r:=max b.Lo.X c.Lo.X) J J (by simp only [q2t];rfl)<|U _ J<|U _ J<|U _ J<|U _ J<|U _ J<|U _ J<|q2v (r:=max b.Lo.Y c.Lo.Y) J J (by simp only [q2t];rfl)<|U _ J<|U _ J<|U _ J<|U _ J<|U _ J<|U _ J<|q2v (r:=max b.Lo.Z c.Lo.Z) J J (by simp only [q2t];rfl)<|U _ J<|U _ J<|U _ J<|U _ J<|U _ J<|U _ J<|U _ J<|q2w (r:=min b.Hi.X c.Hi.X) J J (by simp only [q2u];rfl)<|U _ J<|U _ J<|U _ J<|U _ J<|U _ J ?_;refine U _ J<|q2w (r:=min b.Hi.Y c.Hi.Y) J J (by simp only [q2u];rfl)<|U _ J<|U _ J<|U _ J<|U _ J<|U _ J<|U _ J<|q2w (r:=min b.Hi.Z c.Hi.Z) J J (by simp only [q2u];rfl)<|U _ J<|U _ J<|Kn J J<|Qz 3 _ J<|q9<|qe<|qd<|U _ J<|U _ J<|U _ J<|U _ J<|U _ J<|U _ J<|U _ J<|q7 a fun y d a=>?_;refine Qi 9 (fun A st=>∃ g h j k l m n o,st = A [(66,Q3 y),(65,o),(64,n),(63,m),(62,l),(61,k),(60,j),(59,h),(58,g)]) ?_ ?_
 ·refine Qj J J d (fun d=>?_) (fun d=>?_)
  ·refine qc J<|qc J<|qc J<|qc J<|qc J<|qc J<|qc J<|U _ J<|q9 ?_;cases d;exact ⟨_,_,_,_,_,_,_,_,J⟩
  refine U _ J<|U _ J<|U _ J<|U _ J<|U _ J<|U _ J<|U _ J<|U _ J<|q9 ?_;cases d;exact ⟨_,_,_,_,_,_,_,_,J⟩
 rintro _ ⟨g,h,j,k,l,m,n,o,rfl⟩;refine q7 a fun z f a=>?_;refine Qi 9 (fun A st=>∃ p q s t u v w x,st = A [(75,Q3 z),(74,x),(73,w),(72,v),(71,u),(70,t),(69,s),(68,q),(67,p)]) ?_ ?_
 ·refine Qj J J f (fun f=>?_) (fun f=>?_)
  ·refine qc J<|qc J<|qc J<|qc J<|qc J<|qc J<|qc J<|U _ J<|q9 ?_;cases f;exact ⟨_,_,_,_,_,_,_,_,J⟩
  refine U _ J<|U _ J<|U _ J<|U _ J<|U _ J<|U _ J<|U _ J<|U _ J<|q9 ?_;cases f;exact ⟨_,_,_,_,_,_,_,_,J⟩
 rintro _ ⟨p,q,s,t,u,v,w,x,rfl⟩;refine q9 ?_;refine qo J a (fun _ a=>?_) (fun _ a=>?_)
 ·refine qd<|U _ J<|Qz 2 _ J<|qz ?_;cases a;exact Qh _ J
 refine qq<|qd<|U _ J<|Qz 2 _ J<|qz ?_;cases a;exact Qh _ J
theorem qqo (f : qf) (d : qf) (r : Bool) (g : q7b f d = some r) : Pure Try.prog tab 12 [.agg (Q5 f),.agg (Q5 d)] (.bool r):=by
 unfold q7b at g;refine Qy Try.func12 J qg qg J<|qd<|K3 _ _ J<|K3 _ _ J<|qa J<|q9<|qe<|qd<|qa J<|q9<|q7 g fun k l g=>?_;refine Qf (fun h=>.inl h = k) (fun h=>⟨[],[],0⟩) qb ?_ ?_
 ·refine Qb (U8 f d) (fun j=>⟨[(2,.ref 0 6 0 0),(3,.ref 1 6 0 0),(5,q8 j)],[(0,.dat 6 [(Q5 f)]),(1,.dat 6 [(Q5 d)])],2⟩) _ k l (wkA [(0,0),(1,1)] [] []) ?_;intro j p b;unfold U8 at b;refine qe<|qd<|O J<|U _ J<|q9 ?_;refine qo J b (fun _ b=>?_) (fun _ b=>?_)
  ·refine qq<|qe<|Q4<|qd<|U _ J<|Kn J J<|Qz 2 _ J<|q9<|qe<|qd<|O J<|q9<|q7 b fun m c b=>?_;refine Qf (fun a=>a = m) (fun a=>⟨[(2,.ref 0 6 0 0),(3,.ref 1 6 0 0),(5,q8 j),(6,.ref 2 6 0 0)],[(0,.dat 6 [(Q5 f)]),(1,.dat 6 [(Q5 d)]),(2,.dat 6 [[qk a.1,qk a.2.1,qk a.2.2.1,qk a.2.2.2.1,qk a.2.2.2.2.1,qk a.2.2.2.2.2]])],3⟩) qb ?_ ?_
   ·refine qd<|U _ J<|qa J<|q9 ?_;refine qo J c (fun _ c=>?_) (fun _ c=>?_)
    ·refine Qa [Qo 2,q0,q0,Qo 2,q0,q0,q0,qt 0,q0,q0,q0,qt 0,q0,q0] qg<|U _ J<|U _ J<|U _ J<|U _ J<|U _ J<|U _ J<|U _ J<|U _ J<|U _ J<|U _ J<|Qz 2 _ J<|U _ J<|U _ J<|Qz 2 _ J<|qu ?_;cases c;exact ⟨_,J,wkA [(0,0),(1,1),(2,2)] [] []⟩
    refine qd<|U _ J<|qa J<|q9 ?_;refine qo J c (fun _ c=>?_) (fun _ c=>?_)
    ·refine Qa [Qo 2,q0,q0,Qo 2,q0,q0,q0,qt 0,q0,q0,q0,qt 0,q0,q0] qg<|U _ J<|U _ J<|U _ J<|U _ J<|U _ J<|U _ J<|U _ J<|U _ J<|U _ J<|U _ J<|Qz 2 _ J<|U _ J<|U _ J<|Qz 2 _ J<|qu ?_;cases c;exact ⟨_,J,wkA [(0,0),(1,1),(2,2)] [] []⟩
    refine Qa [Qo 2,q0,q0,Qo 2,q0,q0,q0,qt 0,q0,q0,q0,qt 0,q0,q0] qg<|U _ J<|U _ J<|U _ J<|U _ J<|U _ J<|U _ J<|U _ J<|U _ J<|U _ J<|U _ J<|Qz 2 _ J<|U _ J<|U _ J<|Qz 2 _ J<|qu ?_;cases c;exact ⟨_,J,wkA [(0,0),(1,1),(2,2)] [] []⟩
   intro a hb;subst hb;refine qd<|U _ J<|U _ J<|q7 b fun n o b=>Qk (qqq ({Lo:=({X:=a.1,Y:=a.2.1,Z:=a.2.2.1} : Qe),Hi:=({X:=a.2.2.2.1,Y:=a.2.2.2.2.1,Z:=a.2.2.2.2.2} : Qe)} : qf) d n o) J<|U _ J<|U _ J<|q9 ?_;refine qo J b (fun _ b=>?_) (fun _ b=>?_)
   ·refine qd<|qa J<|qz ?_;refine ⟨_,qn b,fun hm=>?_⟩;subst hm;cases g;exact Qh _ J
   refine qq<|Qg<|Qm<|qx<|O J<|U _ J<|qa J<|qu<|⟨_,qn b,wkA [(0,0),(1,1)] [] []⟩
  refine Q8 ?_;refine ⟨_,qn b,fun hm=>?_⟩;subst hm;exact ⟨_,J,wkA [] [] []⟩
 intro h hb;subst hb;refine qd<|qa J<|qz ?_;cases g;exact Qh _ J
theorem qqw (a : List qf) (r : List (List qf) × Int) (f : q7e a = some r) : Pure Try.prog tab 6 [.sl 6 (a.map Q5)] (.tup [.sl 1 (r.1.map K8),qk r.2]):=by
 unfold q7e at f;refine Qy Try.func6 J qg qg J<|qd<|qa J<|qa J<|q9<|qe<|qd<|O J<|q7 f fun r1 h2 f=>Qk (qih a r1 h2) J<|U _ J<|q9 ?_;refine qo J f (fun _ f=>?_) (fun _ f=>?_)
 ·refine qd<|O J<|q7 f fun r5 h6 f=>Qk (qih a r5 h6) J<|qa J<|qa J<|qz ?_;cases f;exact finD (.inr J) J J (Jf (.cons (.nil _) (.cons (.refl _) .nil)))
 refine qq<|qd<|qa J<|q9<|qe<|qd<|qa J<|q9<|q7 f fun af bg f=>?_;refine Qf (fun x=>x = af) (fun x=>⟨[(0,.d (.sl 6 (a.map Q5))),(4,.hs 0 1 0 x.length)],[(0,.dat 1 (x.map (eI .i64)))],1⟩) qb ?_ ?_
 ·refine Qb (q3b a) (fun ac=>⟨[(0,.d (.sl 6 (a.map Q5))),(4,.hs 0 1 0 ac.2.length),(5,q8 ac.1)],[(0,.dat 1 (ac.2.map (eI .i64)))],1⟩) _ af bg (wkA [] [] [0]) ?_;intro ac ch m;unfold q3b at m;refine qe<|qd<|O J<|O J<|Qq J<|U _ J<|q9 ?_;refine qo J m (fun _ m=>?_) (fun _ m=>?_)
  ·refine qq<|qe<|Q4<|qx<|O J<|O J<|K3 _ _ J<|q7 m fun ci bh m=>Y3 _ bh J J J J J J J (Kx J J) J J J J<|qa J<|qu<|Qm<|qx<|O J<|U _ J<|qa J<|qu<|⟨_,qn m,wkA [(0,2)] [] []⟩
  refine Q8 ?_;refine ⟨_,qn m,fun hm=>?_⟩;subst hm;exact ⟨_,J,wkA [(0,0)] [] []⟩
 intro x hb;subst hb;refine qe<|qd<|qa J<|q9<|q7 f fun ag bi f=>?_;refine Qf (fun b=>b = ag) (fun b=>⟨[(0,.d (.sl 6 (a.map Q5))),(4,.hs 0 1 0 b.length)],[(0,.dat 1 (b.map (eI .i64)))],1⟩) qb ?_ ?_
 ·refine Qb (U9 a) (fun ad=>⟨[(0,.d (.sl 6 (a.map Q5))),(4,.hs 0 1 0 ad.2.length),(6,Q3 ad.1)],[(0,.dat 1 (ad.2.map (eI .i64)))],1⟩) _ ag bi (wkA [(0,0)] [] []) ?_;intro ad cj n;unfold U9 at n;refine qe<|qd<|O J<|q9 ?_;refine qo J n (fun _ n=>?_) (fun _ n=>?_)
  ·refine qq<|Q4<|qd<|qa J<|qy<|qa J<|q9<|q7 n fun bj bk n=>Q4<|Qb (q3c a) (fun l=>⟨[(0,.d (.sl 6 (a.map Q5))),(4,.hs 0 1 0 l.2.2.length),(6,Q3 l.1),(7,q8 l.2.1)],[(0,.dat 1 (l.2.2.map (eI .i64)))],1⟩) _ bj bk (wkA [(0,0)] [] []) ?_;intro l ck o;unfold q3c at o;refine qe<|qd<|O J<|O J<|Qq J<|U _ J<|q9 ?_;refine qo J o (fun _ o=>?_) (fun _ o=>?_)
   ·refine qq<|qe<|q7 o fun bl ae o=>?_;refine Qf (fun u=>u = bl) (fun u=>⟨[(0,.d (.sl 6 (a.map Q5))),(4,.hs 0 1 0 u.2.length),(6,Q3 u.1),(7,q8 l.2.1)],[(0,.dat 1 (u.2.map (eI .i64)))],1⟩) qb ?_ ?_
    ·refine qd<|qa J<|q9<|q7 ae fun bm bn ae=>Q4<|Qb (q13 a l) (fun v=>⟨[(0,.d (.sl 6 (a.map Q5))),(4,.hs 0 1 0 v.2.2.length),(6,Q3 v.1),(7,q8 l.2.1),(8,q8 v.2.1)],[(0,.dat 1 (v.2.2.map (eI .i64)))],1⟩) _ bm bn (wkA [(0,0)] [] []) ?_;intro v cl p;unfold q13 at p;refine qe<|qd<|O J<|O J<|Qq J<|U _ J<|q9 ?_;refine qo J p (fun _ p=>?_) (fun _ p=>?_)
     ·refine qq<|qe<|q7 p fun bo g p=>?_;refine Qf (fun w=>w = bo) (fun w=>⟨[(0,.d (.sl 6 (a.map Q5))),(4,.hs 0 1 0 w.2.length),(6,Q3 w.1),(7,q8 l.2.1),(8,q8 v.2.1)],[(0,.dat 1 (w.2.map (eI .i64)))],1⟩) qb ?_ ?_
      ·refine qe<|Qa [q0,q0,q0,q0,q0,q0,q0,q0,q0,q0,q0,q0,qt 0,q0,q0,q0,qt 0,q0,q0,q0] qg<|O J<|O J<|q7 g fun cm ah g=>qr ah J J<|Q2 _ ah J<|O J<|O J<|q7 g fun cn ai g=>qr ai J J<|Q2 _ ai J<|U _ J<|q7 g fun bp j g=>?_;refine Qi 11 (fun A st=>∃ aj ak al am an ao ap aq ar au,st = A [(62,Q3 bp),(61,au),(60,ar),(59,aq),(58,ap),(57,ao),(56,an),(55,am),(54,al),(53,ak),(52,aj)]) ?_ ?_
       ·refine Qj J J j (fun j=>?_) (fun j=>?_)
        ·refine O J<|O J<|q7 j fun bq br j=>Qd br J<|U _ J<|O J<|O J<|q7 j fun bs bt j=>Qd bt J<|U _ J<|q7 j fun bu bv j=>Qk (qqo bq bs bu bv) J<|U _ J<|q9 ?_;cases j;exact ⟨_,_,_,_,_,_,_,_,_,_,J⟩
        refine qc J<|qc J<|qc J<|qc J<|qc J<|qc J<|qc J<|qc J<|qc J<|U _ J<|q9 ?_;cases j;exact ⟨_,_,_,_,_,_,_,_,_,_,J⟩
       rintro _ ⟨aj,ak,al,am,an,ao,ap,aq,ar,au,rfl⟩;refine q9 ?_;refine qo J g (fun _ g=>?_) (fun _ g=>?_)
       ·refine qd<|O J<|O J<|O J<|O J<|q7 g fun av aw g=>qr aw J J<|Q2 _ aw J<|q7 g fun co ax g=>qr ax J J<|Qt (ds:=[qk av]) av ax J J J J J J J J (leb J) J<|q9<|qx<|qa J<|qu ?_;cases g;exact ⟨_,J,wkE [(0,0)] [] [] J ⟨qi J,⟨_,J,Qx qb J Q0 (ltd J)⟩,qi J,qi J,qi J,trivial⟩ ⟨Qn J J,trivial⟩⟩
       refine qq<|Qg ?_;cases g;exact ⟨_,J,wkA [(0,0)] [] []⟩
      intro w hb;subst hb;refine qx<|O J<|U _ J<|qa J<|qu<|⟨_,qn p,wkA [(0,0)] [] []⟩
     refine Q8 ?_;refine ⟨_,qn p,fun hm=>?_⟩;subst hm;cases ae;exact ⟨_,J,wkA [(0,0)] [] []⟩
    intro u hb;subst hb;refine qx<|O J<|U _ J<|qa J<|qu<|⟨_,qn o,wkA [(0,0)] [] []⟩
   refine Q8 ?_;refine ⟨_,qn o,fun hm=>?_⟩;subst hm;exact ⟨_,qn n,wkA [(0,0)] [] []⟩
  refine Q8 ?_;refine ⟨_,qn n,fun hm=>?_⟩;subst hm;exact ⟨_,J,wkA [(0,0)] [] []⟩
 intro b hb;subst hb;refine qd<|qa J<|q9<|qe<|qd<|qa J<|q9<|q7 f fun ay bw f=>?_;refine Qf (fun y=>y = ay) (fun y=>⟨[(9,.hs 0 1 0 y.length)],[(0,.dat 1 (y.map K8))],1⟩) qb ?_ ?_
 ·refine Qb (q1y a b) (fun c=>⟨[(0,.d (.sl 6 (a.map Q5))),(4,.hs 0 1 0 b.length),(9,.hs 1 1 0 c.2.length),(10,q8 c.1)],[(0,.dat 1 (b.map (eI .i64))),(1,.dat 1 (c.2.map K8))],2⟩) _ ay bw (wkA [(0,0)] [] [1]) ?_;intro c cp q;unfold q1y at q;refine qe<|qd<|O J<|O J<|Qq J<|U _ J<|q9 ?_;refine qo J q (fun _ q=>?_) (fun _ q=>?_)
  ·refine qq<|qe<|q7 q fun bz h q=>?_;refine Qf (fun z=>z = bz) (fun z=>⟨[(0,.d (.sl 6 (a.map Q5))),(4,.hs 0 1 0 b.length),(9,.hs 1 1 0 z.length),(10,q8 c.1)],[(0,.dat 1 (b.map (eI .i64))),(1,.dat 1 (z.map K8))],2⟩) qb ?_ ?_
   ·refine qe<|qd<|O J<|O J<|q7 h fun cq az h=>qr az J J<|Q2 _ az J<|O J<|U _ J<|q9 ?_;refine qo J h (fun _ h=>?_) (fun _ h=>?_)
    ·refine Q8 ?_;cases h;exact ⟨_,J,wkA [(0,0),(1,1)] [] []⟩
    refine qq<|qd<|qa J<|q9<|qe<|qd<|qa J<|q9<|q7 h fun ba ca h=>?_;refine Qf (fun t=>t = ba) (fun t=>⟨[(0,.d (.sl 6 (a.map Q5))),(4,.hs 0 1 0 b.length),(9,.hs 1 1 0 c.2.length),(10,q8 c.1),(11,.hs 2 6 0 t.length)],[(0,.dat 1 (b.map (eI .i64))),(1,.dat 1 (c.2.map K8)),(2,.dat 6 (t.map Q5))],3⟩) qb ?_ ?_
    ·refine Qb (q1z a b c) (fun aa=>⟨[(0,.d (.sl 6 (a.map Q5))),(4,.hs 0 1 0 b.length),(9,.hs 1 1 0 c.2.length),(10,q8 c.1),(11,.hs 2 6 0 aa.2.length),(12,q8 aa.1)],[(0,.dat 1 (b.map (eI .i64))),(1,.dat 1 (c.2.map K8)),(2,.dat 6 (aa.2.map Q5))],3⟩) _ ba ca (wkA [(0,0),(1,1)] [] [2]) ?_;intro aa cr s;unfold q1z at s;refine qe<|qd<|O J<|O J<|Qq J<|U _ J<|q9 ?_;refine qo J s (fun _ s=>?_) (fun _ s=>?_)
     ·refine qq<|qe<|q7 s fun cb k s=>?_;refine Qf (fun ab=>ab = cb) (fun ab=>⟨[(0,.d (.sl 6 (a.map Q5))),(4,.hs 0 1 0 b.length),(9,.hs 1 1 0 c.2.length),(10,q8 c.1),(11,.hs 2 6 0 ab.length),(12,q8 aa.1)],[(0,.dat 1 (b.map (eI .i64))),(1,.dat 1 (c.2.map K8)),(2,.dat 6 (ab.map Q5))],3⟩) qb ?_ ?_
      ·refine qd<|O J<|O J<|q7 k fun cs bb k=>qr bb J J<|Q2 _ bb J<|O J<|U _ J<|q9 ?_;refine qo J k (fun _ k=>?_) (fun _ k=>?_)
       ·refine qx<|O J<|O J<|O J<|q7 k fun ct cc k=>Qd cc J<|U _ J<|K3 _ _ J<|q7 k fun cu cd k=>Y3 _ cd J J J J J J J (Kx J J) J J J J<|qa J<|qu ?_;cases k;exact ⟨_,J,wkA [(0,0),(1,1),(2,4)] [] []⟩
       refine qq<|Qg ?_;cases k;exact ⟨_,J,wkA [(0,0),(1,1),(2,2)] [] []⟩
      intro ab hb;subst hb;refine qx<|O J<|U _ J<|qa J<|qu<|⟨_,qn s,wkA [(0,0),(1,1),(2,2)] [] []⟩
     refine Q8 ?_;refine ⟨_,qn s,fun hm=>?_⟩;subst hm;exact ⟨_,J,wkA [(0,0),(1,1),(2,2)] [] []⟩
    intro t hb;subst hb;refine qe ?_;refine Yz (st':=⟨[(0,.d (.sl 6 (a.map Q5))),(4,.hs 0 1 0 b.length),(9,.hs 1 1 0 c.2.length),(10,q8 c.1),(11,.d (.sl 6 (t.map Q5)))],[(0,.dat 1 (b.map (eI .i64))),(1,.dat 1 (c.2.map K8))],2⟩) (wkA [(0,0),(1,1)] [2] []) ?_ qb;refine qx<|O J<|q7 h fun ce cf h=>Qk (q74 (.cons (.refl _) (.cons (.refl _) (.cons (.nil _) .nil))) (qij 2 t [] ce cf)) J<|O J<|U _ J<|U _ J<|qa J<|qa J<|q9<|qx<|O J<|O J<|K3 _ _ J<|q7 h fun cv cg h=>Y3 _ cg J J J J J J J (Kx J J) J J J J<|qa J<|qu ?_;cases h;exact ⟨_,J,wkA [(0,0),(1,3)] [] []⟩
   intro z hb;subst hb;refine qx<|O J<|U _ J<|qa J<|qu<|⟨_,qn q,wkA [(0,0),(1,1)] [] []⟩
  refine Q8 ?_;refine ⟨_,qn q,fun hm=>?_⟩;subst hm;exact ⟨_,J,wkA [(0,1)] [] []⟩
 intro y hb;subst hb;refine qd<|O J<|qa J<|qa J<|qz ?_;cases f;exact finD (.inr J) J (q8z (U5 (Jc J J) (U5 J J))) (.refl _)
theorem qxt (c : List qf) (r : Bool) (a : q9v c = some r) : Pure Try.prog tab 3 [.sl 6 (c.map Q5)] (.bool r):=by
 unfold q9v at a;refine Qy Try.func3 J qg qg J<|qd<|qa J<|q9<|qe<|qd<|O J<|q7 a fun t u a=>Qk (qqu c t u) J<|q9 ?_;refine qo J a (fun _ a=>?_) (fun _ a=>?_)
 ·refine qd<|qa J<|qz ?_;cases a;exact Qh _ J
 refine qq<|qd<|O J<|q7 a fun g v a=>Qk (qw5 c g v) J<|O J<|U _ J<|U _ J<|qa J<|qa J<|qy<|O J<|q7 a fun h w a=>Qk (qqw c h w) J<|O J<|U _ J<|U _ J<|qa J<|qa J<|q9<|qe<|qd<|O J<|O J<|U _ J<|q7 a fun x f a=>?_;refine Qi 7 (fun A st=>∃ k l m n o p,st = A [(29,Q3 x),(28,p),(27,o),(26,n),(25,m),(24,l),(23,k)]) ?_ ?_
 ·refine Qj J J f (fun f=>?_) (fun f=>?_)
  ·refine qc J<|qc J<|qc J<|qc J<|qc J<|U _ J<|q9 ?_;cases f;exact ⟨_,_,_,_,_,_,J⟩
  refine O J<|Qq J<|O J<|Qq J<|U _ J<|U _ J<|q9 ?_;cases f;exact ⟨_,_,_,_,_,_,J⟩
 rintro _ ⟨k,l,m,n,o,p,rfl⟩;refine q9 ?_;refine qo J a (fun _ a=>?_) (fun _ a=>?_)
 ·refine qd<|qa J<|qz ?_;cases a;exact Qh _ J
 refine qq<|qe<|qd<|qa J<|q9<|q7 a fun q y a=>?_;refine Qf (fun j=>.inl j = q) (fun j=>⟨[],[],0⟩) qb ?_ ?_
 ·refine Qb (q4h g h) (fun s=>⟨[(3,.d (.sl 1 (g.1.map K8))),(5,.d (.sl 1 (h.1.map K8))),(7,q8 s)],[],0⟩) _ q y (wkA [] [] []) ?_;intro s af b;unfold q4h at b;refine qe<|qd<|O J<|O J<|Qq J<|U _ J<|q9 ?_;refine qo J b (fun _ b=>?_) (fun _ b=>?_)
  ·refine qq<|qe<|Q4<|qe<|Qa [q0,q0,q0,q0,q0,q0,q0,q0,q0,q0] qg<|O J<|O J<|q7 b fun z aa b=>Qd aa J<|U _ J<|O J<|O J<|q7 b fun ab ac b=>Qd ac J<|U _ J<|q7 b fun ad ae b=>Qk (qik z ab ad ae) J<|U _ J<|q9 ?_;refine qo J b (fun _ b=>?_) (fun _ b=>?_)
   ·refine qd<|qa J<|qz ?_;refine ⟨_,qn b,fun hm=>?_⟩;subst hm;cases a;exact Qh _ J
   refine qq<|Qg<|Qm<|qx<|O J<|U _ J<|qa J<|qu<|⟨_,qn b,wkA [] [] []⟩
  refine Q8 ?_;refine ⟨_,qn b,fun hm=>?_⟩;subst hm;exact ⟨_,J,wkA [] [] []⟩
 intro j hb;subst hb;refine qd<|qa J<|qz ?_;cases a;exact Qh _ J
end Go.Proofs.Ytiejlbckgihckaa
