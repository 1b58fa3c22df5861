/- W_Alla -/
import Derived.Test.YtjjmcdlnadkjbaaGreatK13
namespace Go.Proofs.YtjjmcdlnadkjbaaGreat
open Go Go.Am Go.Sh
set_option maxHeartbeats 8000000
set_option maxRecDepth 100000
theorem qlc (a : List q8) (r : Bool) (b : qdx a = some r) : Pure Tryz.prog tab 12 [.sl 6 (a.map qf)] (.bool r):=by
 unfold qdx at b
 refine qn Tryz.func12 ee (by kernel_rfl) (by kernel_rfl) ee<|sr_<|as_ ee<|qs<|mv_ ee<|ln_ ee<|v_ (.d (.bool (decide ((a.length : Int) > 30)))) ee ?_
 obtain ⟨q,c,b⟩:=q6 b
 refine qq 5 (fun A st=>∃ (g h j k : V),st = A [(10,db_ q),(9,k),(8,j),(7,h),(6,g)]) ?_ ?_
 ·refine qu ee ee c (fun c=>?_) (fun c=>?_)
  ·refine mv_ ee<|ln_ ee<|v_ (.d (.bool (decide ((a.length : Int)≤400)))) ee<|v_ (.d (.bool (decide ((a.length : Int)≤400)))) ee<|q0 ?_
   obtain rfl:=q9 c
   exact ⟨_,_,_,_,ee⟩
  refine q7 ee<|q7 ee<|q7 ee<|v_ (db_ false) ee<|q0 ?_
  obtain rfl:=q9 c
  exact ⟨_,_,_,_,ee⟩
 rintro _ ⟨g,h,j,k,rfl⟩
 obtain ⟨l,f,b⟩:=q6 b
 refine qq 5 (fun A st=>∃ (m n o p : V),st = A [(15,db_ l),(14,p),(13,o),(12,n),(11,m)]) ?_ ?_
 ·refine qu ee ee f (fun f=>?_) (fun f=>?_)
  ·refine q7 ee<|q7 ee<|q7 ee<|v_ (db_ true) ee<|q0 ?_
   obtain rfl:=q9 f
   exact ⟨_,_,_,_,ee⟩
  refine mv_ ee<|ln_ ee<|v_ (.d (.bool (decide ((a.length : Int) > 420)))) ee<|v_ (.d (.bool (decide ((a.length : Int) > 420)))) ee<|q0 ?_
  obtain rfl:=q9 f
  exact ⟨_,_,_,_,ee⟩
 rintro _ ⟨m,n,o,p,rfl⟩
 refine as_ ee<|nt_ ?_
 obtain rfl:=q9 b
 exact fR_ (db_ l) ee
theorem qw9 (a : List q8) (r : List q8) (b : qh2 a = some r) : Pure Tryz.prog tab 13 [.sl 6 (a.map qf)] (.sl 6 (r.map qf)):=by
 unfold qh2 at b
 refine qn Tryz.func13 ee (by kernel_rfl) (by kernel_rfl) ee<|sr_<|as_ ee<|qs<|q20 (.hs 0 6 0 ([] : List q8).length) (.dat 6 (([] : List q8).map qf)) ee<|mv_ ee ?_
 obtain ⟨c,f,b⟩:=q6 b
 refine q7c (xs:=[]) (ys:=a) (enc:=qf) (.d (.sl 6 (a.map qf))) f ee ee ee ee ee ee ee q113 ee ee ee ee<|as_ ee<|nt_ ?_
 obtain rfl:=q9 b
 exact finD (.inr ee) (v:=.hs 1 6 0 c.length) ee (qc1 ee ee) (.refl _)
theorem qd0 (f : List q8) (j : q8→Option Bool) (p1F : FuncId) (p1C : List DV) (p1Ok : ∀ (c : q8) (r : Bool),j c = some r→Pure Tryz.prog tab p1F ([.agg [i_ c.Lo.X,i_ c.Lo.Y,i_ c.Lo.Z,i_ c.Hi.X,i_ c.Hi.Y,i_ c.Hi.Z]] ++ p1C) (.bool r)) (r : Int) (g : q5s f j = some r) : Pure Tryz.prog tab 80 [.sl 6 (f.map qf),.fn p1F p1C] (i_ r):=by
 unfold q5s at g
 refine qn Tryz.func80 ee (by kernel_rfl) (by kernel_rfl) ee<|sr_<|as_ ee<|q0<|qa<|sr_<|mv_ ee<|ln_ ee<|mv_ ee<|q0 ?_
 obtain ⟨l,m,g⟩:=q6 g
 refine qp (fun k=>.inl k = l) (fun (k : Unit)=>⟨[],[],0⟩) (by simp) ?_ ?_
 ·refine qt (q22 f j) (fun (h : Int)=>⟨[(0,.d (.sl 6 (f.map qf))),(1,.d (.fn p1F p1C)),(7,di_ (f.length : Int)),(8,di_ h)],[],0⟩) 0 l m (wkA [] [] []) ?_
  intro h q a
  unfold q22 at a
  refine sr_<|v_ (.d (.bool (decide (h < (f.length : Int))))) ee<|q0<|qa ?_
  refine qg ee a (fun _ a=>?_) (fun _ a=>?_)
  ·refine qh<|qa<|ql<|sr_<|mv_ ee<|as_ ee<|qs<|mv_ ee<|mv_ ee<|mv_ ee ?_
   obtain ⟨b,n,a⟩:=q6 a
   refine ix_ (enc:=qf) n ee<|v_ (.d (.agg [i_ b.Lo.X,i_ b.Lo.Y,i_ b.Lo.Z,i_ b.Hi.X,i_ b.Hi.Y,i_ b.Hi.Z])) ee ?_
   obtain ⟨o,p,a⟩:=q6 a
   refine q81 [.d (.agg [i_ b.Lo.X,i_ b.Lo.Y,i_ b.Lo.Z,i_ b.Hi.X,i_ b.Hi.Y,i_ b.Hi.Z])] (p1Ok b o p) ee ee ee (.inl ee)<|q0 ?_
   refine qg ee a (fun _ a=>?_) (fun _ a=>?_)
   ·refine sr_<|mv_ ee<|as_ ee<|nt_ ?_
    refine ⟨_,(Option.some.inj a).symm,fun hm=>?_⟩
    subst hm
    obtain rfl:=q9 g
    exact fR_ (di_ h) ee
   refine qh<|qz<|qw<|qi<|v_ (.d (i_ (w64 (h + 1)))) ee<|mv_ ee<|nl_ ?_
   exact ⟨_,(Option.some.inj a).symm,wkA [] [] []⟩
  refine qv ?_
  refine ⟨_,(Option.some.inj a).symm,fun hm=>?_⟩
  subst hm
  exact ⟨_,ee,wkA [] [] []⟩
 intro k hb
 subst hb
 refine sr_<|as_ ee<|nt_ ?_
 obtain rfl:=q9 g
 exact fR_ (di_ (-1)) ee
theorem qbq (c : List q8) (f : q8→Option Bool) (p1F : FuncId) (p1C : List DV) (p1Ok : ∀ (a : q8) (r : Bool),f a = some r→Pure Tryz.prog tab p1F ([.agg [i_ a.Lo.X,i_ a.Lo.Y,i_ a.Lo.Z,i_ a.Hi.X,i_ a.Hi.Y,i_ a.Hi.Z]] ++ p1C) (.bool r)) (r : Bool) (b : q46 c f = some r) : Pure Tryz.prog tab 50 [.sl 6 (c.map qf),.fn p1F p1C] (.bool r):=by
 unfold q46 at b
 refine qn Tryz.func50 ee (by kernel_rfl) (by kernel_rfl) ee<|sr_<|as_ ee<|qs<|mv_ ee<|mv_ ee ?_
 obtain ⟨g,h,b⟩:=q6 b
 refine pc_ (qd0 c f p1F p1C p1Ok g h) ee<|v_ (.d (.bool (decide (g ≥ 0)))) ee<|as_ ee<|nt_ ?_
 obtain rfl:=q9 b
 exact fR_ (.d (.bool (decide (g ≥ 0)))) ee
theorem qk5 (a : qk) (r : Bool) (c : qd1 a = some r) : Pure Tryz.prog tab 81 [.agg [i_ a.X,i_ a.Y,i_ a.Z]] (.bool r):=by
 unfold qd1 at c
 refine qn Tryz.func81 ee (by kernel_rfl) (by kernel_rfl) ee<|sr_<|q20 (.ref 0 3 0 0) (.dat 3 [[i_ a.X,i_ a.Y,i_ a.Z]]) ee<|as_ ee<|qs<|v_ (.ref 0 3 0 0) ee<|v_ (di_ a.X) ee<|v_ (.ref 0 3 0 1) ee<|v_ (di_ a.Y) ee<|v_ (.ref 0 3 0 2) ee<|v_ (di_ a.Z) ee<|qcd (r:=min (min a.X a.Y) a.Z) ee ee (by simp only [q94];rfl)<|v_ (.d (.bool (decide ((min (min a.X a.Y) a.Z) ≥ (-1000000))))) ee ?_
 obtain ⟨f,b,c⟩:=q6 c
 refine qq 10 (fun A st=>∃ (g h j k l m n o p : V),st = A [(20,db_ f),(19,p),(18,o),(17,n),(16,m),(15,l),(14,k),(13,j),(12,h),(11,g)]) ?_ ?_
 ·refine qu ee ee b (fun b=>?_) (fun b=>?_)
  ·refine v_ (.ref 0 3 0 0) ee<|v_ (di_ a.X) ee<|v_ (.ref 0 3 0 1) ee<|v_ (di_ a.Y) ee<|v_ (.ref 0 3 0 2) ee<|v_ (di_ a.Z) ee<|qcc (r:=max (max a.X a.Y) a.Z) ee ee (by simp only [q93];rfl)<|v_ (.d (.bool (decide ((max (max a.X a.Y) a.Z)≤1000000)))) ee<|v_ (.d (.bool (decide ((max (max a.X a.Y) a.Z)≤1000000)))) ee<|q0 ?_
   obtain rfl:=q9 b
   exact ⟨_,_,_,_,_,_,_,_,_,ee⟩
  refine q7 ee<|q7 ee<|q7 ee<|q7 ee<|q7 ee<|q7 ee<|q7 ee<|q7 ee<|v_ (db_ false) ee<|q0 ?_
  obtain rfl:=q9 b
  exact ⟨_,_,_,_,_,_,_,_,_,ee⟩
 rintro _ ⟨g,h,j,k,l,m,n,o,p,rfl⟩
 refine as_ ee<|nt_ ?_
 obtain rfl:=q9 c
 exact fR_ (db_ f) ee
theorem qiu (a : q8) (r : Bool) (b : qbn a = some r) : Pure Tryz.prog tab 52 [.agg [i_ a.Lo.X,i_ a.Lo.Y,i_ a.Lo.Z,i_ a.Hi.X,i_ a.Hi.Y,i_ a.Hi.Z]] (.bool r):=by
 unfold qbn at b
 refine qn Tryz.func52 ee (by kernel_rfl) (by kernel_rfl) ee<|sr_<|q20 (.ref 0 6 0 0) (.dat 6 [[i_ a.Lo.X,i_ a.Lo.Y,i_ a.Lo.Z,i_ a.Hi.X,i_ a.Hi.Y,i_ a.Hi.Z]]) ee<|as_ ee<|qs<|v_ (.ref 0 6 0 0) ee<|v_ (.ref 0 6 0 0) ee<|v_ (di_ a.Lo.X) ee<|v_ (.ref 0 6 0 3) ee<|v_ (.ref 0 6 0 3) ee<|v_ (di_ a.Hi.X) ee<|v_ (.d (.bool (decide (a.Lo.X < a.Hi.X)))) ee ?_
 obtain ⟨c1,g,b⟩:=q6 b
 refine qq 9 (fun A st=>∃ (j k l m n o p q : V),st = A [(18,db_ c1),(17,q),(16,p),(15,o),(14,n),(13,m),(12,l),(11,k),(10,j)]) ?_ ?_
 ·refine qu ee ee g (fun g=>?_) (fun g=>?_)
  ·refine v_ (.ref 0 6 0 0) ee<|v_ (.ref 0 6 0 1) ee<|v_ (di_ a.Lo.Y) ee<|v_ (.ref 0 6 0 3) ee<|v_ (.ref 0 6 0 4) ee<|v_ (di_ a.Hi.Y) ee<|v_ (.d (.bool (decide (a.Lo.Y < a.Hi.Y)))) ee<|v_ (.d (.bool (decide (a.Lo.Y < a.Hi.Y)))) ee<|q0 ?_
   obtain rfl:=q9 g
   exact ⟨_,_,_,_,_,_,_,_,ee⟩
  refine q7 ee<|q7 ee<|q7 ee<|q7 ee<|q7 ee<|q7 ee<|q7 ee<|v_ (db_ false) ee<|q0 ?_
  obtain rfl:=q9 g
  exact ⟨_,_,_,_,_,_,_,_,ee⟩
 rintro _ ⟨j,k,l,m,n,o,p,q,rfl⟩
 obtain ⟨am,h,b⟩:=q6 b
 refine qq 9 (fun A st=>∃ (s t u v w x y z : V),st = A [(27,db_ am),(26,z),(25,y),(24,x),(23,w),(22,v),(21,u),(20,t),(19,s)]) ?_ ?_
 ·refine qu ee ee h (fun h=>?_) (fun h=>?_)
  ·refine v_ (.ref 0 6 0 0) ee<|v_ (.ref 0 6 0 2) ee<|v_ (di_ a.Lo.Z) ee<|v_ (.ref 0 6 0 3) ee<|v_ (.ref 0 6 0 5) ee<|v_ (di_ a.Hi.Z) ee<|v_ (.d (.bool (decide (a.Lo.Z < a.Hi.Z)))) ee<|v_ (.d (.bool (decide (a.Lo.Z < a.Hi.Z)))) ee<|q0 ?_
   obtain rfl:=q9 h
   exact ⟨_,_,_,_,_,_,_,_,ee⟩
  refine q7 ee<|q7 ee<|q7 ee<|q7 ee<|q7 ee<|q7 ee<|q7 ee<|v_ (db_ false) ee<|q0 ?_
  obtain rfl:=q9 h
  exact ⟨_,_,_,_,_,_,_,_,ee⟩
 rintro _ ⟨s,t,u,v,w,x,y,z,rfl⟩
 obtain ⟨an,c,b⟩:=q6 b
 refine qq 5 (fun A st=>∃ (aa ab ac ad : V),st = A [(32,db_ an),(31,ad),(30,ac),(29,ab),(28,aa)]) ?_ ?_
 ·refine qu ee ee c (fun c=>?_) (fun c=>?_)
  ·refine v_ (.ref 0 6 0 0) ee<|v_ (.d (.agg [i_ a.Lo.X,i_ a.Lo.Y,i_ a.Lo.Z])) ee ?_
   obtain ⟨ae,ao,c⟩:=q6 c
   refine pc_ (qk5 a.Lo ae ao) ee<|v_ (db_ ae) ee<|q0 ?_
   obtain rfl:=q9 c
   exact ⟨_,_,_,_,ee⟩
  refine q7 ee<|q7 ee<|q7 ee<|v_ (db_ false) ee<|q0 ?_
  obtain rfl:=q9 c
  exact ⟨_,_,_,_,ee⟩
 rintro _ ⟨aa,ab,ac,ad,rfl⟩
 obtain ⟨af,f,b⟩:=q6 b
 refine qq 5 (fun A st=>∃ (ag ah ai aj : V),st = A [(37,db_ af),(36,aj),(35,ai),(34,ah),(33,ag)]) ?_ ?_
 ·refine qu ee ee f (fun f=>?_) (fun f=>?_)
  ·refine v_ (.ref 0 6 0 3) ee<|v_ (.d (.agg [i_ a.Hi.X,i_ a.Hi.Y,i_ a.Hi.Z])) ee ?_
   obtain ⟨ak,ap,f⟩:=q6 f
   refine pc_ (qk5 a.Hi ak ap) ee<|v_ (db_ ak) ee<|q0 ?_
   obtain rfl:=q9 f
   exact ⟨_,_,_,_,ee⟩
  refine q7 ee<|q7 ee<|q7 ee<|v_ (db_ false) ee<|q0 ?_
  obtain rfl:=q9 f
  exact ⟨_,_,_,_,ee⟩
 rintro _ ⟨ag,ah,ai,aj,rfl⟩
 refine as_ ee<|nt_ ?_
 obtain rfl:=q9 b
 exact fR_ (db_ af) ee
theorem qpt (a : q8) (r : Bool) (b : q80 a = some r) : Pure Tryz.prog tab 51 [.agg [i_ a.Lo.X,i_ a.Lo.Y,i_ a.Lo.Z,i_ a.Hi.X,i_ a.Hi.Y,i_ a.Hi.Z]] (.bool r):=by
 unfold q80 at b
 refine qn Tryz.func51 ee (by kernel_rfl) (by kernel_rfl) ee<|sr_<|q20 (.ref 0 6 0 0) (.dat 6 [[i_ a.Lo.X,i_ a.Lo.Y,i_ a.Lo.Z,i_ a.Hi.X,i_ a.Hi.Y,i_ a.Hi.Z]]) ee<|as_ ee<|qs<|v_ (.d (.agg [i_ a.Lo.X,i_ a.Lo.Y,i_ a.Lo.Z,i_ a.Hi.X,i_ a.Hi.Y,i_ a.Hi.Z])) ee ?_
 obtain ⟨c,f,b⟩:=q6 b
 refine pc_ (qiu a c f) ee<|v_ (db_ (!c)) ee<|as_ ee<|nt_ ?_
 obtain rfl:=q9 b
 exact fR_ (db_ (!c)) ee
theorem ql3 (k : Int) (r : Int) (a : q6i k = some r) : Pure Tryz.prog tab 154 [.int .u64 k] (i_ r):=by
 unfold q6i at a
 refine qn Tryz.func154 ee (by kernel_rfl) (by kernel_rfl) ee<|sr_<|as_ ee<|q0<|qa<|sr_<|mv_ ee<|v_ (.d (.bool (decide (k ≥ 4294967296)))) ee<|q0 ?_
 obtain ⟨m,g,a⟩:=q6 a
 refine q74 (fun b=>b = m) (fun (b : Int × Int)=>⟨[(0,.d (.int .u64 b.1)),(2,di_ b.2)],[],0⟩) (by simp) ?_ ?_
 ·refine qg ee g (fun _ g=>?_) (fun _ g=>?_)
  ·refine sr_<|mv_ ee<|v_ (.d (.int .u64 (Int.fdiv k (2 ^ 32)))) ee<|as_ ee<|q0<|qi<|as_ ee<|nl_ ?_
   obtain rfl:=q9 g
   exact ⟨_,ee,wkA [] [] []⟩
  refine qh<|qz ?_
  obtain rfl:=q9 g
  exact ⟨_,ee,wkA [] [] []⟩
 intro b hb
 subst hb
 refine qa<|sr_<|mv_ ee<|v_ (.d (.bool (decide (b.1 ≥ 65536)))) ee<|q0 ?_
 obtain ⟨n,h,a⟩:=q6 a
 refine q74 (fun c=>c = n) (fun (c : Int × Int)=>⟨[(0,.d (.int .u64 c.1)),(2,di_ c.2)],[],0⟩) (by simp) ?_ ?_
 ·refine qg ee h (fun _ h=>?_) (fun _ h=>?_)
  ·refine sr_<|mv_ ee<|v_ (.d (.int .u64 (Int.fdiv b.1 (2 ^ 16)))) ee<|as_ ee<|q0<|qi<|mv_ ee<|v_ (.d (i_ (w64 (b.2 + 16)))) ee<|as_ ee<|nl_ ?_
   obtain rfl:=q9 h
   exact ⟨_,ee,wkA [] [] []⟩
  refine qh<|qz ?_
  obtain rfl:=q9 h
  exact ⟨_,ee,wkA [] [] []⟩
 intro c hb
 subst hb
 refine qa<|sr_<|mv_ ee<|v_ (.d (.bool (decide (c.1 ≥ 256)))) ee<|q0 ?_
 obtain ⟨o,j,a⟩:=q6 a
 refine q74 (fun f=>f = o) (fun (f : Int × Int)=>⟨[(0,.d (.int .u64 f.1)),(2,di_ f.2)],[],0⟩) (by simp) ?_ ?_
 ·refine qg ee j (fun _ j=>?_) (fun _ j=>?_)
  ·refine sr_<|mv_ ee<|v_ (.d (.int .u64 (Int.fdiv c.1 (2 ^ 8)))) ee<|as_ ee<|q0<|qi<|mv_ ee<|v_ (.d (i_ (w64 (c.2 + 8)))) ee<|as_ ee<|nl_ ?_
   obtain rfl:=q9 j
   exact ⟨_,ee,wkA [] [] []⟩
  refine qh<|qz ?_
  obtain rfl:=q9 j
  exact ⟨_,ee,wkA [] [] []⟩
 intro f hb
 subst hb
 refine sr_<|mv_ ee<|mv_ ee<|v_ (.d (.int .u8 (IntKind.wrap .u8 f.1))) ee ?_
 obtain ⟨l,p,a⟩:=q6 a
 refine q145 q9c p ee ee ee ee ee<|v_ (di_ (w64 l)) ee<|v_ (.d (i_ (w64 (f.2 + (w64 l))))) ee<|as_ ee<|nt_ ?_
 obtain rfl:=q9 a
 exact fR_ (.d (i_ (w64 (f.2 + (w64 l))))) ee
theorem qdp (b : Int) (r : Int) (a : q68 b = some r) : Pure Tryz.prog tab 133 [.int .u64 b] (i_ r):=by
 unfold q68 at a
 refine qn Tryz.func133 ee (by kernel_rfl) (by kernel_rfl) ee<|sr_<|as_ ee<|q0<|qa<|qa6 ee<|qh<|sr_<|mv_ ee ?_
 obtain ⟨c,d,a⟩:=q6 a
 refine pc_ (ql3 b c d) ee<|as_ ee<|nt_ ?_
 obtain rfl:=q9 a
 exact fR_ (di_ c) ee
theorem qgm (a : Int) (r : Bool) (b : qb6 a = some r) : Pure Tryz.prog tab 163 [i_ a] (.bool r):=by
 unfold qb6 at b
 refine qn Tryz.func163 ee (by kernel_rfl) (by kernel_rfl) ee<|sr_<|as_ ee<|qs<|mv_ ee<|mv_ ee<|v_ (db_ (a != a)) ee<|as_ ee<|nt_ ?_
 obtain rfl:=q9 b
 exact fR_ (db_ (a != a)) ee
theorem q3n (c : Int) (f : Int) (r : Bool) (a : q3g c f = some r) : Pure Tryz.prog tab 150 [i_ c,i_ f] (.bool r):=by
 unfold q3g at a
 refine qn Tryz.func150 ee (by kernel_rfl) (by kernel_rfl) ee<|sr_<|as_ ee<|qs<|mv_ ee ?_
 obtain ⟨t,u,a⟩:=q6 a
 refine pc_ (qgm c t u) ee ?_
 obtain ⟨v,b,a⟩:=q6 a
 refine qq 5 (fun A st=>∃ (j k l m : V),st = A [(11,db_ v),(10,m),(9,l),(8,k),(7,j)]) ?_ ?_
 ·refine qu ee ee b (fun b=>?_) (fun b=>?_)
  ·refine mv_ ee ?_
   obtain ⟨h,w,b⟩:=q6 b
   refine pc_ (qgm f h w) ee<|v_ (db_ (!h)) ee<|v_ (db_ (!h)) ee<|q0 ?_
   obtain rfl:=q9 b
   exact ⟨_,_,_,_,ee⟩
  refine q7 ee<|q7 ee<|q7 ee<|v_ (db_ false) ee<|q0 ?_
  obtain rfl:=q9 b
  exact ⟨_,_,_,_,ee⟩
 rintro _ ⟨j,k,l,m,rfl⟩
 obtain ⟨n,g,a⟩:=q6 a
 refine qq 5 (fun A st=>∃ (o p q s : V),st = A [(16,db_ n),(15,s),(14,q),(13,p),(12,o)]) ?_ ?_
 ·refine qu ee ee g (fun g=>?_) (fun g=>?_)
  ·refine q7 ee<|q7 ee<|q7 ee<|v_ (db_ true) ee<|q0 ?_
   obtain rfl:=q9 g
   exact ⟨_,_,_,_,ee⟩
  refine mv_ ee<|mv_ ee<|v_ (.d (.bool (decide (c < f)))) ee<|v_ (.d (.bool (decide (c < f)))) ee<|q0 ?_
  obtain rfl:=q9 g
  exact ⟨_,_,_,_,ee⟩
 rintro _ ⟨o,p,q,s,rfl⟩
 refine as_ ee<|nt_ ?_
 obtain rfl:=q9 a
 exact fR_ (db_ n) ee
theorem qbu (l : List Int) (c : Int) (j : Int) (r : List Int) (m : q2z  l c j = some r) : q1j Tryz.prog tab 144 [.hs 0 1 0 l.length,di_ c,di_ j] [(0,.dat 1 (l.map (eI .i64)))] 1 (.d (.tup [])) [(0,.dat 1 (r.map (eI .i64)))] 1:=by
 unfold q2z at m
 refine q1a Tryz.func144 ee (by kernel_rfl) (by kernel_rfl) ee<|sr_<|mv_ ee<|v_ (.d (i_ (w64 (c + 1)))) ee<|as_ ee<|q0 ?_
 obtain ⟨al,am,m⟩:=q6 m
 refine ql<|qt (q2d j c) (fun (f : Int × List Int)=>⟨[(0,.hs 0 1 0 f.2.length),(1,di_ c),(2,di_ j),(6,di_ f.1)],[(0,.dat 1 (f.2.map (eI .i64)))],1⟩) (w64 (c + 1),l) al am (wkA [] [] []) ?_
 intro f au h
 unfold q2d at h
 refine qa<|sr_<|mv_ ee<|mv_ ee<|v_ (.d (.bool (decide (f.1 < j)))) ee<|q0 ?_
 refine qg ee h (fun _ h=>?_) (fun _ h=>?_)
 ·refine qh<|qa ?_
  obtain ⟨an,n,h⟩:=q6 h
  refine qp (fun k=>k = an) (fun (k : List Int)=>⟨[(0,.hs 0 1 0 k.length),(1,di_ c),(2,di_ j),(6,di_ f.1)],[(0,.dat 1 (k.map (eI .i64)))],1⟩) (by simp) ?_ ?_
  ·refine sr_<|mv_ ee<|as_ ee<|q0 ?_
   obtain ⟨ao,ap,n⟩:=q6 n
   refine ql<|qt (q2e c) (fun (g : Int × List Int)=>⟨[(0,.hs 0 1 0 g.2.length),(1,di_ c),(2,di_ j),(6,di_ f.1),(7,di_ g.1)],[(0,.dat 1 (g.2.map (eI .i64)))],1⟩) (f.1,f.2) ao ap (wkA [] [] []) ?_
   intro g av a
   unfold q2e at a
   refine qa<|qa<|qm [(some [],[]),(some [],[]),(some [0],[]),(some [],[]),(some [],[]),(some [],[]),(some [],[]),(some [0],[]),(some [],[]),(some [],[]),(some [],[]),(some [],[]),(some [],[]),(some [],[]),(some [],[])] (by kernel_rfl)<|mv_ ee<|mv_ ee<|v_ (.d (.bool (decide (g.1 > c)))) ee ?_
   obtain ⟨aq,b,a⟩:=q6 a
   refine qq 12 (fun A st=>∃ (q s t u v w x y z aa ab : V),st = A [(30,db_ aq),(29,ab),(28,aa),(27,z),(26,y),(25,x),(24,w),(23,v),(22,u),(21,t),(20,s),(19,q)]) ?_ ?_
   ·refine qu ee ee b (fun b=>?_) (fun b=>?_)
    ·refine mv_ ee<|mv_ ee ?_
     obtain ⟨ac,ad,b⟩:=q6 b
     refine ih_ ad ee ee<|lh_ (di_ ac) ad ee<|mv_ ee<|mv_ ee<|v_ (.d (i_ (w64 (g.1 - 1)))) ee ?_
     obtain ⟨ae,af,b⟩:=q6 b
     refine ih_ af ee ee<|lh_ (di_ ae) af ee ?_
     obtain ⟨ag,ar,b⟩:=q6 b
     refine pc_ (q3n ac ae ag ar) ee<|v_ (db_ ag) ee<|q0 ?_
     obtain rfl:=q9 b
     exact ⟨_,_,_,_,_,_,_,_,_,_,_,ee⟩
    refine q7 ee<|q7 ee<|q7 ee<|q7 ee<|q7 ee<|q7 ee<|q7 ee<|q7 ee<|q7 ee<|q7 ee<|v_ (db_ false) ee<|q0 ?_
    obtain rfl:=q9 b
    exact ⟨_,_,_,_,_,_,_,_,_,_,_,ee⟩
   rintro _ ⟨q,s,t,u,v,w,x,y,z,aa,ab,rfl⟩
   refine q0 ?_
   refine qg ee a (fun _ a=>?_) (fun _ a=>?_)
   ·refine qh<|qa<|ql<|qm [(some [0],[0]),(some [],[]),(some [0],[0]),(some [],[]),(some [0],[]),(some [],[]),(some [],[]),(some [],[]),(some [0],[]),(some [],[]),(some [],[]),(some [],[]),(some [],[]),(some [],[]),(some [],[]),(some [],[]),(some [],[]),(some [],[])] (by kernel_rfl)<|mv_ ee<|mv_ ee<|mv_ ee<|mv_ ee<|v_ (.d (i_ (w64 (g.1 - 1)))) ee<|mv_ ee<|mv_ ee<|v_ (.d (i_ (w64 (g.1 - 1)))) ee ?_
    obtain ⟨o,ah,a⟩:=q6 a
    refine ih_ ah ee ee<|lh_ (di_ o) ah ee<|mv_ ee<|mv_ ee ?_
    obtain ⟨p,ai,a⟩:=q6 a
    refine ih_ ai ee ee<|lh_ (di_ p) ai ee ?_
    obtain ⟨aw,aj,a⟩:=q6 a
    refine ih_ aj ee ee<|q18 (ds:=[i_ o]) o aj ee ee ee ee ee ee ee ee (leb ee) ee ?_
    obtain ⟨ax,ak,a⟩:=q6 a
    refine ih_ ak (by simp) ee<|q18 (ds:=[i_ p]) p ak ee ee ee ee ee ee ee ee (leb ee) ee<|nl_<|qw<|qi<|mv_ ee<|v_ (.d (i_ (w64 (g.1 - 1)))) ee<|as_ ee<|nl_ ?_
    exact ⟨_,(Option.some.inj a).symm,wkE [] [] [] ee ⟨⟨_,ee,q16 (by simp) ee (by decide) (ltd ee)⟩,⟨_,ee,.d (.refl _)⟩,⟨_,ee,.d (.refl _)⟩,⟨_,ee,.d (.refl _)⟩,⟨_,ee,.d (.refl _)⟩,trivial⟩ ⟨⟨ltd ee,.inr ⟨by decide,_,ee,.dat _ _⟩⟩,trivial⟩⟩
   refine qv ?_
   refine ⟨_,(Option.some.inj a).symm,fun hm=>?_⟩
   subst hm
   obtain rfl:=q9 n
   exact ⟨_,ee,wkA [] [] []⟩
  intro k hb
  subst hb
  refine qi<|mv_ ee<|v_ (.d (i_ (w64 (f.1 + 1)))) ee<|as_ ee<|nl_ ?_
  exact ⟨_,(Option.some.inj h).symm,wkA [] [] []⟩
 refine qv ?_
 refine ⟨_,(Option.some.inj h).symm,fun hm=>?_⟩
 subst hm
 obtain rfl:=q9 m
 exact ⟨.inl ee,_,ee,wkA [] [] []⟩
theorem q8s (l : List Int) (m : Int) (g : Int) (c : Int) (r : List Int) (j : q35  l m g c = some r) : q1j Tryz.prog tab 158 [.hs 0 1 0 l.length,di_ m,di_ g,di_ c] [(0,.dat 1 (l.map (eI .i64)))] 1 (.d (.tup [])) [(0,.dat 1 (r.map (eI .i64)))] 1:=by
 unfold q35 at j
 refine q1a Tryz.func158 ee (by kernel_rfl) (by kernel_rfl) ee<|sr_<|mv_ ee<|as_ ee<|q0 ?_
 obtain ⟨av,aw,j⟩:=q6 j
 refine ql<|qt (q3v g c) (fun (b : Int × List Int)=>⟨[(0,.hs 0 1 0 b.2.length),(2,di_ g),(3,di_ c),(8,di_ b.1)],[(0,.dat 1 (b.2.map (eI .i64)))],1⟩) (m,l) av aw (wkA [] [] []) ?_
 intro b bb a
 unfold q3v at a
 refine ql<|sr_<|mv_ ee<|v_ (.d (i_ (w64 (2 * b.1)))) ee<|v_ (.d (i_ (w64 ((w64 (2 * b.1)) + 1)))) ee<|as_ ee<|q0<|qa<|sr_<|mv_ ee<|mv_ ee<|v_ (.d (.bool (decide ((w64 ((w64 (2 * b.1)) + 1)) ≥ g)))) ee<|q0 ?_
 refine qg ee a (fun _ a=>?_) (fun _ a=>?_)
 ·refine qv ?_
  refine ⟨_,(Option.some.inj a).symm,fun hm=>?_⟩
  subst hm
  obtain rfl:=q9 j
  exact ⟨.inl ee,_,ee,wkA [] [] []⟩
 refine qh<|qa<|qa<|qm [(some [],[]),(some [],[]),(some [0],[]),(some [],[]),(some [],[]),(some [],[]),(some [],[]),(some [],[]),(some [],[]),(some [0],[]),(some [],[]),(some [],[]),(some [],[]),(some [],[]),(some [],[]),(some [],[]),(some [],[]),(some [],[]),(some [],[]),(some [],[])] (by kernel_rfl)<|mv_ ee<|v_ (.d (i_ (w64 ((w64 ((w64 (2 * b.1)) + 1)) + 1)))) ee<|mv_ ee<|v_ (.d (.bool (decide ((w64 ((w64 ((w64 (2 * b.1)) + 1)) + 1)) < g)))) ee ?_
 obtain ⟨ax,f,a⟩:=q6 a
 refine qq 16 (fun A st=>∃ (p q s t u v w x y z aa ab ac ad ae : V),st = A [(36,db_ ax),(35,ae),(34,ad),(33,ac),(32,ab),(31,aa),(30,z),(29,y),(28,x),(27,w),(26,v),(25,u),(24,t),(23,s),(22,q),(21,p)]) ?_ ?_
 ·refine qu ee ee f (fun f=>?_) (fun f=>?_)
  ·refine mv_ ee<|mv_ ee<|mv_ ee<|v_ (.d (i_ (w64 (c + (w64 ((w64 (2 * b.1)) + 1)))))) ee ?_
   obtain ⟨af,ag,f⟩:=q6 f
   refine ih_ ag ee ee<|lh_ (di_ af) ag ee<|mv_ ee<|mv_ ee<|mv_ ee<|v_ (.d (i_ (w64 (c + (w64 ((w64 (2 * b.1)) + 1)))))) ee<|v_ (.d (i_ (w64 ((w64 (c + (w64 ((w64 (2 * b.1)) + 1)))) + 1)))) ee ?_
   obtain ⟨ah,ai,f⟩:=q6 f
   refine ih_ ai ee ee<|lh_ (di_ ah) ai ee ?_
   obtain ⟨aj,ay,f⟩:=q6 f
   refine pc_ (q3n af ah aj ay) ee<|v_ (db_ aj) ee<|q0 ?_
   obtain rfl:=q9 f
   exact ⟨_,_,_,_,_,_,_,_,_,_,_,_,_,_,_,ee⟩
  refine q7 ee<|q7 ee<|q7 ee<|q7 ee<|q7 ee<|q7 ee<|q7 ee<|q7 ee<|q7 ee<|q7 ee<|q7 ee<|q7 ee<|q7 ee<|q7 ee<|v_ (db_ false) ee<|q0 ?_
  obtain rfl:=q9 f
  exact ⟨_,_,_,_,_,_,_,_,_,_,_,_,_,_,_,ee⟩
 rintro _ ⟨p,q,s,t,u,v,w,x,y,z,aa,ab,ac,ad,ae,rfl⟩
 refine q0 ?_
 obtain ⟨az,k,a⟩:=q6 a
 refine q74 (fun h=>h = az) (fun (h : Int)=>⟨[(0,.hs 0 1 0 b.2.length),(2,di_ g),(3,di_ c),(8,di_ b.1),(9,di_ h)],[(0,.dat 1 (b.2.map (eI .i64)))],1⟩) (by simp) ?_ ?_
 ·refine qg ee k (fun _ k=>?_) (fun _ k=>?_)
  ·refine qi<|mv_ ee<|v_ (.d (i_ (w64 ((w64 ((w64 (2 * b.1)) + 1)) + 1)))) ee<|as_ ee<|nl_ ?_
   obtain rfl:=q9 k
   exact ⟨_,ee,wkA [] [] []⟩
  refine qh<|qz ?_
  obtain rfl:=q9 k
  exact ⟨_,ee,wkA [] [] []⟩
 intro h hb
 subst hb
 refine qa<|qa<|qm [(some [],[]),(some [],[]),(some [0],[]),(some [],[]),(some [],[]),(some [],[]),(some [],[]),(some [],[]),(some [0],[]),(some [],[]),(some [],[]),(some [],[]),(some [],[]),(some [],[])] (by kernel_rfl)<|mv_ ee<|mv_ ee<|mv_ ee<|v_ (.d (i_ (w64 (c + b.1)))) ee ?_
 obtain ⟨ak,al,a⟩:=q6 a
 refine ih_ al ee ee<|lh_ (di_ ak) al ee<|mv_ ee<|mv_ ee<|mv_ ee<|v_ (.d (i_ (w64 (c + h)))) ee ?_
 obtain ⟨am,an,a⟩:=q6 a
 refine ih_ an ee ee<|lh_ (di_ am) an ee ?_
 obtain ⟨ao,ba,a⟩:=q6 a
 refine pc_ (q3n ak am ao ba) ee<|v_ (db_ (!ao)) ee<|q0 ?_
 refine qg ee a (fun _ a=>?_) (fun _ a=>?_)
 ·refine qh4 ?_
  refine ⟨_,(Option.some.inj a).symm,fun hm=>?_⟩
  subst hm
  obtain rfl:=q9 j
  exact ⟨.inr ee,_,ee,wkA [] [] []⟩
 refine qh<|qa<|qm [(some [0],[0]),(some [],[]),(some [0],[0]),(some [],[]),(some [0],[]),(some [],[]),(some [],[]),(some [],[]),(some [],[]),(some [],[]),(some [0],[]),(some [],[]),(some [],[]),(some [],[]),(some [],[]),(some [],[]),(some [],[]),(some [],[]),(some [],[]),(some [],[]),(some [],[]),(some [],[]),(some [],[]),(some [],[])] (by kernel_rfl)<|mv_ ee<|mv_ ee<|mv_ ee<|v_ (.d (i_ (w64 (c + b.1)))) ee<|mv_ ee<|mv_ ee<|mv_ ee<|v_ (.d (i_ (w64 (c + h)))) ee<|mv_ ee<|mv_ ee<|mv_ ee<|v_ (.d (i_ (w64 (c + h)))) ee ?_
 obtain ⟨n,ap,a⟩:=q6 a
 refine ih_ ap ee ee<|lh_ (di_ n) ap ee<|mv_ ee<|mv_ ee<|mv_ ee<|v_ (.d (i_ (w64 (c + b.1)))) ee ?_
 obtain ⟨o,aq,a⟩:=q6 a
 refine ih_ aq ee ee<|lh_ (di_ o) aq ee ?_
 obtain ⟨bc,ar,a⟩:=q6 a
 refine ih_ ar ee ee<|q18 (ds:=[i_ n]) n ar ee ee ee ee ee ee ee ee (leb ee) ee ?_
 obtain ⟨bd,au,a⟩:=q6 a
 refine ih_ au (by simp) ee<|q18 (ds:=[i_ o]) o au ee ee ee ee ee ee ee ee (leb ee) ee<|q0<|qi<|mv_ ee<|as_ ee<|nl_<|qw<|qz ?_
 exact ⟨_,(Option.some.inj a).symm,wkE [] [] [] ee ⟨⟨_,ee,q16 (by simp) ee (by decide) (ltd ee)⟩,⟨_,ee,.d (.refl _)⟩,⟨_,ee,.d (.refl _)⟩,⟨_,ee,.d (.refl _)⟩,trivial⟩ ⟨⟨ltd ee,.inr ⟨by decide,_,ee,.dat _ _⟩⟩,trivial⟩⟩
theorem qdd (l : List Int) (a : Int) (c : Int) (r : List Int) (j : q4k  l a c = some r) : q1j Tryz.prog tab 145 [.hs 0 1 0 l.length,di_ a,di_ c] [(0,.dat 1 (l.map (eI .i64)))] 1 (.d (.tup [])) [(0,.dat 1 (r.map (eI .i64)))] 1:=by
 unfold q4k at j
 refine q1a Tryz.func145 ee (by kernel_rfl) (by kernel_rfl) ee<|sr_<|mv_ ee<|as_ ee<|qs<|as_ ee<|qs<|mv_ ee<|mv_ ee<|v_ (.d (i_ (w64 (c - a)))) ee<|as_ ee<|q0<|qa<|sr_<|mv_ ee<|v_ (.d (i_ (w64 ((w64 (c - a)) - 1)))) ee<|v_ (.d (i_ (w64 (Int.tdiv (w64 ((w64 (c - a)) - 1)) 2)))) ee<|as_ ee<|q0 ?_
 obtain ⟨p,w,j⟩:=q6 j
 refine qp (fun k=>k = p) (fun (k : List Int)=>⟨[(0,.hs 0 1 0 k.length),(6,di_ a),(7,di_ 0),(8,.d (i_ (w64 (c - a))))],[(0,.dat 1 (k.map (eI .i64)))],1⟩) (by simp) ?_ ?_
 ·refine qt (q3s c a) (fun (g : Int × List Int)=>⟨[(0,.hs 0 1 0 g.2.length),(6,di_ a),(7,di_ 0),(8,.d (i_ (w64 (c - a)))),(9,di_ g.1)],[(0,.dat 1 (g.2.map (eI .i64)))],1⟩) (w64 (Int.tdiv (w64 ((w64 (c - a)) - 1)) 2),l) p w (wkA [] [] []) ?_
  intro g af h
  unfold q3s at h
  refine qa<|sr_<|mv_ ee<|v_ (.d (.bool (decide (g.1 ≥ 0)))) ee<|q0 ?_
  refine qg ee h (fun _ h=>?_) (fun _ h=>?_)
  ·refine qh<|qa<|ql<|qi<|mv_ ee<|mv_ ee<|mv_ ee<|mv_ ee ?_
   obtain ⟨q,x,h⟩:=q6 h
   obtain ⟨ag,y,h⟩:=q6 h
   have z:=q1h y
   refine q41 [(0,0)] [(0,0)] [.hs 0 1 0 g.2.length,di_ g.1,.d (i_ (w64 (c - a))),di_ a] (.d (.tup [])) 1 [(0,.dat 1 (q.map (eI .i64)))] 1 (q8s g.2 g.1 (w64 (c - a)) a q x)<|nl_<|qw<|qi<|mv_ ee<|v_ (.d (i_ (w64 (g.1 - 1)))) ee<|as_ ee<|nl_ ?_
   exact ⟨_,(Option.some.inj h).symm,wkE [] [] [] ee ⟨⟨_,ee,q16 (by simp [z]) ee (by decide) (ltd ee)⟩,⟨_,ee,.d (.refl _)⟩,⟨_,ee,.d (.refl _)⟩,⟨_,ee,.d (.refl _)⟩,⟨_,ee,.d (.refl _)⟩,trivial⟩ ⟨⟨ltd ee,.inr ⟨by decide,_,ee,.dat _ _⟩⟩,trivial⟩⟩
  refine qv ?_
  refine ⟨_,(Option.some.inj h).symm,fun hm=>?_⟩
  subst hm
  exact ⟨_,ee,wkA [] [] []⟩
 intro k hb
 subst hb
 refine sr_<|mv_ ee<|v_ (.d (i_ (w64 ((w64 (c - a)) - 1)))) ee<|as_ ee<|q0 ?_
 obtain ⟨aa,ab,j⟩:=q6 j
 refine ql<|qt (q3t a) (fun (f : Int × List Int)=>⟨[(0,.hs 0 1 0 f.2.length),(6,di_ a),(7,di_ 0),(10,di_ f.1)],[(0,.dat 1 (f.2.map (eI .i64)))],1⟩) (w64 ((w64 (c - a)) - 1),k) aa ab (wkA [] [] []) ?_
 intro f ah b
 unfold q3t at b
 refine qa<|sr_<|mv_ ee<|v_ (.d (.bool (decide (f.1 ≥ 0)))) ee<|q0 ?_
 refine qg ee b (fun _ b=>?_) (fun _ b=>?_)
 ·refine qh<|qa<|ql<|qa<|qm [(some [0],[0]),(some [],[]),(some [0],[0]),(some [],[]),(some [0],[]),(some [],[]),(some [],[]),(some [],[]),(some [0],[]),(some [],[]),(some [],[]),(some [],[]),(some [],[]),(some [],[]),(some [],[]),(some [],[]),(some [],[]),(some [],[]),(some [],[]),(some [],[])] (by kernel_rfl)<|mv_ ee<|mv_ ee<|mv_ ee<|mv_ ee<|mv_ ee<|v_ (.d (i_ (w64 (a + f.1)))) ee<|mv_ ee<|mv_ ee<|mv_ ee<|v_ (.d (i_ (w64 (a + f.1)))) ee ?_
  obtain ⟨m,s,b⟩:=q6 b
  refine ih_ s ee ee<|lh_ (di_ m) s ee<|mv_ ee<|mv_ ee ?_
  obtain ⟨n,t,b⟩:=q6 b
  refine ih_ t ee ee<|lh_ (di_ n) t ee ?_
  obtain ⟨ai,u,b⟩:=q6 b
  refine ih_ u ee ee<|q18 (ds:=[i_ m]) m u ee ee ee ee ee ee ee ee (leb ee) ee ?_
  obtain ⟨aj,v,b⟩:=q6 b
  refine ih_ v (by simp) ee<|q18 (ds:=[i_ n]) n v ee ee ee ee ee ee ee ee (leb ee) ee<|q0<|qi<|mv_ ee<|mv_ ee<|mv_ ee<|mv_ ee ?_
  obtain ⟨o,ac,b⟩:=q6 b
  obtain ⟨ak,ad,b⟩:=q6 b
  have ae:=q1h ad
  refine qa3 [(0,0)] [(0,0)] [.hs 0 1 0 f.2.length,di_ 0,di_ f.1,di_ a] (.d (.tup [])) [(0,.dat 1 (o.map (eI .i64)))] [(0,.dat 1 (o.map (eI .i64)))] 1 (q8s ((f.2.set a.toNat m).set (w64 (a + f.1)).toNat n) 0 f.1 a o ac) ee ee ee (q85 [(0,0)] [] [] ee ⟨⟨_,ee,q16 (by simp) ee (by decide) (ltd ee)⟩,⟨_,ee,.d (.refl _)⟩,⟨_,ee,.d (.refl _)⟩,⟨_,ee,.d (.refl _)⟩,trivial⟩ ⟨⟨ltd ee,.inr ⟨by decide,_,ee,.dat _ _⟩⟩,trivial⟩) (q85 [(0,0)] [] [] ee ⟨⟨_,ee,.d (.refl _)⟩,trivial⟩ ⟨⟨ltd ee,.inr ⟨by decide,_,ee,.dat _ _⟩⟩,trivial⟩) ee ⟨.inl ee,trivial⟩<|nl_<|qw<|qi<|mv_ ee<|v_ (.d (i_ (w64 (f.1 - 1)))) ee<|as_ ee<|nl_ ?_
  exact ⟨_,(Option.some.inj b).symm,wkE [] [] [] ee ⟨⟨_,ee,q16 (by simp [ae]) ee (by decide) (ltd ee)⟩,⟨_,ee,.d (.refl _)⟩,⟨_,ee,.d (.refl _)⟩,⟨_,ee,.d (.refl _)⟩,trivial⟩ ⟨⟨ltd ee,.inr ⟨by decide,_,ee,.dat _ _⟩⟩,trivial⟩⟩
 refine qv ?_
 refine ⟨_,(Option.some.inj b).symm,fun hm=>?_⟩
 subst hm
 obtain rfl:=q9 j
 exact ⟨.inl ee,_,ee,wkA [] [] []⟩
theorem q75 (c : List Int) (f : Int) (g : Int) (b : Int) (r : Int × Int × Int) (a : q2u  c f g b = some r) : q1j Tryz.prog tab 167 [.d (.sl 1 (c.map (eI .i64))),di_ f,di_ g,.ref 0 1 0 0] [(0,.dat 1 [[i_ b]])] 1 (.d (.tup [i_ r.1,i_ r.2.1])) [(0,.dat 1 [[i_ r.2.2]])] 1:=by
 unfold q2u at a
 refine q1a Tryz.func167 ee (by kernel_rfl) (by kernel_rfl) ee<|sr_<|as_ ee<|as_ ee<|q0<|qa<|qa<|qm [(some [],[]),(some [],[]),(some [],[]),(some [],[]),(some [],[]),(some [],[]),(some [],[]),(some [],[]),(some [],[])] (by kernel_rfl)<|mv_ ee<|mv_ ee ?_
 obtain ⟨h,k,a⟩:=q6 a
 refine ix_ (enc:=(eI .i64)) k ee<|v_ (di_ h) ee<|mv_ ee<|mv_ ee ?_
 obtain ⟨j,l,a⟩:=q6 a
 refine ix_ (enc:=(eI .i64)) l ee<|v_ (di_ j) ee ?_
 obtain ⟨m,n,a⟩:=q6 a
 refine pc_ (q3n h j m n) ee<|q0 ?_
 refine qg ee a (fun _ a=>?_) (fun _ a=>?_)
 ·refine sr_<|mv_ ee<|v_ (.ref 0 1 0 0) ee<|v_ (di_ b) ee<|v_ (.d (i_ (w64 (b + 1)))) ee<|v_ (.ref 0 1 0 0) ee<|q1f 0 (.dat 1 [[i_ (w64 (b + 1))]]) ee<|qs<|mv_ ee<|mv_ ee<|as_ ee<|as_ ee<|nt_ ?_
  obtain rfl:=q9 a
  exact ⟨.inr ee,_,ee,wkA [] [] []⟩
 refine qh<|sr_<|mv_ ee<|mv_ ee<|as_ ee<|as_ ee<|nt_ ?_
 obtain rfl:=q9 a
 exact ⟨.inr ee,_,ee,wkA [] [] []⟩
theorem q9d (c : List Int) (h : Int) (j : Int) (k : Int) (l : Int) (r : Int × Int) (f : q44  c h j k l = some r) : q1j Tryz.prog tab 162 [.d (.sl 1 (c.map (eI .i64))),di_ h,di_ j,di_ k,.ref 0 1 0 0] [(0,.dat 1 [[i_ l]])] 1 (di_ r.1) [(0,.dat 1 [[i_ r.2]])] 1:=by
 unfold q44 at f
 refine q1a Tryz.func162 ee (by kernel_rfl) (by kernel_rfl) ee<|sr_<|as_ ee<|qs<|mv_ ee<|mv_ ee<|mv_ ee<|mv_ ee ?_
 obtain ⟨a,m,f⟩:=q6 f
 refine q41 [(0,0)] [(0,0)] [.d (.sl 1 (c.map (eI .i64))),di_ h,di_ j,.ref 0 1 0 0] (.d (.tup [i_ a.1,i_ a.2.1])) 1 [(0,.dat 1 [[i_ a.2.2]])] 1 (q75 c h j l a m)<|mv_ ee<|v_ (di_ a.1) ee<|v_ (di_ a.2.1) ee<|as_ ee<|as_ ee<|qs<|mv_ ee<|mv_ ee<|mv_ ee<|mv_ ee ?_
 obtain ⟨b,n,f⟩:=q6 f
 refine q41 [(0,0)] [(0,0)] [.d (.sl 1 (c.map (eI .i64))),di_ a.2.1,di_ k,.ref 0 1 0 0] (.d (.tup [i_ b.1,i_ b.2.1])) 1 [(0,.dat 1 [[i_ b.2.2]])] 1 (q75 c a.2.1 k a.2.2 b n)<|mv_ ee<|v_ (di_ b.1) ee<|v_ (di_ b.2.1) ee<|as_ ee<|as_ ee<|qs<|mv_ ee<|mv_ ee<|mv_ ee<|mv_ ee ?_
 obtain ⟨g,o,f⟩:=q6 f
 refine q41 [(0,0)] [(0,0)] [.d (.sl 1 (c.map (eI .i64))),di_ a.1,di_ b.1,.ref 0 1 0 0] (.d (.tup [i_ g.1,i_ g.2.1])) 1 [(0,.dat 1 [[i_ g.2.2]])] 1 (q75 c a.1 b.1 b.2.2 g o)<|mv_ ee<|v_ (di_ g.1) ee<|v_ (di_ g.2.1) ee<|as_ ee<|as_ ee<|qs<|mv_ ee<|as_ ee<|nt_ ?_
 obtain rfl:=q9 f
 exact ⟨.inr ee,_,ee,wkA [] [] []⟩
theorem q5w (b : List Int) (a : Int) (f : Int) (r : Int × Int) (c : q1l  b a f = some r) : q1j Tryz.prog tab 161 [.d (.sl 1 (b.map (eI .i64))),di_ a,.ref 0 1 0 0] [(0,.dat 1 [[i_ f]])] 1 (di_ r.1) [(0,.dat 1 [[i_ r.2]])] 1:=by
 unfold q1l at c
 refine q1a Tryz.func161 ee (by kernel_rfl) (by kernel_rfl) ee<|sr_<|as_ ee<|qs<|mv_ ee<|mv_ ee<|v_ (.d (i_ (w64 (a - 1)))) ee<|mv_ ee<|mv_ ee<|v_ (.d (i_ (w64 (a + 1)))) ee<|mv_ ee ?_
 obtain ⟨g,h,c⟩:=q6 c
 refine q41 [(0,0)] [(0,0)] [.d (.sl 1 (b.map (eI .i64))),.d (i_ (w64 (a - 1))),di_ a,.d (i_ (w64 (a + 1))),.ref 0 1 0 0] (di_ g.1) 1 [(0,.dat 1 [[i_ g.2]])] 1 (q9d b (w64 (a - 1)) a (w64 (a + 1)) f g h)<|as_ ee<|nt_ ?_
 obtain rfl:=q9 c
 exact ⟨.inr ee,_,ee,wkA [] [] []⟩
theorem qdq (g : List Int) (a : Int) (b : Int) (r : Int × Int) (f : q4j g a b = some r) : Pure Tryz.prog tab 147 [.sl 1 (g.map (eI .i64)),i_ a,i_ b] (.tup [i_ r.1,i_ r.2]):=by
 unfold q4j at f
 refine qn Tryz.func147 ee (by kernel_rfl) (by kernel_rfl) ee<|sr_<|as_ ee<|as_ ee<|qs<|mv_ ee<|mv_ ee<|v_ (.d (i_ (w64 (b - a)))) ee<|as_ ee<|qs<|q13 ee ee<|qs<|mv_ ee<|mv_ ee<|v_ (.d (i_ (w64 (Int.tdiv (w64 (b - a)) 4)))) ee<|v_ (.d (i_ (w64 ((w64 (Int.tdiv (w64 (b - a)) 4)) * 1)))) ee<|v_ (.d (i_ (w64 (a + (w64 ((w64 (Int.tdiv (w64 (b - a)) 4)) * 1)))))) ee<|as_ ee<|qs<|mv_ ee<|mv_ ee<|v_ (.d (i_ (w64 (Int.tdiv (w64 (b - a)) 4)))) ee<|v_ (.d (i_ (w64 ((w64 (Int.tdiv (w64 (b - a)) 4)) * 2)))) ee<|v_ (.d (i_ (w64 (a + (w64 ((w64 (Int.tdiv (w64 (b - a)) 4)) * 2)))))) ee<|as_ ee<|qs<|mv_ ee<|mv_ ee<|v_ (.d (i_ (w64 (Int.tdiv (w64 (b - a)) 4)))) ee<|v_ (.d (i_ (w64 ((w64 (Int.tdiv (w64 (b - a)) 4)) * 3)))) ee<|v_ (.d (i_ (w64 (a + (w64 ((w64 (Int.tdiv (w64 (b - a)) 4)) * 3)))))) ee<|as_ ee<|q0<|qa<|sr_<|mv_ ee<|v_ (.d (.bool (decide ((w64 (b - a)) ≥ 8)))) ee<|q0 ?_
 obtain ⟨p,k,f⟩:=q6 f
 refine q74 (fun h=>h = p) (fun (h : Int × Int)=>⟨[(9,.ref 0 1 0 0),(11,di_ h.1)],[(0,.dat 1 [[i_ h.2]])],1⟩) (by simp) ?_ ?_
 ·refine qg ee k (fun _ k=>?_) (fun _ k=>?_)
  ·refine qa<|sr_<|mv_ ee<|v_ (.d (.bool (decide ((w64 (b - a)) ≥ 50)))) ee<|q0 ?_
   obtain ⟨q,j,k⟩:=q6 k
   refine q74 (fun c=>c = q) (fun (c : Int × Int × Int × Int)=>⟨[(0,.d (.sl 1 (g.map (eI .i64)))),(9,.ref 0 1 0 0),(10,di_ c.1),(11,di_ c.2.1),(12,di_ c.2.2.1)],[(0,.dat 1 [[i_ c.2.2.2]])],1⟩) (by simp) ?_ ?_
   ·refine qg ee j (fun _ j=>?_) (fun _ j=>?_)
    ·refine sr_<|mv_ ee<|mv_ ee ?_
     obtain ⟨l,s,j⟩:=q6 j
     refine q41 [(0,0)] [(0,0)] [.d (.sl 1 (g.map (eI .i64))),.d (i_ (w64 (a + (w64 ((w64 (Int.tdiv (w64 (b - a)) 4)) * 1))))),.ref 0 1 0 0] (di_ l.1) 1 [(0,.dat 1 [[i_ l.2]])] 1 (q5w g (w64 (a + (w64 ((w64 (Int.tdiv (w64 (b - a)) 4)) * 1)))) 0 l s)<|as_ ee<|qs<|mv_ ee<|mv_ ee ?_
     obtain ⟨m,t,j⟩:=q6 j
     refine q41 [(0,0)] [(0,0)] [.d (.sl 1 (g.map (eI .i64))),.d (i_ (w64 (a + (w64 ((w64 (Int.tdiv (w64 (b - a)) 4)) * 2))))),.ref 0 1 0 0] (di_ m.1) 1 [(0,.dat 1 [[i_ m.2]])] 1 (q5w g (w64 (a + (w64 ((w64 (Int.tdiv (w64 (b - a)) 4)) * 2)))) l.2 m t)<|as_ ee<|q0<|qi<|mv_ ee<|mv_ ee ?_
     obtain ⟨n,u,j⟩:=q6 j
     refine q41 [(0,0)] [(0,0)] [.d (.sl 1 (g.map (eI .i64))),.d (i_ (w64 (a + (w64 ((w64 (Int.tdiv (w64 (b - a)) 4)) * 3))))),.ref 0 1 0 0] (di_ n.1) 1 [(0,.dat 1 [[i_ n.2]])] 1 (q5w g (w64 (a + (w64 ((w64 (Int.tdiv (w64 (b - a)) 4)) * 3)))) m.2 n u)<|as_ ee<|nl_ ?_
     obtain rfl:=q9 j
     exact ⟨_,ee,wkA [(0,0)] [] []⟩
    refine qh<|qz ?_
    obtain rfl:=q9 j
    exact ⟨_,ee,wkA [(0,0)] [] []⟩
   intro c hb
   subst hb
   refine qi<|mv_ ee<|mv_ ee<|mv_ ee<|mv_ ee ?_
   obtain ⟨o,v,k⟩:=q6 k
   refine q41 [(0,0)] [(0,0)] [.d (.sl 1 (g.map (eI .i64))),di_ c.1,di_ c.2.1,di_ c.2.2.1,.ref 0 1 0 0] (di_ o.1) 1 [(0,.dat 1 [[i_ o.2]])] 1 (q9d g c.1 c.2.1 c.2.2.1 c.2.2.2 o v)<|as_ ee<|nl_ ?_
   obtain rfl:=q9 k
   exact ⟨_,ee,wkA [(0,0)] [] []⟩
  refine qh<|qz ?_
  obtain rfl:=q9 k
  exact ⟨_,ee,wkA [(0,0)] [] []⟩
 intro h hb
 subst hb
 refine sr_<|v_ (di_ h.2) ee<|q0<|ql<|sr_<|v_ (db_ (h.2 == 0)) ee<|as_ ee<|q0 ?_
 refine qg ee f (fun _ f=>?_) (fun _ f=>?_)
 ·refine sr_<|mv_ ee<|as_ ee<|as_ ee<|nt_ ?_
  obtain rfl:=q9 f
  exact fR_ (.d (.tup [i_ h.1,i_ 1])) ee
 refine sr_<|v_ (db_ (h.2 == 12)) ee<|as_ ee<|q0 ?_
 refine qg ee f (fun _ f=>?_) (fun _ f=>?_)
 ·refine sr_<|mv_ ee<|as_ ee<|as_ ee<|nt_ ?_
  obtain rfl:=q9 f
  exact fR_ (.d (.tup [i_ h.1,i_ 2])) ee
 refine sr_<|mv_ ee<|as_ ee<|as_ ee<|nt_ ?_
 obtain rfl:=q9 f
 exact fR_ (.d (.tup [i_ h.1,i_ 0])) ee
theorem qc7 (c : List Int) (h : Int) (f : Int) (r : List Int) (g : q3d  c h f = some r) : q1j Tryz.prog tab 148 [.hs 0 1 0 c.length,di_ h,di_ f] [(0,.dat 1 (c.map (eI .i64)))] 1 (.d (.tup [])) [(0,.dat 1 (r.map (eI .i64)))] 1:=by
 unfold q3d at g
 refine q1a Tryz.func148 ee (by kernel_rfl) (by kernel_rfl) ee<|sr_<|mv_ ee<|as_ ee<|qs<|mv_ ee<|v_ (.d (i_ (w64 (f - 1)))) ee<|as_ ee<|q0 ?_
 obtain ⟨p,q,g⟩:=q6 g
 refine ql<|qt (q45) (fun (b : Int × Int × List Int)=>⟨[(0,.hs 0 1 0 b.2.2.length),(6,di_ b.1),(7,di_ b.2.1)],[(0,.dat 1 (b.2.2.map (eI .i64)))],1⟩) (h,w64 (f - 1),c) p q (wkA [] [] []) ?_
 intro b s a
 unfold q45 at a
 refine qa<|sr_<|mv_ ee<|mv_ ee<|v_ (.d (.bool (decide (b.1 < b.2.1)))) ee<|q0 ?_
 refine qg ee a (fun _ a=>?_) (fun _ a=>?_)
 ·refine qh<|ql<|qa<|qm [(some [0],[0]),(some [],[]),(some [0],[0]),(some [],[]),(some [0],[]),(some [],[]),(some [],[]),(some [],[]),(some [0],[]),(some [],[]),(some [],[]),(some [],[]),(some [],[]),(some [],[]),(some [],[]),(some [],[])] (by kernel_rfl)<|mv_ ee<|mv_ ee<|mv_ ee<|mv_ ee<|mv_ ee<|mv_ ee ?_
  obtain ⟨j,l,a⟩:=q6 a
  refine ih_ l ee ee<|lh_ (di_ j) l ee<|mv_ ee<|mv_ ee ?_
  obtain ⟨k,m,a⟩:=q6 a
  refine ih_ m ee ee<|lh_ (di_ k) m ee ?_
  obtain ⟨t,n,a⟩:=q6 a
  refine ih_ n ee ee<|q18 (ds:=[i_ j]) j n ee ee ee ee ee ee ee ee (leb ee) ee ?_
  obtain ⟨u,o,a⟩:=q6 a
  refine ih_ o (by simp) ee<|q18 (ds:=[i_ k]) k o ee ee ee ee ee ee ee ee (leb ee) ee<|qs<|mv_ ee<|v_ (.d (i_ (w64 (b.1 + 1)))) ee<|as_ ee<|q0<|qi<|mv_ ee<|v_ (.d (i_ (w64 (b.2.1 - 1)))) ee<|as_ ee<|nl_<|qw<|qz ?_
  exact ⟨_,(Option.some.inj a).symm,wkE [] [] [] ee ⟨⟨_,ee,q16 (by simp) ee (by decide) (ltd ee)⟩,⟨_,ee,.d (.refl _)⟩,⟨_,ee,.d (.refl _)⟩,trivial⟩ ⟨⟨ltd ee,.inr ⟨by decide,_,ee,.dat _ _⟩⟩,trivial⟩⟩
 refine qv ?_
 refine ⟨_,(Option.some.inj a).symm,fun hm=>?_⟩
 subst hm
 obtain rfl:=q9 g
 exact ⟨.inl ee,_,ee,wkA [] [] []⟩
theorem q9w (v : List Int) (j : Int) (h : Int) (r : Bool × List Int) (q : q1e  v j h = some r) : q1j Tryz.prog tab 149 [.hs 0 1 0 v.length,di_ j,di_ h] [(0,.dat 1 (v.map (eI .i64)))] 1 (db_ r.1) [(0,.dat 1 (r.2.map (eI .i64)))] 1:=by
 unfold q1e at q
 refine q1a Tryz.func149 ee (by kernel_rfl) (by kernel_rfl) ee<|sr_<|as_ ee<|qs<|mv_ ee<|v_ (.d (i_ (w64 (j + 1)))) ee<|as_ ee<|q0<|qa<|sr_<|as_ ee<|q0 ?_
 obtain ⟨ae,bu,q⟩:=q6 q
 refine qp (fun w=>.inl w = ae) (fun (w : List Int)=>⟨[],[(0,.dat 1 (w.map (eI .i64)))],1⟩) (by simp) ?_ ?_
 ·refine qt (q17 h j) (fun (g : Int × Int × List Int)=>⟨[(0,.hs 0 1 0 g.2.2.length),(1,di_ j),(2,di_ h),(7,di_ g.1),(8,di_ g.2.1)],[(0,.dat 1 (g.2.2.map (eI .i64)))],1⟩) (w64 (j + 1),0,v) ae bu (wkA [] [] []) ?_
  intro g ci l
  unfold q17 at l
  refine qa<|sr_<|mv_ ee<|v_ (.d (.bool (decide (g.2.1 < 5)))) ee<|q0 ?_
  refine qg ee l (fun _ l=>?_) (fun _ l=>?_)
  ·refine qh<|qa ?_
   obtain ⟨bv,a,l⟩:=q6 l
   refine qp (fun s=>.inl s = bv) (fun (s : Int × List Int)=>⟨[(0,.hs 0 1 0 s.2.length),(1,di_ j),(2,di_ h),(7,di_ s.1),(8,di_ g.2.1)],[(0,.dat 1 (s.2.map (eI .i64)))],1⟩) (by simp) ?_ ?_
   ·refine qa ?_
    obtain ⟨af,bw,a⟩:=q6 a
    refine qp (fun f=>f = af) (fun (f : Int)=>⟨[(0,.hs 0 1 0 g.2.2.length),(1,di_ j),(2,di_ h),(7,di_ f),(8,di_ g.2.1)],[(0,.dat 1 (g.2.2.map (eI .i64)))],1⟩) (by simp) ?_ ?_
    ·refine qt (q1n h g) (fun (u : Int)=>⟨[(0,.hs 0 1 0 g.2.2.length),(1,di_ j),(2,di_ h),(7,di_ u),(8,di_ g.2.1)],[(0,.dat 1 (g.2.2.map (eI .i64)))],1⟩) g.1 af bw (wkA [] [] []) ?_
     intro u cj o
     unfold q1n at o
     refine qa<|qa<|qm [(some [],[]),(some [],[]),(some [],[]),(some [0],[]),(some [],[]),(some [],[]),(some [],[]),(some [],[]),(some [0],[]),(some [],[]),(some [],[]),(some [],[]),(some [],[]),(some [],[]),(some [],[]),(some [],[])] (by kernel_rfl)<|mv_ ee<|mv_ ee<|v_ (.d (.bool (decide (u < h)))) ee ?_
     obtain ⟨bz,k,o⟩:=q6 o
     refine qq 13 (fun A st=>∃ (ag ah ai aj ak al am an ao ap aq ar : V),st = A [(32,db_ bz),(31,ar),(30,aq),(29,ap),(28,ao),(27,an),(26,am),(25,al),(24,ak),(23,aj),(22,ai),(21,ah),(20,ag)]) ?_ ?_
     ·refine qu ee ee k (fun k=>?_) (fun k=>?_)
      ·refine mv_ ee<|mv_ ee ?_
       obtain ⟨au,av,k⟩:=q6 k
       refine ih_ av ee ee<|lh_ (di_ au) av ee<|mv_ ee<|mv_ ee<|v_ (.d (i_ (w64 (u - 1)))) ee ?_
       obtain ⟨aw,ax,k⟩:=q6 k
       refine ih_ ax ee ee<|lh_ (di_ aw) ax ee ?_
       obtain ⟨z,ca,k⟩:=q6 k
       refine pc_ (q3n au aw z ca) ee<|v_ (db_ (!z)) ee<|v_ (db_ (!z)) ee<|q0 ?_
       obtain rfl:=q9 k
       exact ⟨_,_,_,_,_,_,_,_,_,_,_,_,ee⟩
      refine q7 ee<|q7 ee<|q7 ee<|q7 ee<|q7 ee<|q7 ee<|q7 ee<|q7 ee<|q7 ee<|q7 ee<|q7 ee<|v_ (db_ false) ee<|q0 ?_
      obtain rfl:=q9 k
      exact ⟨_,_,_,_,_,_,_,_,_,_,_,_,ee⟩
     rintro _ ⟨ag,ah,ai,aj,ak,al,am,an,ao,ap,aq,ar,rfl⟩
     refine q0 ?_
     refine qg ee o (fun _ o=>?_) (fun _ o=>?_)
     ·refine qh<|ql<|qi<|mv_ ee<|v_ (.d (i_ (w64 (u + 1)))) ee<|as_ ee<|nl_<|qw<|qz ?_
      exact ⟨_,(Option.some.inj o).symm,wkA [] [] []⟩
     refine qv ?_
     refine ⟨_,(Option.some.inj o).symm,fun hm=>?_⟩
     subst hm
     exact ⟨_,ee,wkA [] [] []⟩
    intro f hb
    subst hb
    refine qa<|sr_<|mv_ ee<|mv_ ee<|v_ (db_ (f == h)) ee<|q0 ?_
    refine qg ee a (fun _ a=>?_) (fun _ a=>?_)
    ·refine sr_<|as_ ee<|nt_ ?_
     obtain rfl:=q9 a
     refine ⟨_,(Option.some.inj l).symm,fun hm=>?_⟩
     subst hm
     obtain rfl:=q9 q
     exact ⟨.inr ee,_,ee,wkA [] [] []⟩
    refine qh<|qa<|sr_<|mv_ ee<|mv_ ee<|v_ (.d (i_ (w64 (h - j)))) ee<|v_ (.d (.bool (decide ((w64 (h - j)) < 50)))) ee<|q0 ?_
    refine qg ee a (fun _ a=>?_) (fun _ a=>?_)
    ·refine sr_<|as_ ee<|nt_ ?_
     obtain rfl:=q9 a
     refine ⟨_,(Option.some.inj l).symm,fun hm=>?_⟩
     subst hm
     obtain rfl:=q9 q
     exact ⟨.inr ee,_,ee,wkA [] [] []⟩
    refine qh<|qa<|qm [(some [0],[0]),(some [],[]),(some [0],[0]),(some [],[]),(some [0],[]),(some [],[]),(some [],[]),(some [],[]),(some [0],[]),(some [],[]),(some [],[]),(some [],[]),(some [],[]),(some [],[]),(some [],[]),(some [],[]),(some [],[]),(some [],[])] (by kernel_rfl)<|mv_ ee<|mv_ ee<|mv_ ee<|mv_ ee<|v_ (.d (i_ (w64 (f - 1)))) ee<|mv_ ee<|mv_ ee<|v_ (.d (i_ (w64 (f - 1)))) ee ?_
    obtain ⟨x,ay,a⟩:=q6 a
    refine ih_ ay ee ee<|lh_ (di_ x) ay ee<|mv_ ee<|mv_ ee ?_
    obtain ⟨y,az,a⟩:=q6 a
    refine ih_ az ee ee<|lh_ (di_ y) az ee ?_
    obtain ⟨ck,ba,a⟩:=q6 a
    refine ih_ ba ee ee<|q18 (ds:=[i_ x]) x ba ee ee ee ee ee ee ee ee (leb ee) ee ?_
    obtain ⟨cl,bb,a⟩:=q6 a
    refine ih_ bb (by simp) ee<|q18 (ds:=[i_ y]) y bb ee ee ee ee ee ee ee ee (leb ee) ee<|q0<|qa<|sr_<|mv_ ee<|mv_ ee<|v_ (.d (i_ (w64 (f - j)))) ee<|v_ (.d (.bool (decide ((w64 (f - j)) ≥ 2)))) ee<|q0 ?_
    obtain ⟨cb,p,a⟩:=q6 a
    refine q74 (fun t=>t = cb) (fun (t : List Int)=>⟨[(0,.hs 0 1 0 t.length),(1,di_ j),(2,di_ h),(7,di_ f),(8,di_ g.2.1)],[(0,.dat 1 (t.map (eI .i64)))],1⟩) (by simp) ?_ ?_
    ·refine qg ee p (fun _ p=>?_) (fun _ p=>?_)
     ·refine sr_<|mv_ ee<|v_ (.d (i_ (w64 (f - 1)))) ee<|as_ ee<|q0 ?_
      obtain ⟨cc,cd,p⟩:=q6 p
      refine ql<|qt (q2b) (fun (m : Int × List Int)=>⟨[(0,.hs 0 1 0 m.2.length),(1,di_ j),(2,di_ h),(7,di_ f),(8,di_ g.2.1),(9,di_ m.1)],[(0,.dat 1 (m.2.map (eI .i64)))],1⟩) (w64 (f - 1),(g.2.2.set f.toNat x).set (w64 (f - 1)).toNat y) cc cd (wkE [] [] [] ee ⟨⟨_,ee,q16 (by simp) ee (by decide) (ltd ee)⟩,⟨_,ee,.d (.refl _)⟩,⟨_,ee,.d (.refl _)⟩,⟨_,ee,.d (.refl _)⟩,⟨_,ee,.d (.refl _)⟩,⟨_,ee,.d (.refl _)⟩,trivial⟩ ⟨⟨ltd ee,.inr ⟨by decide,_,ee,.dat _ _⟩⟩,trivial⟩) ?_
      intro m cm b
      unfold q2b at b
      refine qa<|sr_<|mv_ ee<|v_ (.d (.bool (decide (m.1 ≥ 1)))) ee<|q0 ?_
      refine qg ee b (fun _ b=>?_) (fun _ b=>?_)
      ·refine qh<|qa<|ql<|qa<|qa<|qm [(some [],[]),(some [],[]),(some [0],[]),(some [],[]),(some [],[]),(some [],[]),(some [],[]),(some [0],[]),(some [],[]),(some [],[]),(some [],[])] (by kernel_rfl)<|mv_ ee<|mv_ ee ?_
       obtain ⟨bc,bd,b⟩:=q6 b
       refine ih_ bd ee ee<|lh_ (di_ bc) bd ee<|mv_ ee<|mv_ ee<|v_ (.d (i_ (w64 (m.1 - 1)))) ee ?_
       obtain ⟨be,bf,b⟩:=q6 b
       refine ih_ bf ee ee<|lh_ (di_ be) bf ee ?_
       obtain ⟨bg,ce,b⟩:=q6 b
       refine pc_ (q3n bc be bg ce) ee<|v_ (db_ (!bg)) ee<|q0 ?_
       refine qg ee b (fun _ b=>?_) (fun _ b=>?_)
       ·refine qv ?_
        refine ⟨_,(Option.some.inj b).symm,fun hm=>?_⟩
        subst hm
        obtain rfl:=q9 p
        exact ⟨_,ee,wkA [] [] []⟩
       refine qh<|qm [(some [0],[0]),(some [],[]),(some [0],[0]),(some [],[]),(some [0],[]),(some [],[]),(some [],[]),(some [],[]),(some [0],[]),(some [],[]),(some [],[]),(some [],[]),(some [],[]),(some [],[]),(some [],[]),(some [],[]),(some [],[]),(some [],[])] (by kernel_rfl)<|mv_ ee<|mv_ ee<|mv_ ee<|mv_ ee<|v_ (.d (i_ (w64 (m.1 - 1)))) ee<|mv_ ee<|mv_ ee<|v_ (.d (i_ (w64 (m.1 - 1)))) ee ?_
       obtain ⟨aa,bh,b⟩:=q6 b
       refine ih_ bh ee ee<|lh_ (di_ aa) bh ee<|mv_ ee<|mv_ ee ?_
       obtain ⟨ab,bi,b⟩:=q6 b
       refine ih_ bi ee ee<|lh_ (di_ ab) bi ee ?_
       obtain ⟨cn,bj,b⟩:=q6 b
       refine ih_ bj ee ee<|q18 (ds:=[i_ aa]) aa bj ee ee ee ee ee ee ee ee (leb ee) ee ?_
       obtain ⟨co,bk,b⟩:=q6 b
       refine ih_ bk (by simp) ee<|q18 (ds:=[i_ ab]) ab bk ee ee ee ee ee ee ee ee (leb ee) ee<|nl_<|qw<|qi<|mv_ ee<|v_ (.d (i_ (w64 (m.1 - 1)))) ee<|as_ ee<|nl_ ?_
       exact ⟨_,(Option.some.inj b).symm,wkE [] [] [] ee ⟨⟨_,ee,q16 (by simp) ee (by decide) (ltd ee)⟩,⟨_,ee,.d (.refl _)⟩,⟨_,ee,.d (.refl _)⟩,⟨_,ee,.d (.refl _)⟩,⟨_,ee,.d (.refl _)⟩,⟨_,ee,.d (.refl _)⟩,trivial⟩ ⟨⟨ltd ee,.inr ⟨by decide,_,ee,.dat _ _⟩⟩,trivial⟩⟩
      refine qv ?_
      refine ⟨_,(Option.some.inj b).symm,fun hm=>?_⟩
      subst hm
      obtain rfl:=q9 p
      exact ⟨_,ee,wkA [] [] []⟩
     refine qh<|qz ?_
     obtain rfl:=q9 p
     exact ⟨_,ee,wkE [] [] [] ee ⟨⟨_,ee,q16 (by simp) ee (by decide) (ltd ee)⟩,⟨_,ee,.d (.refl _)⟩,⟨_,ee,.d (.refl _)⟩,⟨_,ee,.d (.refl _)⟩,⟨_,ee,.d (.refl _)⟩,trivial⟩ ⟨⟨ltd ee,.inr ⟨by decide,_,ee,.dat _ _⟩⟩,trivial⟩⟩
    intro t hb
    subst hb
    refine sr_<|mv_ ee<|mv_ ee<|v_ (.d (i_ (w64 (h - f)))) ee<|v_ (.d (.bool (decide ((w64 (h - f)) ≥ 2)))) ee<|q0 ?_
    refine qg ee a (fun _ a=>?_) (fun _ a=>?_)
    ·refine sr_<|mv_ ee<|v_ (.d (i_ (w64 (f + 1)))) ee<|as_ ee<|q0 ?_
     obtain ⟨cf,cg,a⟩:=q6 a
     refine ql<|qt (q1o h f) (fun (n : Int × List Int)=>⟨[(0,.hs 0 1 0 n.2.length),(1,di_ j),(2,di_ h),(7,di_ f),(8,di_ g.2.1),(10,di_ n.1)],[(0,.dat 1 (n.2.map (eI .i64)))],1⟩) (w64 (f + 1),t) cf cg (wkA [] [] []) ?_
     intro n cp c
     unfold q1o at c
     refine qa<|sr_<|mv_ ee<|mv_ ee<|v_ (.d (.bool (decide (n.1 < h)))) ee<|q0 ?_
     refine qg ee c (fun _ c=>?_) (fun _ c=>?_)
     ·refine qh<|qa<|ql<|qa<|qa<|qm [(some [],[]),(some [],[]),(some [0],[]),(some [],[]),(some [],[]),(some [],[]),(some [],[]),(some [0],[]),(some [],[]),(some [],[]),(some [],[])] (by kernel_rfl)<|mv_ ee<|mv_ ee ?_
      obtain ⟨bl,bm,c⟩:=q6 c
      refine ih_ bm ee ee<|lh_ (di_ bl) bm ee<|mv_ ee<|mv_ ee<|v_ (.d (i_ (w64 (n.1 - 1)))) ee ?_
      obtain ⟨bn,bo,c⟩:=q6 c
      refine ih_ bo ee ee<|lh_ (di_ bn) bo ee ?_
      obtain ⟨bp,ch,c⟩:=q6 c
      refine pc_ (q3n bl bn bp ch) ee<|v_ (db_ (!bp)) ee<|q0 ?_
      refine qg ee c (fun _ c=>?_) (fun _ c=>?_)
      ·refine qv ?_
       refine ⟨_,(Option.some.inj c).symm,fun hm=>?_⟩
       subst hm
       obtain rfl:=q9 a
       exact ⟨_,ee,wkA [] [] []⟩
      refine qh<|qm [(some [0],[0]),(some [],[]),(some [0],[0]),(some [],[]),(some [0],[]),(some [],[]),(some [],[]),(some [],[]),(some [0],[]),(some [],[]),(some [],[]),(some [],[]),(some [],[]),(some [],[]),(some [],[]),(some [],[]),(some [],[]),(some [],[])] (by kernel_rfl)<|mv_ ee<|mv_ ee<|mv_ ee<|mv_ ee<|v_ (.d (i_ (w64 (n.1 - 1)))) ee<|mv_ ee<|mv_ ee<|v_ (.d (i_ (w64 (n.1 - 1)))) ee ?_
      obtain ⟨ac,bq,c⟩:=q6 c
      refine ih_ bq ee ee<|lh_ (di_ ac) bq ee<|mv_ ee<|mv_ ee ?_
      obtain ⟨ad,br,c⟩:=q6 c
      refine ih_ br ee ee<|lh_ (di_ ad) br ee ?_
      obtain ⟨cq,bs,c⟩:=q6 c
      refine ih_ bs ee ee<|q18 (ds:=[i_ ac]) ac bs ee ee ee ee ee ee ee ee (leb ee) ee ?_
      obtain ⟨cr,bt,c⟩:=q6 c
      refine ih_ bt (by simp) ee<|q18 (ds:=[i_ ad]) ad bt ee ee ee ee ee ee ee ee (leb ee) ee<|nl_<|qw<|qi<|mv_ ee<|v_ (.d (i_ (w64 (n.1 + 1)))) ee<|as_ ee<|nl_ ?_
      exact ⟨_,(Option.some.inj c).symm,wkE [] [] [] ee ⟨⟨_,ee,q16 (by simp) ee (by decide) (ltd ee)⟩,⟨_,ee,.d (.refl _)⟩,⟨_,ee,.d (.refl _)⟩,⟨_,ee,.d (.refl _)⟩,⟨_,ee,.d (.refl _)⟩,⟨_,ee,.d (.refl _)⟩,trivial⟩ ⟨⟨ltd ee,.inr ⟨by decide,_,ee,.dat _ _⟩⟩,trivial⟩⟩
     refine qv ?_
     refine ⟨_,(Option.some.inj c).symm,fun hm=>?_⟩
     subst hm
     obtain rfl:=q9 a
     exact ⟨_,ee,wkA [] [] []⟩
    refine qh<|qz ?_
    obtain rfl:=q9 a
    exact ⟨_,ee,wkA [] [] []⟩
   intro s hb
   subst hb
   refine qi<|mv_ ee<|v_ (.d (i_ (w64 (g.2.1 + 1)))) ee<|as_ ee<|nl_ ?_
   exact ⟨_,(Option.some.inj l).symm,wkA [] [] []⟩
  refine qv ?_
  refine ⟨_,(Option.some.inj l).symm,fun hm=>?_⟩
  subst hm
  exact ⟨_,ee,wkA [] [] []⟩
 intro w hb
 subst hb
 refine sr_<|as_ ee<|nt_ ?_
 obtain rfl:=q9 q
 exact ⟨.inr ee,_,ee,wkA [] [] []⟩
theorem qbd (o : List Int) (c : Int) (p : Int) (v : Int) (r : Int × List Int) (f : q2s  o c p v = some r) : q1j Tryz.prog tab 151 [.hs 0 1 0 o.length,di_ c,di_ p,di_ v] [(0,.dat 1 (o.map (eI .i64)))] 1 (di_ r.1) [(0,.dat 1 (r.2.map (eI .i64)))] 1:=by
 unfold q2s at f
 refine q1a Tryz.func151 ee (by kernel_rfl) (by kernel_rfl) ee<|sr_<|as_ ee<|q0<|qa<|qm [(some [0],[0]),(some [],[]),(some [0],[0]),(some [],[]),(some [0],[]),(some [],[]),(some [],[]),(some [],[]),(some [0],[]),(some [],[]),(some [],[]),(some [],[]),(some [],[]),(some [],[]),(some [],[]),(some [],[])] (by kernel_rfl)<|mv_ ee<|mv_ ee<|mv_ ee<|mv_ ee<|mv_ ee<|mv_ ee ?_
 obtain ⟨q,z,f⟩:=q6 f
 refine ih_ z ee ee<|lh_ (di_ q) z ee<|mv_ ee<|mv_ ee ?_
 obtain ⟨s,aa,f⟩:=q6 f
 refine ih_ aa ee ee<|lh_ (di_ s) aa ee ?_
 obtain ⟨bz,ab,f⟩:=q6 f
 refine ih_ ab ee ee<|q18 (ds:=[i_ q]) q ab ee ee ee ee ee ee ee ee (leb ee) ee ?_
 obtain ⟨ca,ac,f⟩:=q6 f
 refine ih_ ac (by simp) ee<|q18 (ds:=[i_ s]) s ac ee ee ee ee ee ee ee ee (leb ee) ee<|qs<|mv_ ee<|v_ (.d (i_ (w64 (c + 1)))) ee<|mv_ ee<|v_ (.d (i_ (w64 (p - 1)))) ee<|as_ ee<|as_ ee<|q0<|qa ?_
 obtain ⟨ad,bq,f⟩:=q6 f
 refine qp (fun n=>n = ad) (fun (n : Int × List Int)=>⟨[(9,di_ n.1)],[(0,.dat 1 (n.2.map (eI .i64)))],1⟩) (by simp) ?_ ?_
 ·refine qt (q27 c) (fun (a : Int × Int × List Int)=>⟨[(0,.hs 0 1 0 a.2.2.length),(1,di_ c),(9,di_ a.1),(10,di_ a.2.1)],[(0,.dat 1 (a.2.2.map (eI .i64)))],1⟩) (w64 (c + 1),w64 (p - 1),(o.set c.toNat q).set v.toNat s) ad bq (wkE [] [] [] ee ⟨⟨_,ee,q16 (by simp) ee (by decide) (ltd ee)⟩,⟨_,ee,.d (.refl _)⟩,⟨_,ee,.d (.refl _)⟩,⟨_,ee,.d (.refl _)⟩,trivial⟩ ⟨⟨ltd ee,.inr ⟨by decide,_,ee,.dat _ _⟩⟩,trivial⟩) ?_
  intro a cb b
  unfold q27 at b
  refine ql<|qa ?_
  obtain ⟨ae,br,b⟩:=q6 b
  refine qp (fun j=>j = ae) (fun (j : Int)=>⟨[(0,.hs 0 1 0 a.2.2.length),(1,di_ c),(9,di_ j),(10,di_ a.2.1)],[(0,.dat 1 (a.2.2.map (eI .i64)))],1⟩) (by simp) ?_ ?_
  ·refine qt (q28 a c) (fun (t : Int)=>⟨[(0,.hs 0 1 0 a.2.2.length),(1,di_ c),(9,di_ t),(10,di_ a.2.1)],[(0,.dat 1 (a.2.2.map (eI .i64)))],1⟩) a.1 ae br (wkA [] [] []) ?_
   intro t cc k
   unfold q28 at k
   refine qa<|qa<|qm [(some [],[]),(some [],[]),(some [],[]),(some [0],[]),(some [],[]),(some [],[]),(some [],[]),(some [0],[]),(some [],[]),(some [],[]),(some [],[]),(some [],[]),(some [],[]),(some [],[]),(some [],[])] (by kernel_rfl)<|mv_ ee<|mv_ ee<|v_ (.d (.bool (decide (t≤a.2.1)))) ee ?_
   obtain ⟨bs,g,k⟩:=q6 k
   refine qq 12 (fun A st=>∃ (af ag ah ai aj ak al am an ao ap : V),st = A [(43,db_ bs),(42,ap),(41,ao),(40,an),(39,am),(38,al),(37,ak),(36,aj),(35,ai),(34,ah),(33,ag),(32,af)]) ?_ ?_
   ·refine qu ee ee g (fun g=>?_) (fun g=>?_)
    ·refine mv_ ee<|mv_ ee ?_
     obtain ⟨aq,ar,g⟩:=q6 g
     refine ih_ ar ee ee<|lh_ (di_ aq) ar ee<|mv_ ee<|mv_ ee ?_
     obtain ⟨au,av,g⟩:=q6 g
     refine ih_ av ee ee<|lh_ (di_ au) av ee ?_
     obtain ⟨w,bt,g⟩:=q6 g
     refine pc_ (q3n aq au w bt) ee<|v_ (db_ (!w)) ee<|v_ (db_ (!w)) ee<|q0 ?_
     obtain rfl:=q9 g
     exact ⟨_,_,_,_,_,_,_,_,_,_,_,ee⟩
    refine q7 ee<|q7 ee<|q7 ee<|q7 ee<|q7 ee<|q7 ee<|q7 ee<|q7 ee<|q7 ee<|q7 ee<|v_ (db_ false) ee<|q0 ?_
    obtain rfl:=q9 g
    exact ⟨_,_,_,_,_,_,_,_,_,_,_,ee⟩
   rintro _ ⟨af,ag,ah,ai,aj,ak,al,am,an,ao,ap,rfl⟩
   refine q0 ?_
   refine qg ee k (fun _ k=>?_) (fun _ k=>?_)
   ·refine qh<|ql<|qi<|mv_ ee<|v_ (.d (i_ (w64 (t + 1)))) ee<|as_ ee<|nl_<|qw<|qz ?_
    exact ⟨_,(Option.some.inj k).symm,wkA [] [] []⟩
   refine qv ?_
   refine ⟨_,(Option.some.inj k).symm,fun hm=>?_⟩
   subst hm
   exact ⟨_,ee,wkA [] [] []⟩
  intro j hb
  subst hb
  refine qa ?_
  obtain ⟨aw,bu,b⟩:=q6 b
  refine qp (fun m=>m = aw) (fun (m : Int)=>⟨[(0,.hs 0 1 0 a.2.2.length),(1,di_ c),(9,di_ j),(10,di_ m)],[(0,.dat 1 (a.2.2.map (eI .i64)))],1⟩) (by simp) ?_ ?_
  ·refine qt (q29 j a c) (fun (u : Int)=>⟨[(0,.hs 0 1 0 a.2.2.length),(1,di_ c),(9,di_ j),(10,di_ u)],[(0,.dat 1 (a.2.2.map (eI .i64)))],1⟩) a.2.1 aw bu (wkA [] [] []) ?_
   intro u cd l
   unfold q29 at l
   refine qa<|qa<|qm [(some [],[]),(some [],[]),(some [0],[]),(some [],[]),(some [],[]),(some [],[]),(some [0],[]),(some [],[]),(some [],[]),(some [],[]),(some [],[]),(some [],[]),(some [],[]),(some [],[])] (by kernel_rfl)<|mv_ ee<|mv_ ee<|v_ (.d (.bool (decide (j≤u)))) ee ?_
   obtain ⟨bv,h,l⟩:=q6 l
   refine qq 11 (fun A st=>∃ (ax ay az ba bb bc bd be bf bg : V),st = A [(59,db_ bv),(58,bg),(57,bf),(56,be),(55,bd),(54,bc),(53,bb),(52,ba),(51,az),(50,ay),(49,ax)]) ?_ ?_
   ·refine qu ee ee h (fun h=>?_) (fun h=>?_)
    ·refine mv_ ee<|mv_ ee ?_
     obtain ⟨bh,bi,h⟩:=q6 h
     refine ih_ bi ee ee<|lh_ (di_ bh) bi ee<|mv_ ee<|mv_ ee ?_
     obtain ⟨bj,bk,h⟩:=q6 h
     refine ih_ bk ee ee<|lh_ (di_ bj) bk ee ?_
     obtain ⟨bl,bw,h⟩:=q6 h
     refine pc_ (q3n bh bj bl bw) ee<|v_ (db_ bl) ee<|q0 ?_
     obtain rfl:=q9 h
     exact ⟨_,_,_,_,_,_,_,_,_,_,ee⟩
    refine q7 ee<|q7 ee<|q7 ee<|q7 ee<|q7 ee<|q7 ee<|q7 ee<|q7 ee<|q7 ee<|v_ (db_ false) ee<|q0 ?_
    obtain rfl:=q9 h
    exact ⟨_,_,_,_,_,_,_,_,_,_,ee⟩
   rintro _ ⟨ax,ay,az,ba,bb,bc,bd,be,bf,bg,rfl⟩
   refine q0 ?_
   refine qg ee l (fun _ l=>?_) (fun _ l=>?_)
   ·refine qh<|ql<|qi<|mv_ ee<|v_ (.d (i_ (w64 (u - 1)))) ee<|as_ ee<|nl_<|qw<|qz ?_
    exact ⟨_,(Option.some.inj l).symm,wkA [] [] []⟩
   refine qv ?_
   refine ⟨_,(Option.some.inj l).symm,fun hm=>?_⟩
   subst hm
   exact ⟨_,ee,wkA [] [] []⟩
  intro m hb
  subst hb
  refine qa<|sr_<|mv_ ee<|mv_ ee<|v_ (.d (.bool (decide (j > m)))) ee<|q0 ?_
  refine qg ee b (fun _ b=>?_) (fun _ b=>?_)
  ·refine qv ?_
   refine ⟨_,(Option.some.inj b).symm,fun hm=>?_⟩
   subst hm
   exact ⟨_,ee,wkA [] [] []⟩
  refine qh<|qa<|qm [(some [0],[0]),(some [],[]),(some [0],[0]),(some [],[]),(some [0],[]),(some [],[]),(some [],[]),(some [],[]),(some [0],[]),(some [],[]),(some [],[]),(some [],[]),(some [],[]),(some [],[]),(some [],[]),(some [],[])] (by kernel_rfl)<|mv_ ee<|mv_ ee<|mv_ ee<|mv_ ee<|mv_ ee<|mv_ ee ?_
  obtain ⟨x,bm,b⟩:=q6 b
  refine ih_ bm ee ee<|lh_ (di_ x) bm ee<|mv_ ee<|mv_ ee ?_
  obtain ⟨y,bn,b⟩:=q6 b
  refine ih_ bn ee ee<|lh_ (di_ y) bn ee ?_
  obtain ⟨ce,bo,b⟩:=q6 b
  refine ih_ bo ee ee<|q18 (ds:=[i_ x]) x bo ee ee ee ee ee ee ee ee (leb ee) ee ?_
  obtain ⟨cf,bp,b⟩:=q6 b
  refine ih_ bp (by simp) ee<|q18 (ds:=[i_ y]) y bp ee ee ee ee ee ee ee ee (leb ee) ee<|qs<|mv_ ee<|v_ (.d (i_ (w64 (j + 1)))) ee<|as_ ee<|q0<|qi<|mv_ ee<|v_ (.d (i_ (w64 (m - 1)))) ee<|as_ ee<|nl_<|qw<|qz ?_
  exact ⟨_,(Option.some.inj b).symm,wkE [] [] [] ee ⟨⟨_,ee,q16 (by simp) ee (by decide) (ltd ee)⟩,⟨_,ee,.d (.refl _)⟩,⟨_,ee,.d (.refl _)⟩,⟨_,ee,.d (.refl _)⟩,trivial⟩ ⟨⟨ltd ee,.inr ⟨by decide,_,ee,.dat _ _⟩⟩,trivial⟩⟩
 intro n hb
 subst hb
 refine sr_<|mv_ ee<|as_ ee<|nt_ ?_
 obtain rfl:=q9 f
 exact ⟨.inr ee,_,ee,wkA [] [] []⟩
theorem qd5 (g : List Int) (b : Int) (s : Int) (k : Int) (r : Int × Bool × List Int) (a : q49  g b s k = some r) : q1j Tryz.prog tab 152 [.hs 0 1 0 g.length,di_ b,di_ s,di_ k] [(0,.dat 1 (g.map (eI .i64)))] 1 (.d (.tup [i_ r.1,.bool r.2.1])) [(0,.dat 1 (r.2.2.map (eI .i64)))] 1:=by
 unfold q49 at a
 refine q1a Tryz.func152 ee (by kernel_rfl) (by kernel_rfl) ee<|sr_<|as_ ee<|as_ ee<|q0<|qa<|qm [(some [0],[0]),(some [],[]),(some [0],[0]),(some [],[]),(some [0],[]),(some [],[]),(some [],[]),(some [],[]),(some [0],[]),(some [],[]),(some [],[]),(some [],[]),(some [],[]),(some [],[]),(some [],[]),(some [],[])] (by kernel_rfl)<|mv_ ee<|mv_ ee<|mv_ ee<|mv_ ee<|mv_ ee<|mv_ ee ?_
 obtain ⟨h,ao,a⟩:=q6 a
 refine ih_ ao ee ee<|lh_ (di_ h) ao ee<|mv_ ee<|mv_ ee ?_
 obtain ⟨j,ap,a⟩:=q6 a
 refine ih_ ap ee ee<|lh_ (di_ j) ap ee ?_
 obtain ⟨fr,aq,a⟩:=q6 a
 refine ih_ aq ee ee<|q18 (ds:=[i_ h]) h aq ee ee ee ee ee ee ee ee (leb ee) ee ?_
 obtain ⟨fs,ar,a⟩:=q6 a
 refine ih_ ar (by simp) ee<|q18 (ds:=[i_ j]) j ar ee ee ee ee ee ee ee ee (leb ee) ee<|qs<|mv_ ee<|v_ (.d (i_ (w64 (b + 1)))) ee<|mv_ ee<|v_ (.d (i_ (w64 (s - 1)))) ee<|as_ ee<|as_ ee<|q0<|qa ?_
 obtain ⟨au,fd,a⟩:=q6 a
 refine qp (fun l=>l = au) (fun (l : Int)=>⟨[(0,.hs 0 1 0 ((g.set b.toNat h).set k.toNat j).length),(1,di_ b),(10,di_ l),(11,.d (i_ (w64 (s - 1))))],[(0,.dat 1 (((g.set b.toNat h).set k.toNat j).map (eI .i64)))],1⟩) (by simp) ?_ ?_
 ·refine qt (q37 s g b h k j) (fun (aa : Int)=>⟨[(0,.hs 0 1 0 ((g.set b.toNat h).set k.toNat j).length),(1,di_ b),(10,di_ aa),(11,.d (i_ (w64 (s - 1))))],[(0,.dat 1 (((g.set b.toNat h).set k.toNat j).map (eI .i64)))],1⟩) (w64 (b + 1)) au fd (wkE [] [] [] ee ⟨⟨_,ee,q16 (by simp) ee (by decide) (ltd ee)⟩,⟨_,ee,.d (.refl _)⟩,⟨_,ee,.d (.refl _)⟩,⟨_,ee,.d (.refl _)⟩,trivial⟩ ⟨⟨ltd ee,.inr ⟨by decide,_,ee,.dat _ _⟩⟩,trivial⟩) ?_
  intro aa ft t
  unfold q37 at t
  refine qa<|qa<|qm [(some [],[]),(some [],[]),(some [0],[]),(some [],[]),(some [],[]),(some [],[]),(some [0],[]),(some [],[]),(some [],[]),(some [],[]),(some [],[]),(some [],[]),(some [],[]),(some [],[])] (by kernel_rfl)<|mv_ ee<|mv_ ee<|v_ (.d (.bool (decide (aa≤(w64 (s - 1)))))) ee ?_
  obtain ⟨fe,m,t⟩:=q6 t
  refine qq 11 (fun A st=>∃ (av aw ax ay az ba bb bc bd be : V),st = A [(43,db_ fe),(42,be),(41,bd),(40,bc),(39,bb),(38,ba),(37,az),(36,ay),(35,ax),(34,aw),(33,av)]) ?_ ?_
  ·refine qu ee ee m (fun m=>?_) (fun m=>?_)
   ·refine mv_ ee<|mv_ ee ?_
    obtain ⟨bf,bg,m⟩:=q6 m
    refine ih_ bg ee ee<|lh_ (di_ bf) bg ee<|mv_ ee<|mv_ ee ?_
    obtain ⟨bh,bi,m⟩:=q6 m
    refine ih_ bi ee ee<|lh_ (di_ bh) bi ee ?_
    obtain ⟨bj,ff,m⟩:=q6 m
    refine pc_ (q3n bf bh bj ff) ee<|v_ (db_ bj) ee<|q0 ?_
    obtain rfl:=q9 m
    exact ⟨_,_,_,_,_,_,_,_,_,_,ee⟩
   refine q7 ee<|q7 ee<|q7 ee<|q7 ee<|q7 ee<|q7 ee<|q7 ee<|q7 ee<|q7 ee<|v_ (db_ false) ee<|q0 ?_
   obtain rfl:=q9 m
   exact ⟨_,_,_,_,_,_,_,_,_,_,ee⟩
  rintro _ ⟨av,aw,ax,ay,az,ba,bb,bc,bd,be,rfl⟩
  refine q0 ?_
  refine qg ee t (fun _ t=>?_) (fun _ t=>?_)
  ·refine qh<|ql<|qi<|mv_ ee<|v_ (.d (i_ (w64 (aa + 1)))) ee<|as_ ee<|nl_<|qw<|qz ?_
   exact ⟨_,(Option.some.inj t).symm,wkA [] [] []⟩
  refine qv ?_
  refine ⟨_,(Option.some.inj t).symm,fun hm=>?_⟩
  subst hm
  exact ⟨_,ee,wkA [] [] []⟩
 intro l hb
 subst hb
 refine qa ?_
 obtain ⟨bk,fg,a⟩:=q6 a
 refine qp (fun u=>u = bk) (fun (u : Int)=>⟨[(0,.hs 0 1 0 ((g.set b.toNat h).set k.toNat j).length),(1,di_ b),(10,di_ l),(11,di_ u)],[(0,.dat 1 (((g.set b.toNat h).set k.toNat j).map (eI .i64)))],1⟩) (by simp) ?_ ?_
 ·refine qt (q38 l g b h k j) (fun (ab : Int)=>⟨[(0,.hs 0 1 0 ((g.set b.toNat h).set k.toNat j).length),(1,di_ b),(10,di_ l),(11,di_ ab)],[(0,.dat 1 (((g.set b.toNat h).set k.toNat j).map (eI .i64)))],1⟩) (w64 (s - 1)) bk fg (wkA [] [] []) ?_
  intro ab fu v
  unfold q38 at v
  refine qa<|qa<|qm [(some [],[]),(some [],[]),(some [],[]),(some [0],[]),(some [],[]),(some [],[]),(some [],[]),(some [0],[]),(some [],[]),(some [],[]),(some [],[]),(some [],[]),(some [],[]),(some [],[]),(some [],[])] (by kernel_rfl)<|mv_ ee<|mv_ ee<|v_ (.d (.bool (decide (l≤ab)))) ee ?_
  obtain ⟨fh,n,v⟩:=q6 v
  refine qq 12 (fun A st=>∃ (bl bm bn bo bp bq br bs bt bu bv : V),st = A [(60,db_ fh),(59,bv),(58,bu),(57,bt),(56,bs),(55,br),(54,bq),(53,bp),(52,bo),(51,bn),(50,bm),(49,bl)]) ?_ ?_
  ·refine qu ee ee n (fun n=>?_) (fun n=>?_)
   ·refine mv_ ee<|mv_ ee ?_
    obtain ⟨bw,bz,n⟩:=q6 n
    refine ih_ bz ee ee<|lh_ (di_ bw) bz ee<|mv_ ee<|mv_ ee ?_
    obtain ⟨ca,cb,n⟩:=q6 n
    refine ih_ cb ee ee<|lh_ (di_ ca) cb ee ?_
    obtain ⟨ag,fi,n⟩:=q6 n
    refine pc_ (q3n bw ca ag fi) ee<|v_ (db_ (!ag)) ee<|v_ (db_ (!ag)) ee<|q0 ?_
    obtain rfl:=q9 n
    exact ⟨_,_,_,_,_,_,_,_,_,_,_,ee⟩
   refine q7 ee<|q7 ee<|q7 ee<|q7 ee<|q7 ee<|q7 ee<|q7 ee<|q7 ee<|q7 ee<|q7 ee<|v_ (db_ false) ee<|q0 ?_
   obtain rfl:=q9 n
   exact ⟨_,_,_,_,_,_,_,_,_,_,_,ee⟩
  rintro _ ⟨bl,bm,bn,bo,bp,bq,br,bs,bt,bu,bv,rfl⟩
  refine q0 ?_
  refine qg ee v (fun _ v=>?_) (fun _ v=>?_)
  ·refine qh<|ql<|qi<|mv_ ee<|v_ (.d (i_ (w64 (ab - 1)))) ee<|as_ ee<|nl_<|qw<|qz ?_
   exact ⟨_,(Option.some.inj v).symm,wkA [] [] []⟩
  refine qv ?_
  refine ⟨_,(Option.some.inj v).symm,fun hm=>?_⟩
  subst hm
  exact ⟨_,ee,wkA [] [] []⟩
 intro u hb
 subst hb
 refine qa<|sr_<|mv_ ee<|mv_ ee<|v_ (.d (.bool (decide (l > u)))) ee<|q0 ?_
 refine qg ee a (fun _ a=>?_) (fun _ a=>?_)
 ·refine qa<|qm [(some [0],[0]),(some [],[]),(some [0],[0]),(some [],[]),(some [0],[]),(some [],[]),(some [],[]),(some [],[]),(some [0],[]),(some [],[]),(some [],[]),(some [],[]),(some [],[]),(some [],[]),(some [],[]),(some [],[])] (by kernel_rfl)<|mv_ ee<|mv_ ee<|mv_ ee<|mv_ ee<|mv_ ee<|mv_ ee ?_
  obtain ⟨ah,cc,a⟩:=q6 a
  refine ih_ cc ee ee<|lh_ (di_ ah) cc ee<|mv_ ee<|mv_ ee ?_
  obtain ⟨ai,cd,a⟩:=q6 a
  refine ih_ cd ee ee<|lh_ (di_ ai) cd ee ?_
  obtain ⟨fv,ce,a⟩:=q6 a
  refine ih_ ce ee ee<|q18 (ds:=[i_ ah]) ah ce ee ee ee ee ee ee ee ee (leb ee) ee ?_
  obtain ⟨fw,cf,a⟩:=q6 a
  refine ih_ cf (by simp) ee<|q18 (ds:=[i_ ai]) ai cf ee ee ee ee ee ee ee ee (leb ee) ee<|qs<|mv_ ee<|as_ ee<|as_ ee<|nt_ ?_
  obtain rfl:=q9 a
  exact ⟨.inr ee,_,ee,wkA [] [] []⟩
 refine qh<|qa<|qm [(some [0],[0]),(some [],[]),(some [0],[0]),(some [],[]),(some [0],[]),(some [],[]),(some [],[]),(some [],[]),(some [0],[]),(some [],[]),(some [],[]),(some [],[]),(some [],[]),(some [],[]),(some [],[]),(some [],[])] (by kernel_rfl)<|mv_ ee<|mv_ ee<|mv_ ee<|mv_ ee<|mv_ ee<|mv_ ee ?_
 obtain ⟨ac,cg,a⟩:=q6 a
 refine ih_ cg ee ee<|lh_ (di_ ac) cg ee<|mv_ ee<|mv_ ee ?_
 obtain ⟨ad,ch,a⟩:=q6 a
 refine ih_ ch ee ee<|lh_ (di_ ad) ch ee ?_
 obtain ⟨fx,ci,a⟩:=q6 a
 refine ih_ ci ee ee<|q18 (ds:=[i_ ac]) ac ci ee ee ee ee ee ee ee ee (leb ee) ee ?_
 obtain ⟨fy,cj,a⟩:=q6 a
 refine ih_ cj (by simp) ee<|q18 (ds:=[i_ ad]) ad cj ee ee ee ee ee ee ee ee (leb ee) ee<|qs<|mv_ ee<|v_ (.d (i_ (w64 (l + 1)))) ee<|as_ ee<|qs<|mv_ ee<|v_ (.d (i_ (w64 (u - 1)))) ee<|as_ ee<|q0<|qa ?_
 obtain ⟨ck,fj,a⟩:=q6 a
 refine qp (fun y=>y = ck) (fun (y : Int × List Int)=>⟨[(0,.hs 0 1 0 y.2.length),(1,di_ b),(11,di_ y.1)],[(0,.dat 1 (y.2.map (eI .i64)))],1⟩) (by simp) ?_ ?_
 ·refine qt (q39 b) (fun (c : Int × Int × List Int)=>⟨[(0,.hs 0 1 0 c.2.2.length),(1,di_ b),(10,di_ c.1),(11,di_ c.2.1)],[(0,.dat 1 (c.2.2.map (eI .i64)))],1⟩) (w64 (l + 1),w64 (u - 1),(((g.set b.toNat h).set k.toNat j).set l.toNat ac).set u.toNat ad) ck fj (wkE [] [] [] ee ⟨⟨_,ee,q16 (by simp) ee (by decide) (ltd ee)⟩,⟨_,ee,.d (.refl _)⟩,⟨_,ee,.d (.refl _)⟩,⟨_,ee,.d (.refl _)⟩,trivial⟩ ⟨⟨ltd ee,.inr ⟨by decide,_,ee,.dat _ _⟩⟩,trivial⟩) ?_
  intro c fz f
  unfold q39 at f
  refine ql<|qa ?_
  obtain ⟨cl,fk,f⟩:=q6 f
  refine qp (fun q=>q = cl) (fun (q : Int)=>⟨[(0,.hs 0 1 0 c.2.2.length),(1,di_ b),(10,di_ q),(11,di_ c.2.1)],[(0,.dat 1 (c.2.2.map (eI .i64)))],1⟩) (by simp) ?_ ?_
  ·refine qt (q3a c b) (fun (ae : Int)=>⟨[(0,.hs 0 1 0 c.2.2.length),(1,di_ b),(10,di_ ae),(11,di_ c.2.1)],[(0,.dat 1 (c.2.2.map (eI .i64)))],1⟩) c.1 cl fk (wkA [] [] []) ?_
   intro ae ga w
   unfold q3a at w
   refine qa<|qa<|qm [(some [],[]),(some [],[]),(some [0],[]),(some [],[]),(some [],[]),(some [],[]),(some [0],[]),(some [],[]),(some [],[]),(some [],[]),(some [],[]),(some [],[]),(some [],[]),(some [],[])] (by kernel_rfl)<|mv_ ee<|mv_ ee<|v_ (.d (.bool (decide (ae≤c.2.1)))) ee ?_
   obtain ⟨fl,o,w⟩:=q6 w
   refine qq 11 (fun A st=>∃ (cm cn co cp cq cr cs ct cu cv : V),st = A [(112,db_ fl),(111,cv),(110,cu),(109,ct),(108,cs),(107,cr),(106,cq),(105,cp),(104,co),(103,cn),(102,cm)]) ?_ ?_
   ·refine qu ee ee o (fun o=>?_) (fun o=>?_)
    ·refine mv_ ee<|mv_ ee ?_
     obtain ⟨cw,cx,o⟩:=q6 o
     refine ih_ cx ee ee<|lh_ (di_ cw) cx ee<|mv_ ee<|mv_ ee ?_
     obtain ⟨cy,cz,o⟩:=q6 o
     refine ih_ cz ee ee<|lh_ (di_ cy) cz ee ?_
     obtain ⟨da,fm,o⟩:=q6 o
     refine pc_ (q3n cw cy da fm) ee<|v_ (db_ da) ee<|q0 ?_
     obtain rfl:=q9 o
     exact ⟨_,_,_,_,_,_,_,_,_,_,ee⟩
    refine q7 ee<|q7 ee<|q7 ee<|q7 ee<|q7 ee<|q7 ee<|q7 ee<|q7 ee<|q7 ee<|v_ (db_ false) ee<|q0 ?_
    obtain rfl:=q9 o
    exact ⟨_,_,_,_,_,_,_,_,_,_,ee⟩
   rintro _ ⟨cm,cn,co,cp,cq,cr,cs,ct,cu,cv,rfl⟩
   refine q0 ?_
   refine qg ee w (fun _ w=>?_) (fun _ w=>?_)
   ·refine qh<|ql<|qi<|mv_ ee<|v_ (.d (i_ (w64 (ae + 1)))) ee<|as_ ee<|nl_<|qw<|qz ?_
    exact ⟨_,(Option.some.inj w).symm,wkA [] [] []⟩
   refine qv ?_
   refine ⟨_,(Option.some.inj w).symm,fun hm=>?_⟩
   subst hm
   exact ⟨_,ee,wkA [] [] []⟩
  intro q hb
  subst hb
  refine qa ?_
  obtain ⟨dc,fn,f⟩:=q6 f
  refine qp (fun z=>z = dc) (fun (z : Int)=>⟨[(0,.hs 0 1 0 c.2.2.length),(1,di_ b),(10,di_ q),(11,di_ z)],[(0,.dat 1 (c.2.2.map (eI .i64)))],1⟩) (by simp) ?_ ?_
  ·refine qt (q3b q c b) (fun (af : Int)=>⟨[(0,.hs 0 1 0 c.2.2.length),(1,di_ b),(10,di_ q),(11,di_ af)],[(0,.dat 1 (c.2.2.map (eI .i64)))],1⟩) c.2.1 dc fn (wkA [] [] []) ?_
   intro af gb x
   unfold q3b at x
   refine qa<|qa<|qm [(some [],[]),(some [],[]),(some [],[]),(some [0],[]),(some [],[]),(some [],[]),(some [],[]),(some [0],[]),(some [],[]),(some [],[]),(some [],[]),(some [],[]),(some [],[]),(some [],[]),(some [],[])] (by kernel_rfl)<|mv_ ee<|mv_ ee<|v_ (.d (.bool (decide (q≤af)))) ee ?_
   obtain ⟨fo,p,x⟩:=q6 x
   refine qq 12 (fun A st=>∃ (dd de df dg dh dj dk dl dm dn dp : V),st = A [(129,db_ fo),(128,dp),(127,dn),(126,dm),(125,dl),(124,dk),(123,dj),(122,dh),(121,dg),(120,df),(119,de),(118,dd)]) ?_ ?_
   ·refine qu ee ee p (fun p=>?_) (fun p=>?_)
    ·refine mv_ ee<|mv_ ee ?_
     obtain ⟨dq,dr,p⟩:=q6 p
     refine ih_ dr ee ee<|lh_ (di_ dq) dr ee<|mv_ ee<|mv_ ee ?_
     obtain ⟨dt,du,p⟩:=q6 p
     refine ih_ du ee ee<|lh_ (di_ dt) du ee ?_
     obtain ⟨aj,fq,p⟩:=q6 p
     refine pc_ (q3n dq dt aj fq) ee<|v_ (db_ (!aj)) ee<|v_ (db_ (!aj)) ee<|q0 ?_
     obtain rfl:=q9 p
     exact ⟨_,_,_,_,_,_,_,_,_,_,_,ee⟩
    refine q7 ee<|q7 ee<|q7 ee<|q7 ee<|q7 ee<|q7 ee<|q7 ee<|q7 ee<|q7 ee<|q7 ee<|v_ (db_ false) ee<|q0 ?_
    obtain rfl:=q9 p
    exact ⟨_,_,_,_,_,_,_,_,_,_,_,ee⟩
   rintro _ ⟨dd,de,df,dg,dh,dj,dk,dl,dm,dn,dp,rfl⟩
   refine q0 ?_
   refine qg ee x (fun _ x=>?_) (fun _ x=>?_)
   ·refine qh<|ql<|qi<|mv_ ee<|v_ (.d (i_ (w64 (af - 1)))) ee<|as_ ee<|nl_<|qw<|qz ?_
    exact ⟨_,(Option.some.inj x).symm,wkA [] [] []⟩
   refine qv ?_
   refine ⟨_,(Option.some.inj x).symm,fun hm=>?_⟩
   subst hm
   exact ⟨_,ee,wkA [] [] []⟩
  intro z hb
  subst hb
  refine qa<|sr_<|mv_ ee<|mv_ ee<|v_ (.d (.bool (decide (q > z)))) ee<|q0 ?_
  refine qg ee f (fun _ f=>?_) (fun _ f=>?_)
  ·refine qv ?_
   refine ⟨_,(Option.some.inj f).symm,fun hm=>?_⟩
   subst hm
   exact ⟨_,ee,wkA [] [] []⟩
  refine qh<|qa<|qm [(some [0],[0]),(some [],[]),(some [0],[0]),(some [],[]),(some [0],[]),(some [],[]),(some [],[]),(some [],[]),(some [0],[]),(some [],[]),(some [],[]),(some [],[]),(some [],[]),(some [],[]),(some [],[]),(some [],[])] (by kernel_rfl)<|mv_ ee<|mv_ ee<|mv_ ee<|mv_ ee<|mv_ ee<|mv_ ee ?_
  obtain ⟨ak,dv,f⟩:=q6 f
  refine ih_ dv ee ee<|lh_ (di_ ak) dv ee<|mv_ ee<|mv_ ee ?_
  obtain ⟨al,dw,f⟩:=q6 f
  refine ih_ dw ee ee<|lh_ (di_ al) dw ee ?_
  obtain ⟨gc,dx,f⟩:=q6 f
  refine ih_ dx ee ee<|q18 (ds:=[i_ ak]) ak dx ee ee ee ee ee ee ee ee (leb ee) ee ?_
  obtain ⟨gd,dy,f⟩:=q6 f
  refine ih_ dy (by simp) ee<|q18 (ds:=[i_ al]) al dy ee ee ee ee ee ee ee ee (leb ee) ee<|qs<|mv_ ee<|v_ (.d (i_ (w64 (q + 1)))) ee<|as_ ee<|q0<|qi<|mv_ ee<|v_ (.d (i_ (w64 (z - 1)))) ee<|as_ ee<|nl_<|qw<|qz ?_
  exact ⟨_,(Option.some.inj f).symm,wkE [] [] [] ee ⟨⟨_,ee,q16 (by simp) ee (by decide) (ltd ee)⟩,⟨_,ee,.d (.refl _)⟩,⟨_,ee,.d (.refl _)⟩,⟨_,ee,.d (.refl _)⟩,trivial⟩ ⟨⟨ltd ee,.inr ⟨by decide,_,ee,.dat _ _⟩⟩,trivial⟩⟩
 intro y hb
 subst hb
 refine qa<|qm [(some [0],[0]),(some [],[]),(some [0],[0]),(some [],[]),(some [0],[]),(some [],[]),(some [],[]),(some [],[]),(some [0],[]),(some [],[]),(some [],[]),(some [],[]),(some [],[]),(some [],[]),(some [],[]),(some [],[])] (by kernel_rfl)<|mv_ ee<|mv_ ee<|mv_ ee<|mv_ ee<|mv_ ee<|mv_ ee ?_
 obtain ⟨am,dz,a⟩:=q6 a
 refine ih_ dz ee ee<|lh_ (di_ am) dz ee<|mv_ ee<|mv_ ee ?_
 obtain ⟨an,fa,a⟩:=q6 a
 refine ih_ fa ee ee<|lh_ (di_ an) fa ee ?_
 obtain ⟨ge,fb,a⟩:=q6 a
 refine ih_ fb ee ee<|q18 (ds:=[i_ am]) am fb ee ee ee ee ee ee ee ee (leb ee) ee ?_
 obtain ⟨gf,fc,a⟩:=q6 a
 refine ih_ fc (by simp) ee<|q18 (ds:=[i_ an]) an fc ee ee ee ee ee ee ee ee (leb ee) ee<|qs<|mv_ ee<|as_ ee<|as_ ee<|nt_ ?_
 obtain rfl:=q9 a
 exact ⟨.inr ee,_,ee,wkA [] [] []⟩
theorem qcm (b : Int) (r : Int) (a : q47 b = some r) : Pure Tryz.prog tab 159 [i_ b] (.int .u64 r):=by
 unfold q47 at a
 refine qn Tryz.func159 ee (by kernel_rfl) (by kernel_rfl) ee<|sr_<|as_ ee<|qs<|mv_ ee<|v_ (.d (.int .u64 (IntKind.wrap .u64 b))) ee ?_
 obtain ⟨c,f,a⟩:=q6 a
 refine pc_ (qdp (IntKind.wrap .u64 b) c f) ee ?_
 obtain ⟨g,h,a⟩:=q6 a
 refine q13j h ee ee ee<|as_ ee<|nt_ ?_
 obtain rfl:=q9 a
 exact fR_ (.d (.int .u64 g)) ee
theorem qat (a : Int) (r : Int) (b : q3f  a = some r) : q1j Tryz.prog tab 160 [.ref 0 1 0 0] [(0,.dat 1 [[.int .u64 a]])] 1 (.d (.int .u64 r)) [(0,.dat 1 [[.int .u64 r]])] 1:=by
 unfold q3f at b
 refine q1a Tryz.func160 ee (by kernel_rfl) (by kernel_rfl) ee<|sr_<|as_ ee<|q0<|qa<|qm [(some [0],[0]),(some [],[]),(some [],[]),(some [],[]),(some [0],[]),(some [],[]),(some [],[]),(some [0],[]),(some [],[]),(some [],[])] (by kernel_rfl)<|mv_ ee<|v_ (.ref 0 1 0 0) ee<|v_ (.d (.int .u64 a)) ee<|mv_ ee<|v_ (.ref 0 1 0 0) ee<|v_ (.d (.int .u64 a)) ee<|v_ (.d (.int .u64 (IntKind.wrap .u64 (a * (2 ^ 13))))) ee<|v_ (.d (.int .u64 (xorI .u64 a (IntKind.wrap .u64 (a * (2 ^ 13)))))) ee<|v_ (.ref 0 1 0 0) ee<|q1f 0 (.dat 1 [[.int .u64 (xorI .u64 a (IntKind.wrap .u64 (a * (2 ^ 13))))]]) ee<|q0<|qa<|qm [(some [0],[0]),(some [],[]),(some [],[]),(some [],[]),(some [0],[]),(some [],[]),(some [],[]),(some [0],[]),(some [],[]),(some [],[])] (by kernel_rfl)<|mv_ ee<|v_ (.ref 0 1 0 0) ee<|v_ (.d (.int .u64 (xorI .u64 a (IntKind.wrap .u64 (a * (2 ^ 13)))))) ee<|mv_ ee<|v_ (.ref 0 1 0 0) ee<|v_ (.d (.int .u64 (xorI .u64 a (IntKind.wrap .u64 (a * (2 ^ 13)))))) ee<|v_ (.d (.int .u64 (Int.fdiv (xorI .u64 a (IntKind.wrap .u64 (a * (2 ^ 13)))) (2 ^ 7)))) ee<|v_ (.d (.int .u64 (xorI .u64 (xorI .u64 a (IntKind.wrap .u64 (a * (2 ^ 13)))) (Int.fdiv (xorI .u64 a (IntKind.wrap .u64 (a * (2 ^ 13)))) (2 ^ 7))))) ee<|v_ (.ref 0 1 0 0) ee<|q1f 0 (.dat 1 [[.int .u64 (xorI .u64 (xorI .u64 a (IntKind.wrap .u64 (a * (2 ^ 13)))) (Int.fdiv (xorI .u64 a (IntKind.wrap .u64 (a * (2 ^ 13)))) (2 ^ 7)))]]) ee<|q0<|qa<|qm [(some [0],[0]),(some [],[]),(some [],[]),(some [],[]),(some [0],[]),(some [],[]),(some [],[]),(some [0],[]),(some [],[]),(some [],[])] (by kernel_rfl)<|mv_ ee<|v_ (.ref 0 1 0 0) ee<|v_ (.d (.int .u64 (xorI .u64 (xorI .u64 a (IntKind.wrap .u64 (a * (2 ^ 13)))) (Int.fdiv (xorI .u64 a (IntKind.wrap .u64 (a * (2 ^ 13)))) (2 ^ 7))))) ee<|mv_ ee<|v_ (.ref 0 1 0 0) ee<|v_ (.d (.int .u64 (xorI .u64 (xorI .u64 a (IntKind.wrap .u64 (a * (2 ^ 13)))) (Int.fdiv (xorI .u64 a (IntKind.wrap .u64 (a * (2 ^ 13)))) (2 ^ 7))))) ee<|v_ (.d (.int .u64 (IntKind.wrap .u64 ((xorI .u64 (xorI .u64 a (IntKind.wrap .u64 (a * (2 ^ 13)))) (Int.fdiv (xorI .u64 a (IntKind.wrap .u64 (a * (2 ^ 13)))) (2 ^ 7))) * (2 ^ 17))))) ee<|v_ (.d (.int .u64 (xorI .u64 (xorI .u64 (xorI .u64 a (IntKind.wrap .u64 (a * (2 ^ 13)))) (Int.fdiv (xorI .u64 a (IntKind.wrap .u64 (a * (2 ^ 13)))) (2 ^ 7))) (IntKind.wrap .u64 ((xorI .u64 (xorI .u64 a (IntKind.wrap .u64 (a * (2 ^ 13)))) (Int.fdiv (xorI .u64 a (IntKind.wrap .u64 (a * (2 ^ 13)))) (2 ^ 7))) * (2 ^ 17)))))) ee ?_
 refine v_ (.ref 0 1 0 0) ee<|q1f 0 (.dat 1 [[.int .u64 (xorI .u64 (xorI .u64 (xorI .u64 a (IntKind.wrap .u64 (a * (2 ^ 13)))) (Int.fdiv (xorI .u64 a (IntKind.wrap .u64 (a * (2 ^ 13)))) (2 ^ 7))) (IntKind.wrap .u64 ((xorI .u64 (xorI .u64 a (IntKind.wrap .u64 (a * (2 ^ 13)))) (Int.fdiv (xorI .u64 a (IntKind.wrap .u64 (a * (2 ^ 13)))) (2 ^ 7))) * (2 ^ 17))))]]) ee<|qs<|mv_ ee<|v_ (.ref 0 1 0 0) ee<|v_ (.d (.int .u64 (xorI .u64 (xorI .u64 (xorI .u64 a (IntKind.wrap .u64 (a * (2 ^ 13)))) (Int.fdiv (xorI .u64 a (IntKind.wrap .u64 (a * (2 ^ 13)))) (2 ^ 7))) (IntKind.wrap .u64 ((xorI .u64 (xorI .u64 a (IntKind.wrap .u64 (a * (2 ^ 13)))) (Int.fdiv (xorI .u64 a (IntKind.wrap .u64 (a * (2 ^ 13)))) (2 ^ 7))) * (2 ^ 17)))))) ee<|as_ ee<|nt_ ?_
 obtain rfl:=q9 b
 exact ⟨.inr ee,_,ee,wkA [] [] []⟩
theorem qbs (m : List Int) (a : Int) (b : Int) (r : List Int) (g : q2y  m a b = some r) : q1j Tryz.prog tab 146 [.hs 0 1 0 m.length,di_ a,di_ b] [(0,.dat 1 (m.map (eI .i64)))] 1 (.d (.tup [])) [(0,.dat 1 (r.map (eI .i64)))] 1:=by
 unfold q2y at g
 refine q1a Tryz.func146 ee (by kernel_rfl) (by kernel_rfl) ee<|sr_<|mv_ ee<|mv_ ee<|v_ (.d (i_ (w64 (b - a)))) ee<|as_ ee<|qs<|mv_ ee<|v_ (.d (.bool (decide ((w64 (b - a)) ≥ 8)))) ee<|q0 ?_
 refine qg ee g (fun _ g=>?_) (fun _ g=>?_)
 ·refine sr_<|mv_ ee<|v_ (.d (.int .u64 (IntKind.wrap .u64 (w64 (b - a))))) ee<|q13 ee ee<|q1f 1 (.dat 1 [[.int .u64 (IntKind.wrap .u64 (w64 (b - a)))]]) ee<|qs<|mv_ ee ?_
  obtain ⟨h,u,g⟩:=q6 g
  refine pc_ (qcm (w64 (b - a)) h u) ee<|as_ ee<|qs<|mv_ ee<|mv_ ee<|v_ (.d (i_ (w64 (Int.tdiv (w64 (b - a)) 4)))) ee<|v_ (.d (i_ (w64 ((w64 (Int.tdiv (w64 (b - a)) 4)) * 2)))) ee<|v_ (.d (i_ (w64 (a + (w64 ((w64 (Int.tdiv (w64 (b - a)) 4)) * 2)))))) ee<|v_ (.d (i_ (w64 ((w64 (a + (w64 ((w64 (Int.tdiv (w64 (b - a)) 4)) * 2)))) - 1)))) ee<|as_ ee<|q0 ?_
  obtain ⟨v,w,g⟩:=q6 g
  refine ql<|qt (q2c a b h) (fun (f : Int × List Int × Int)=>⟨[(0,.hs 0 1 0 f.2.1.length),(1,di_ a),(6,.d (i_ (w64 (b - a)))),(7,.ref 1 1 0 0),(8,.d (.int .u64 h)),(9,di_ f.1)],[(0,.dat 1 (f.2.1.map (eI .i64))),(1,.dat 1 [[.int .u64 f.2.2]])],2⟩) (w64 ((w64 (a + (w64 ((w64 (Int.tdiv (w64 (b - a)) 4)) * 2)))) - 1),m,IntKind.wrap .u64 (w64 (b - a))) v w (wkA [(1,1)] [] []) ?_
  intro f z c
  unfold q2c at c
  refine qa<|sr_<|mv_ ee<|mv_ ee<|mv_ ee<|v_ (.d (i_ (w64 (Int.tdiv (w64 (b - a)) 4)))) ee<|v_ (.d (i_ (w64 ((w64 (Int.tdiv (w64 (b - a)) 4)) * 2)))) ee<|v_ (.d (i_ (w64 (a + (w64 ((w64 (Int.tdiv (w64 (b - a)) 4)) * 2)))))) ee<|v_ (.d (i_ (w64 ((w64 (a + (w64 ((w64 (Int.tdiv (w64 (b - a)) 4)) * 2)))) + 1)))) ee<|v_ (.d (.bool (decide (f.1≤(w64 ((w64 (a + (w64 ((w64 (Int.tdiv (w64 (b - a)) 4)) * 2)))) + 1)))))) ee<|q0 ?_
  refine qg ee c (fun _ c=>?_) (fun _ c=>?_)
  ·refine qh<|qa<|ql<|sr_ ?_
   obtain ⟨j,x,c⟩:=q6 c
   refine q41 [(0,1)] [(0,1),(1,0)] [.ref 1 1 0 0] (.d (.int .u64 j)) 1 [(1,.dat 1 [[.int .u64 j]]),(0,.dat 1 (f.2.1.map (eI .i64)))] 2 (qat f.2.2 j x)<|mv_ ee<|v_ (.d (.int .u64 (IntKind.wrap .u64 (h - 1)))) ee<|v_ (.d (.int .u64 (andI .u64 j (IntKind.wrap .u64 (h - 1))))) ee<|v_ (.d (i_ (w64 (andI .u64 j (IntKind.wrap .u64 (h - 1)))))) ee<|as_ ee<|q0<|qa<|sr_<|mv_ ee<|mv_ ee<|v_ (.d (.bool (decide ((w64 (andI .u64 j (IntKind.wrap .u64 (h - 1)))) ≥ (w64 (b - a)))))) ee<|q0 ?_
   obtain ⟨y,l,c⟩:=q6 c
   refine q74 (fun k=>k = y) (fun (k : Int)=>⟨[(0,.hs 0 1 0 f.2.1.length),(1,di_ a),(6,.d (i_ (w64 (b - a)))),(7,.ref 1 1 0 0),(8,.d (.int .u64 h)),(9,di_ f.1),(10,di_ k)],[(0,.dat 1 (f.2.1.map (eI .i64))),(1,.dat 1 [[.int .u64 j]])],2⟩) (by simp) ?_ ?_
   ·refine qg ee l (fun _ l=>?_) (fun _ l=>?_)
    ·refine qi<|mv_ ee<|mv_ ee<|v_ (.d (i_ (w64 ((w64 (andI .u64 j (IntKind.wrap .u64 (h - 1)))) - (w64 (b - a)))))) ee<|as_ ee<|nl_ ?_
     obtain rfl:=q9 l
     exact ⟨_,ee,wkA [(1,1)] [] []⟩
    refine qh<|qz ?_
    obtain rfl:=q9 l
    exact ⟨_,ee,wkA [(1,1)] [] []⟩
   intro k hb
   subst hb
   refine qm [(some [0],[0]),(some [],[]),(some [0],[0]),(some [],[]),(some [0],[]),(some [],[]),(some [],[]),(some [],[]),(some [0],[]),(some [],[]),(some [],[]),(some [],[]),(some [],[]),(some [],[]),(some [],[]),(some [],[]),(some [],[]),(some [],[]),(some [],[]),(some [],[])] (by kernel_rfl)<|mv_ ee<|mv_ ee<|mv_ ee<|mv_ ee<|mv_ ee<|v_ (.d (i_ (w64 (a + k)))) ee<|mv_ ee<|mv_ ee<|mv_ ee<|v_ (.d (i_ (w64 (a + k)))) ee ?_
   obtain ⟨n,p,c⟩:=q6 c
   refine ih_ p ee ee<|lh_ (di_ n) p ee<|mv_ ee<|mv_ ee ?_
   obtain ⟨o,q,c⟩:=q6 c
   refine ih_ q ee ee<|lh_ (di_ o) q ee ?_
   obtain ⟨aa,s,c⟩:=q6 c
   refine ih_ s ee ee<|q18 (ds:=[i_ n]) n s ee ee ee ee ee ee ee ee (leb ee) ee ?_
   obtain ⟨ab,t,c⟩:=q6 c
   refine ih_ t (by simp) ee<|q18 (ds:=[i_ o]) o t ee ee ee ee ee ee ee ee (leb ee) ee<|nl_<|qw<|qi<|mv_ ee<|v_ (.d (i_ (w64 (f.1 + 1)))) ee<|as_ ee<|nl_ ?_
   exact ⟨_,(Option.some.inj c).symm,wkE [(1,1)] [] [] ee ⟨⟨_,ee,q16 (by simp) ee (by decide) (ltd ee)⟩,⟨_,ee,.d (.refl _)⟩,⟨_,ee,.d (.refl _)⟩,⟨_,ee,.ref ee (by decide) (ltd ee)⟩,⟨_,ee,.d (.refl _)⟩,⟨_,ee,.d (.refl _)⟩,trivial⟩ ⟨⟨ltd ee,.inr ⟨by decide,_,ee,.dat _ _⟩⟩,⟨ltd ee,.inr ⟨by decide,_,ee,.dat _ _⟩⟩,trivial⟩⟩
  refine qv ?_
  refine ⟨_,(Option.some.inj c).symm,fun hm=>?_⟩
  subst hm
  obtain rfl:=q9 g
  exact ⟨.inl ee,_,ee,wkA [] [] []⟩
 refine qh<|qz ?_
 obtain rfl:=q9 g
 exact ⟨.inl ee,_,ee,wkA [] [] []⟩
theorem qd6 (rec : List Int→Int→Int→Int→Option (List Int)) (hrec : ∀ (n : List Int) (o : Int) (p : Int) (q : Int) (r : List Int),rec n o p q = some r→q1j Tryz.prog tab 132 [.hs 0 1 0 n.length,di_ o,di_ p,di_ q] [(0,.dat 1 (n.map (eI .i64)))] 1 (.d (.tup [])) [(0,.dat 1 (r.map (eI .i64)))] 1) (n : List Int) (o : Int) (p : Int) (q : Int) (r : List Int) (s : q2x rec  n o p q = some r) : q1j Tryz.prog tab 132 [.hs 0 1 0 n.length,di_ o,di_ p,di_ q] [(0,.dat 1 (n.map (eI .i64)))] 1 (.d (.tup [])) [(0,.dat 1 (r.map (eI .i64)))] 1:=by
 unfold q2x at s
 refine q1a Tryz.func132 ee (by kernel_rfl) (by kernel_rfl) ee<|sr_<|as_ ee<|qs<|as_ ee<|q0 ?_
 obtain ⟨bd,be,s⟩:=q6 s
 refine ql<|qt (q2q rec) (fun (a : Int × Int × Int × Bool × Bool × List Int)=>⟨[(0,.hs 0 1 0 a.2.2.2.2.2.length),(1,di_ a.1),(2,di_ a.2.1),(3,di_ a.2.2.1),(8,db_ a.2.2.2.1),(9,db_ a.2.2.2.2.1)],[(0,.dat 1 (a.2.2.2.2.2.map (eI .i64)))],1⟩) (o,p,q,true,true,n) bd be (wkA [] [] []) ?_
 intro a cn b
 unfold q2q at b
 refine ql<|sr_<|mv_ ee<|mv_ ee<|v_ (.d (i_ (w64 (a.2.1 - a.1)))) ee<|as_ ee<|q0<|qa<|sr_<|mv_ ee<|v_ (.d (.bool (decide ((w64 (a.2.1 - a.1))≤12)))) ee<|q0 ?_
 refine qg ee b (fun _ b=>?_) (fun _ b=>?_)
 ·refine sr_<|mv_ ee<|mv_ ee<|mv_ ee ?_
  obtain ⟨ac,bf,b⟩:=q6 b
  obtain ⟨co,bg,b⟩:=q6 b
  have cp:=q1h bg
  refine q41 [(0,0)] [(0,0)] [.hs 0 1 0 a.2.2.2.2.2.length,di_ a.1,di_ a.2.1] (.d (.tup [])) 1 [(0,.dat 1 (ac.map (eI .i64)))] 1 (qbu a.2.2.2.2.2 a.1 a.2.1 ac bf)<|nt_ ?_
  refine ⟨_,(Option.some.inj b).symm,fun hm=>?_⟩
  subst hm
  obtain rfl:=q9 s
  exact ⟨.inr ee,_,ee,wkA [] [] []⟩
 refine qh<|qa<|sr_<|mv_ ee<|v_ (db_ (a.2.2.1 == 0)) ee<|q0 ?_
 refine qg ee b (fun _ b=>?_) (fun _ b=>?_)
 ·refine sr_<|mv_ ee<|mv_ ee<|mv_ ee ?_
  obtain ⟨ad,bh,b⟩:=q6 b
  obtain ⟨cq,bi,b⟩:=q6 b
  have cr:=q1h bi
  refine q41 [(0,0)] [(0,0)] [.hs 0 1 0 a.2.2.2.2.2.length,di_ a.1,di_ a.2.1] (.d (.tup [])) 1 [(0,.dat 1 (ad.map (eI .i64)))] 1 (qdd a.2.2.2.2.2 a.1 a.2.1 ad bh)<|nt_ ?_
  refine ⟨_,(Option.some.inj b).symm,fun hm=>?_⟩
  subst hm
  obtain rfl:=q9 s
  exact ⟨.inr ee,_,ee,wkA [] [] []⟩
 refine qh<|qa<|sr_<|mv_ ee<|v_ (db_ (!a.2.2.2.1)) ee<|q0 ?_
 obtain ⟨bj,l,b⟩:=q6 b
 refine q74 (fun f=>f = bj) (fun (f : Int × List Int)=>⟨[(0,.hs 0 1 0 f.2.length),(1,di_ a.1),(2,di_ a.2.1),(3,di_ f.1),(8,db_ a.2.2.2.1),(9,db_ a.2.2.2.2.1),(10,.d (i_ (w64 (a.2.1 - a.1))))],[(0,.dat 1 (f.2.map (eI .i64)))],1⟩) (by simp) ?_ ?_
 ·refine qg ee l (fun _ l=>?_) (fun _ l=>?_)
  ·refine sr_<|mv_ ee<|mv_ ee<|mv_ ee ?_
   obtain ⟨ae,bk,l⟩:=q6 l
   obtain ⟨cs,bl,l⟩:=q6 l
   have bm:=q1h bl
   refine q41 [(0,0)] [(0,0)] [.hs 0 1 0 a.2.2.2.2.2.length,di_ a.1,di_ a.2.1] (.d (.tup [])) 1 [(0,.dat 1 (ae.map (eI .i64)))] 1 (qbs a.2.2.2.2.2 a.1 a.2.1 ae bk)<|q0<|qi<|mv_ ee<|v_ (.d (i_ (w64 (a.2.2.1 - 1)))) ee<|as_ ee<|nl_ ?_
   obtain rfl:=q9 l
   exact ⟨_,ee,wkE [] [] [] ee ⟨⟨_,ee,q16 (by simp [bm]) ee (by decide) (ltd ee)⟩,⟨_,ee,.d (.refl _)⟩,⟨_,ee,.d (.refl _)⟩,⟨_,ee,.d (.refl _)⟩,⟨_,ee,.d (.refl _)⟩,⟨_,ee,.d (.refl _)⟩,⟨_,ee,.d (.refl _)⟩,trivial⟩ ⟨⟨ltd ee,.inr ⟨by decide,_,ee,.dat _ _⟩⟩,trivial⟩⟩
  refine qh<|qz ?_
  obtain rfl:=q9 l
  exact ⟨_,ee,wkA [] [] []⟩
 intro f hb
 subst hb
 refine sr_<|mv_ ee<|mv_ ee<|mv_ ee ?_
 obtain ⟨t,bn,b⟩:=q6 b
 refine qpb [.hs 0 1 0 f.2.length,di_ a.1,di_ a.2.1] (qdq f.2 a.1 a.2.1 t bn) ee ee (qaf (qc1 ee ee) (qaf ee (qaf ee ee))) (.inr ee)<|mv_ ee<|v_ (di_ t.1) ee<|v_ (di_ t.2) ee<|as_ ee<|as_ ee<|q0<|qa<|sr_<|mv_ ee<|v_ (db_ (t.2 == 2)) ee<|q0 ?_
 obtain ⟨bo,m,b⟩:=q6 b
 refine q74 (fun g=>g = bo) (fun (g : Int × Int × List Int)=>⟨[(0,.hs 0 1 0 g.2.2.length),(1,di_ a.1),(2,di_ a.2.1),(3,di_ f.1),(8,db_ a.2.2.2.1),(9,db_ a.2.2.2.2.1),(10,.d (i_ (w64 (a.2.1 - a.1)))),(11,di_ g.1),(12,di_ g.2.1)],[(0,.dat 1 (g.2.2.map (eI .i64)))],1⟩) (by simp) ?_ ?_
 ·refine qg ee m (fun _ m=>?_) (fun _ m=>?_)
  ·refine sr_<|mv_ ee<|mv_ ee<|mv_ ee ?_
   obtain ⟨af,bp,m⟩:=q6 m
   obtain ⟨ct,bq,m⟩:=q6 m
   have br:=q1h bq
   refine q41 [(0,0)] [(0,0)] [.hs 0 1 0 f.2.length,di_ a.1,di_ a.2.1] (.d (.tup [])) 1 [(0,.dat 1 (af.map (eI .i64)))] 1 (qc7 f.2 a.1 a.2.1 af bp)<|qs<|mv_ ee<|v_ (.d (i_ (w64 (a.2.1 - 1)))) ee<|mv_ ee<|mv_ ee<|v_ (.d (i_ (w64 (t.1 - a.1)))) ee<|v_ (.d (i_ (w64 ((w64 (a.2.1 - 1)) - (w64 (t.1 - a.1)))))) ee<|as_ ee<|q0<|qi<|as_ ee<|nl_ ?_
   obtain rfl:=q9 m
   exact ⟨_,ee,wkE [] [] [] ee ⟨⟨_,ee,q16 (by simp [br]) ee (by decide) (ltd ee)⟩,⟨_,ee,.d (.refl _)⟩,⟨_,ee,.d (.refl _)⟩,⟨_,ee,.d (.refl _)⟩,⟨_,ee,.d (.refl _)⟩,⟨_,ee,.d (.refl _)⟩,⟨_,ee,.d (.refl _)⟩,⟨_,ee,.d (.refl _)⟩,⟨_,ee,.d (.refl _)⟩,trivial⟩ ⟨⟨ltd ee,.inr ⟨by decide,_,ee,.dat _ _⟩⟩,trivial⟩⟩
  refine qh<|qz ?_
  obtain rfl:=q9 m
  exact ⟨_,ee,wkA [] [] []⟩
 intro g hb
 subst hb
 refine qa<|sr_<|mv_ ee ?_
 obtain ⟨bs,u,b⟩:=q6 b
 refine qq 3 (fun A st=>∃ (ag ah : V),st = A [(64,db_ bs),(63,ah),(62,ag)]) ?_ ?_
 ·refine qu ee ee u (fun u=>?_) (fun u=>?_)
  ·refine mv_ ee<|v_ (db_ a.2.2.2.2.1) ee<|q0 ?_
   obtain rfl:=q9 u
   exact ⟨_,_,ee⟩
  refine q7 ee<|v_ (db_ false) ee<|q0 ?_
  obtain rfl:=q9 u
  exact ⟨_,_,ee⟩
 rintro _ ⟨ag,ah,rfl⟩
 obtain ⟨bt,v,b⟩:=q6 b
 refine qq 4 (fun A st=>∃ (ai aj ak : V),st = A [(68,db_ bt),(67,ak),(66,aj),(65,ai)]) ?_ ?_
 ·refine qu ee ee v (fun v=>?_) (fun v=>?_)
  ·refine mv_ ee<|v_ (db_ (g.2.1 == 1)) ee<|v_ (db_ (g.2.1 == 1)) ee<|q0 ?_
   obtain rfl:=q9 v
   exact ⟨_,_,_,ee⟩
  refine q7 ee<|q7 ee<|v_ (db_ false) ee<|q0 ?_
  obtain rfl:=q9 v
  exact ⟨_,_,_,ee⟩
 rintro _ ⟨ai,aj,ak,rfl⟩
 refine q0 ?_
 obtain ⟨bu,h,b⟩:=q6 b
 refine q74 (fun j=>.inl j = bu) (fun (j : List Int)=>⟨[(0,.hs 0 1 0 j.length),(1,di_ a.1),(2,di_ a.2.1),(3,di_ f.1),(8,db_ a.2.2.2.1),(9,db_ a.2.2.2.2.1),(10,.d (i_ (w64 (a.2.1 - a.1)))),(11,di_ g.1)],[(0,.dat 1 (j.map (eI .i64)))],1⟩) (by simp) ?_ ?_
 ·refine qg ee h (fun _ h=>?_) (fun _ h=>?_)
  ·refine sr_<|mv_ ee<|mv_ ee<|mv_ ee ?_
   obtain ⟨x,bv,h⟩:=q6 h
   obtain ⟨cu,bw,h⟩:=q6 h
   have bz:=q1h bw
   refine q41 [(0,0)] [(0,0)] [.hs 0 1 0 g.2.2.length,di_ a.1,di_ a.2.1] (db_ x.1) 1 [(0,.dat 1 (x.2.map (eI .i64)))] 1 (q9w g.2.2 a.1 a.2.1 x bv)<|q0 ?_
   refine qg ee h (fun _ h=>?_) (fun _ h=>?_)
   ·refine qh4 ?_
    obtain rfl:=q9 h
    refine ⟨_,(Option.some.inj b).symm,fun hm=>?_⟩
    subst hm
    obtain rfl:=q9 s
    exact ⟨.inr ee,_,ee,wkA [] [] []⟩
   refine qh<|qz ?_
   obtain rfl:=q9 h
   exact ⟨_,ee,wkE [] [] [] ee ⟨⟨_,ee,q16 (by simp [bz]) ee (by decide) (ltd ee)⟩,⟨_,ee,.d (.refl _)⟩,⟨_,ee,.d (.refl _)⟩,⟨_,ee,.d (.refl _)⟩,⟨_,ee,.d (.refl _)⟩,⟨_,ee,.d (.refl _)⟩,⟨_,ee,.d (.refl _)⟩,⟨_,ee,.d (.refl _)⟩,trivial⟩ ⟨⟨ltd ee,.inr ⟨by decide,_,ee,.dat _ _⟩⟩,trivial⟩⟩
  refine qh<|qz ?_
  obtain rfl:=q9 h
  exact ⟨_,ee,wkA [] [] []⟩
 intro j hb
 subst hb
 refine qa<|qa<|qm [(some [],[]),(some [],[]),(some [],[]),(some [0],[]),(some [],[]),(some [],[]),(some [],[]),(some [0],[]),(some [],[]),(some [],[]),(some [],[]),(some [],[]),(some [],[]),(some [],[]),(some [],[])] (by kernel_rfl)<|mv_ ee<|v_ (.d (.bool (decide (a.1 > 0)))) ee ?_
 obtain ⟨ca,k,b⟩:=q6 b
 refine qq 13 (fun A st=>∃ (al am an ao ap aq ar au av aw ax ay : V),st = A [(87,db_ ca),(86,ay),(85,ax),(84,aw),(83,av),(82,au),(81,ar),(80,aq),(79,ap),(78,ao),(77,an),(76,am),(75,al)]) ?_ ?_
 ·refine qu ee ee k (fun k=>?_) (fun k=>?_)
  ·refine mv_ ee<|mv_ ee<|v_ (.d (i_ (w64 (a.1 - 1)))) ee ?_
   obtain ⟨az,ba,k⟩:=q6 k
   refine ih_ ba ee ee<|lh_ (di_ az) ba ee<|mv_ ee<|mv_ ee ?_
   obtain ⟨bb,bc,k⟩:=q6 k
   refine ih_ bc ee ee<|lh_ (di_ bb) bc ee ?_
   obtain ⟨y,cb,k⟩:=q6 k
   refine pc_ (q3n az bb y cb) ee<|v_ (db_ (!y)) ee<|v_ (db_ (!y)) ee<|q0 ?_
   obtain rfl:=q9 k
   exact ⟨_,_,_,_,_,_,_,_,_,_,_,_,ee⟩
  refine q7 ee<|q7 ee<|q7 ee<|q7 ee<|q7 ee<|q7 ee<|q7 ee<|q7 ee<|q7 ee<|q7 ee<|q7 ee<|v_ (db_ false) ee<|q0 ?_
  obtain rfl:=q9 k
  exact ⟨_,_,_,_,_,_,_,_,_,_,_,_,ee⟩
 rintro _ ⟨al,am,an,ao,ap,aq,ar,au,av,aw,ax,ay,rfl⟩
 refine q0 ?_
 refine qg ee b (fun _ b=>?_) (fun _ b=>?_)
 ·refine sr_<|mv_ ee<|mv_ ee<|mv_ ee<|mv_ ee ?_
  obtain ⟨z,cc,b⟩:=q6 b
  obtain ⟨cv,cd,b⟩:=q6 b
  have ce:=q1h cd
  refine q41 [(0,0)] [(0,0)] [.hs 0 1 0 j.length,di_ a.1,di_ a.2.1,di_ g.1] (di_ z.1) 1 [(0,.dat 1 (z.2.map (eI .i64)))] 1 (qbd j a.1 a.2.1 g.1 z cc)<|as_ ee<|qs<|mv_ ee<|as_ ee<|q0<|qv<|qgk<|qz ?_
  exact ⟨_,(Option.some.inj b).symm,wkE [] [] [] ee ⟨⟨_,ee,q16 (by simp [ce]) ee (by decide) (ltd ee)⟩,⟨_,ee,.d (.refl _)⟩,⟨_,ee,.d (.refl _)⟩,⟨_,ee,.d (.refl _)⟩,⟨_,ee,.d (.refl _)⟩,⟨_,ee,.d (.refl _)⟩,trivial⟩ ⟨⟨ltd ee,.inr ⟨by decide,_,ee,.dat _ _⟩⟩,trivial⟩⟩
 refine qh<|sr_<|mv_ ee<|mv_ ee<|mv_ ee<|mv_ ee ?_
 obtain ⟨c,cf,b⟩:=q6 b
 obtain ⟨cw,cg,b⟩:=q6 b
 have w:=q1h cg
 refine q41 [(0,0)] [(0,0)] [.hs 0 1 0 j.length,di_ a.1,di_ a.2.1,di_ g.1] (.d (.tup [i_ c.1,.bool c.2.1])) 1 [(0,.dat 1 (c.2.2.map (eI .i64)))] 1 (qd5 j a.1 a.2.1 g.1 c cf)<|mv_ ee<|v_ (di_ c.1) ee<|v_ (db_ c.2.1) ee<|as_ ee<|as_ ee<|qs<|mv_ ee<|as_ ee<|qs<|mv_ ee<|mv_ ee<|v_ (.d (i_ (w64 (c.1 - a.1)))) ee<|mv_ ee<|mv_ ee<|v_ (.d (i_ (w64 (a.2.1 - c.1)))) ee<|as_ ee<|as_ ee<|qs<|mv_ ee<|v_ (.d (i_ (w64 (Int.tdiv (w64 (a.2.1 - a.1)) 8)))) ee<|as_ ee<|qs<|mv_ ee<|mv_ ee<|v_ (.d (.bool (decide ((w64 (c.1 - a.1)) < (w64 (a.2.1 - c.1)))))) ee<|q0 ?_
 refine qg ee b (fun _ b=>?_) (fun _ b=>?_)
 ·refine sr_<|mv_ ee<|mv_ ee<|v_ (.d (.bool (decide ((w64 (c.1 - a.1)) ≥ (w64 (Int.tdiv (w64 (a.2.1 - a.1)) 8)))))) ee<|as_ ee<|qs<|mv_ ee<|mv_ ee<|mv_ ee<|mv_ ee ?_
  obtain ⟨aa,ch,b⟩:=q6 b
  obtain ⟨cx,ci,b⟩:=q6 b
  have cj:=q1h ci
  refine qa3 [(0,0)] [(0,0)] [.hs 0 1 0 j.length,di_ a.1,di_ c.1,di_ f.1] (.d (.tup [])) [(0,.dat 1 (aa.map (eI .i64)))] [(0,.dat 1 (aa.map (eI .i64)))] 1 (hrec c.2.2 a.1 c.1 f.1 aa ch) ee ee ee (q85 [(0,0)] [] [] ee ⟨⟨_,ee,q16 (by simp [w]) ee (by decide) (ltd ee)⟩,⟨_,ee,.d (.refl _)⟩,⟨_,ee,.d (.refl _)⟩,⟨_,ee,.d (.refl _)⟩,trivial⟩ ⟨⟨ltd ee,.inr ⟨by decide,_,ee,.dat _ _⟩⟩,trivial⟩) (q85 [(0,0)] [] [] ee ⟨⟨_,ee,.d (.refl _)⟩,trivial⟩ ⟨⟨ltd ee,.inr ⟨by decide,_,ee,.dat _ _⟩⟩,trivial⟩) ee ⟨.inl ee,trivial⟩<|q0<|qi<|mv_ ee<|v_ (.d (i_ (w64 (c.1 + 1)))) ee<|as_ ee<|nl_<|qw<|qz ?_
  exact ⟨_,(Option.some.inj b).symm,wkE [] [] [] ee ⟨⟨_,ee,q16 (by simp [w,cj]) ee (by decide) (ltd ee)⟩,⟨_,ee,.d (.refl _)⟩,⟨_,ee,.d (.refl _)⟩,⟨_,ee,.d (.refl _)⟩,⟨_,ee,.d (.refl _)⟩,⟨_,ee,.d (.refl _)⟩,trivial⟩ ⟨⟨ltd ee,.inr ⟨by decide,_,ee,.dat _ _⟩⟩,trivial⟩⟩
 refine sr_<|mv_ ee<|mv_ ee<|v_ (.d (.bool (decide ((w64 (a.2.1 - c.1)) ≥ (w64 (Int.tdiv (w64 (a.2.1 - a.1)) 8)))))) ee<|as_ ee<|qs<|mv_ ee<|mv_ ee<|v_ (.d (i_ (w64 (c.1 + 1)))) ee<|mv_ ee<|mv_ ee ?_
 obtain ⟨ab,ck,b⟩:=q6 b
 obtain ⟨cy,cl,b⟩:=q6 b
 have cm:=q1h cl
 refine qa3 [(0,0)] [(0,0)] [.hs 0 1 0 j.length,.d (i_ (w64 (c.1 + 1))),di_ a.2.1,di_ f.1] (.d (.tup [])) [(0,.dat 1 (ab.map (eI .i64)))] [(0,.dat 1 (ab.map (eI .i64)))] 1 (hrec c.2.2 (w64 (c.1 + 1)) a.2.1 f.1 ab ck) ee ee ee (q85 [(0,0)] [] [] ee ⟨⟨_,ee,q16 (by simp [w]) ee (by decide) (ltd ee)⟩,⟨_,ee,.d (.refl _)⟩,⟨_,ee,.d (.refl _)⟩,⟨_,ee,.d (.refl _)⟩,trivial⟩ ⟨⟨ltd ee,.inr ⟨by decide,_,ee,.dat _ _⟩⟩,trivial⟩) (q85 [(0,0)] [] [] ee ⟨⟨_,ee,.d (.refl _)⟩,trivial⟩ ⟨⟨ltd ee,.inr ⟨by decide,_,ee,.dat _ _⟩⟩,trivial⟩) ee ⟨.inl ee,trivial⟩<|q0<|qi<|mv_ ee<|as_ ee<|nl_<|qw<|qz ?_
 exact ⟨_,(Option.some.inj b).symm,wkE [] [] [] ee ⟨⟨_,ee,q16 (by simp [w,cm]) ee (by decide) (ltd ee)⟩,⟨_,ee,.d (.refl _)⟩,⟨_,ee,.d (.refl _)⟩,⟨_,ee,.d (.refl _)⟩,⟨_,ee,.d (.refl _)⟩,⟨_,ee,.d (.refl _)⟩,trivial⟩ ⟨⟨ltd ee,.inr ⟨by decide,_,ee,.dat _ _⟩⟩,trivial⟩⟩
theorem qdr (n : Nat) : ∀ (a : List Int) (b : Int) (c : Int) (f : Int) (r : List Int),q4p n  a b c f = some r→q1j Tryz.prog tab 132 [.hs 0 1 0 a.length,di_ b,di_ c,di_ f] [(0,.dat 1 (a.map (eI .i64)))] 1 (.d (.tup [])) [(0,.dat 1 (r.map (eI .i64)))] 1:=by
 induction n with
 | zero=>intro a b c f r g;cases g
 | succ n ih=>intro a b c f r g;exact qd6 (q4p n )   ih a b c f r g
theorem qbb (a : List Int) (r : List Int) (b : q2v  a = some r) : q1j Tryz.prog tab 110 [.hs 0 1 0 a.length] [(0,.dat 1 (a.map (eI .i64)))] 1 (.d (.tup [])) [(0,.dat 1 (r.map (eI .i64)))] 1:=by
 unfold q2v at b
 refine q1a Tryz.func110 ee (by kernel_rfl) (by kernel_rfl) ee<|sr_<|mv_ ee<|v_ (di_ (a.length : Int)) ee<|as_ ee<|q0<|qi<|mv_ ee<|mv_ ee<|mv_ ee<|v_ (.d (.int .u64 (IntKind.wrap .u64 (a.length : Int)))) ee ?_
 obtain ⟨c,h,b⟩:=q6 b
 refine pc_ (qdp (IntKind.wrap .u64 (a.length : Int)) c h) ee ?_
 obtain ⟨g,f,b⟩:=q6 b
 obtain ⟨l,j,b⟩:=q6 b
 have m:=q1h j
 obtain ⟨k,f⟩:=qnz f
 refine q41 [(0,0)] [(0,0)] [.hs 0 1 0 a.length,di_ 0,di_ (a.length : Int),di_ c] (.d (.tup [])) 1 [(0,.dat 1 (g.map (eI .i64)))] 1 (qdr k a 0 (a.length : Int) c g f)<|nl_ ?_
 obtain rfl:=q9 b
 exact ⟨.inl ee,_,ee,wkA [] [] []⟩
theorem qa8 (c : List Int) (r : (Nat × Nat) × List Int) (g : q3o  c = some r) : q1j Tryz.prog tab 111 [.hs 0 1 0 c.length] [(0,.dat 1 (c.map (eI .i64)))] 1 (.hs 0 1 r.1.1 r.1.2) [(0,.dat 1 (r.2.map (eI .i64)))] 1:=by
 unfold q3o at g
 refine q1a Tryz.func111 ee (by kernel_rfl) (by kernel_rfl) ee<|sr_<|as_ ee<|q0<|qa<|sr_<|mv_ ee<|v_ (di_ (c.length : Int)) ee<|v_ (.d (.bool (decide ((c.length : Int) < 2)))) ee<|q0 ?_
 refine qg ee g (fun _ g=>?_) (fun _ g=>?_)
 ·refine sr_<|mv_ ee<|as_ ee<|nt_ ?_
  obtain rfl:=q9 g
  exact ⟨.inr ee,_,ee,wkA [] [] []⟩
 refine qh<|qa<|sr_<|as_ ee<|q0 ?_
 obtain ⟨p,ae,g⟩:=q6 g
 refine qp (fun m=>.inl m = p) (fun (m : Unit)=>⟨[(0,.hs 0 1 0 c.length)],[(0,.dat 1 (c.map (eI .i64)))],1⟩) (by simp) ?_ ?_
 ·refine qt (q14 c) (fun (l : Int)=>⟨[(0,.hs 0 1 0 c.length),(3,di_ l)],[(0,.dat 1 (c.map (eI .i64)))],1⟩) 1 p ae (wkA [] [] []) ?_
  intro l ak a
  unfold q14 at a
  refine qa<|sr_<|mv_ ee<|mv_ ee<|v_ (di_ (c.length : Int)) ee<|v_ (.d (.bool (decide (l < (c.length : Int))))) ee<|q0 ?_
  refine qg ee a (fun _ a=>?_) (fun _ a=>?_)
  ·refine qh<|qa<|ql<|qa<|qm [(some [],[]),(some [0],[]),(some [],[]),(some [],[]),(some [],[]),(some [],[]),(some [0],[]),(some [],[]),(some [],[]),(some [],[])] (by kernel_rfl)<|mv_ ee<|mv_ ee ?_
   obtain ⟨q,s,a⟩:=q6 a
   refine ih_ s ee ee<|lh_ (di_ q) s ee<|mv_ ee<|mv_ ee<|v_ (.d (i_ (w64 (l - 1)))) ee ?_
   obtain ⟨t,u,a⟩:=q6 a
   refine ih_ u ee ee<|lh_ (di_ t) u ee<|v_ (db_ (q == t)) ee<|q0 ?_
   refine qg ee a (fun _ a=>?_) (fun _ a=>?_)
   ·refine sr_<|mv_ ee<|mv_ ee ?_
    obtain ⟨af,ag,a⟩:=q6 a
    refine ql7 ag ee ee ee ee ee (qgg ee) (fun _=>rfl)<|as_ ee<|q0<|qa<|sr_<|as_ ee<|q0 ?_
    obtain ⟨v,ah,a⟩:=q6 a
    refine qp (fun h=>h = v) (fun (h : Int × List Int)=>⟨[(0,.hs 0 1 0 h.2.length),(3,di_ h.1)],[(0,.dat 1 (h.2.map (eI .i64)))],1⟩) (by simp) ?_ ?_
    ·refine qt (q21) (fun (b : Int × (Nat × Nat) × Int × List Int)=>⟨[(0,.hs 0 1 0 b.2.2.2.length),(3,di_ b.1),(4,.hs 0 1 b.2.1.1 b.2.1.2),(5,di_ b.2.2.1)],[(0,.dat 1 (b.2.2.2.map (eI .i64)))],1⟩) (l,af,1,c) v ah (wkA [] [] []) ?_
     intro b al j
     unfold q21 at j
     refine qa<|sr_<|mv_ ee<|mv_ ee<|v_ (di_ (b.2.1.2 : Int)) ee<|v_ (.d (.bool (decide (b.2.2.1 < (b.2.1.2 : Int))))) ee<|q0 ?_
     refine qg ee j (fun _ j=>?_) (fun _ j=>?_)
     ·refine qh<|qa ?_
      obtain ⟨ai,f,j⟩:=q6 j
      refine qp (fun k=>k = ai) (fun (k : Int × (Nat × Nat) × List Int)=>⟨[(0,.hs 0 1 0 k.2.2.length),(3,di_ k.1),(4,.hs 0 1 k.2.1.1 k.2.1.2),(5,di_ b.2.2.1)],[(0,.dat 1 (k.2.2.map (eI .i64)))],1⟩) (by simp) ?_ ?_
      ·refine qa<|qm [(some [],[]),(some [0],[]),(some [],[]),(some [],[]),(some [],[]),(some [],[]),(some [0],[]),(some [],[]),(some [],[]),(some [],[])] (by kernel_rfl)<|mv_ ee<|mv_ ee ?_
       obtain ⟨x,y,f⟩:=q6 f
       refine qu6 y ee ee ee ee ee ee<|lh_ (di_ x) (qny y) ee<|mv_ ee<|mv_ ee<|v_ (.d (i_ (w64 (b.2.2.1 - 1)))) ee ?_
       obtain ⟨z,aa,f⟩:=q6 f
       refine qu6 aa ee ee ee ee ee ee<|lh_ (di_ z) (qny aa) ee<|v_ (db_ (x != z)) ee<|q0 ?_
       refine qg ee f (fun _ f=>?_) (fun _ f=>?_)
       ·refine sr_<|mv_ ee<|mv_ ee<|mv_ ee<|mv_ ee ?_
        obtain ⟨n,ab,f⟩:=q6 f
        refine qu6 ab ee ee ee ee ee ee<|lh_ (di_ n) (qny ab) ee ?_
        obtain ⟨am,ac,f⟩:=q6 f
        refine ih_ ac ee ee<|q18 (ds:=[i_ n]) n ac ee ee ee ee ee ee ee ee (leb ee) ee<|q0<|qi<|mv_ ee<|v_ (.d (i_ (w64 (b.1 + 1)))) ee<|as_ ee<|nl_ ?_
        obtain rfl:=q9 f
        exact ⟨_,ee,wkE [] [] [] ee ⟨⟨_,ee,q16 (by simp) ee (by decide) (ltd ee)⟩,⟨_,ee,.d (.refl _)⟩,⟨_,ee,.hs ee (by decide) (ltd ee)⟩,⟨_,ee,.d (.refl _)⟩,trivial⟩ ⟨⟨ltd ee,.inr ⟨by decide,_,ee,.dat _ _⟩⟩,trivial⟩⟩
       refine qh<|qz ?_
       obtain rfl:=q9 f
       exact ⟨_,ee,wkA [] [] []⟩
      intro k hb
      subst hb
      refine qi<|mv_ ee<|v_ (.d (i_ (w64 (b.2.2.1 + 1)))) ee<|as_ ee<|nl_ ?_
      exact ⟨_,(Option.some.inj j).symm,wkA [] [] []⟩
     refine qv ?_
     refine ⟨_,(Option.some.inj j).symm,fun hm=>?_⟩
     subst hm
     exact ⟨_,ee,wkA [] [] []⟩
    intro h hb
    subst hb
    refine sr_<|mv_ ee<|mv_ ee ?_
    obtain ⟨ad,o,a⟩:=q6 a
    refine ql7 o ee ee ee ee ee (qgg ee) (fun _=>rfl)<|q142 (w:=ad) (xs:=h.2) (enc:=(eI .i64)) 0 (qfv o) ee ee ee ee ee ee ee ?_
    have an:=@qta _ h.2 ad 0 (qfv o)
    refine qs<|mv_ ee<|mv_ ee ?_
    obtain ⟨ao,aj,a⟩:=q6 a
    refine ql7 aj ee ee ee ee ee (fun _=>rfl) (qgg ee)<|as_ ee<|nt_ ?_
    refine ⟨_,(Option.some.inj a).symm,fun hm=>?_⟩
    subst hm
    obtain rfl:=q9 g
    exact ⟨.inr ee,_,ee,wkA [] [] []⟩
   refine qh<|qz<|qw<|qi<|mv_ ee<|v_ (.d (i_ (w64 (l + 1)))) ee<|as_ ee<|nl_ ?_
   exact ⟨_,(Option.some.inj a).symm,wkA [] [] []⟩
  refine qv ?_
  refine ⟨_,(Option.some.inj a).symm,fun hm=>?_⟩
  subst hm
  exact ⟨_,ee,wkA [] [] []⟩
 intro m hb
 subst hb
 refine sr_<|mv_ ee<|as_ ee<|nt_ ?_
 obtain rfl:=q9 g
 exact ⟨.inr ee,_,ee,wkA [] [] []⟩
theorem qc2 (c : List qb) (j : qb→Option Bool) (p1F : FuncId) (p1C : List DV) (p1Ok : ∀ (f : qb) (r : Bool),j f = some r→Pure Tryz.prog tab p1F ([.agg [i_ f.X0,i_ f.Y0,i_ f.X1,i_ f.Y1]] ++ p1C) (.bool r)) (r : Int) (g : q5a c j = some r) : Pure Tryz.prog tab 134 [.sl 4 (c.map qd),.fn p1F p1C] (i_ r):=by
 unfold q5a at g
 refine qn Tryz.func134 ee (by kernel_rfl) (by kernel_rfl) ee<|sr_<|as_ ee<|q0<|qa<|sr_<|mv_ ee<|ln_ ee<|mv_ ee<|q0 ?_
 obtain ⟨l,m,g⟩:=q6 g
 refine qp (fun k=>.inl k = l) (fun (k : Unit)=>⟨[],[],0⟩) (by simp) ?_ ?_
 ·refine qt (q1u c j) (fun (h : Int)=>⟨[(0,.d (.sl 4 (c.map qd))),(1,.d (.fn p1F p1C)),(7,di_ (c.length : Int)),(8,di_ h)],[],0⟩) 0 l m (wkA [] [] []) ?_
  intro h q a
  unfold q1u at a
  refine sr_<|v_ (.d (.bool (decide (h < (c.length : Int))))) ee<|q0<|qa ?_
  refine qg ee a (fun _ a=>?_) (fun _ a=>?_)
  ·refine qh<|qa<|ql<|sr_<|mv_ ee<|as_ ee<|qs<|mv_ ee<|mv_ ee<|mv_ ee ?_
   obtain ⟨b,n,a⟩:=q6 a
   refine ix_ (enc:=qd) n ee<|v_ (.d (.agg [i_ b.X0,i_ b.Y0,i_ b.X1,i_ b.Y1])) ee ?_
   obtain ⟨o,p,a⟩:=q6 a
   refine q81 [.d (.agg [i_ b.X0,i_ b.Y0,i_ b.X1,i_ b.Y1])] (p1Ok b o p) ee ee ee (.inl ee)<|q0 ?_
   refine qg ee a (fun _ a=>?_) (fun _ a=>?_)
   ·refine sr_<|mv_ ee<|as_ ee<|nt_ ?_
    refine ⟨_,(Option.some.inj a).symm,fun hm=>?_⟩
    subst hm
    obtain rfl:=q9 g
    exact fR_ (di_ h) ee
   refine qh<|qz<|qw<|qi<|v_ (.d (i_ (w64 (h + 1)))) ee<|mv_ ee<|nl_ ?_
   exact ⟨_,(Option.some.inj a).symm,wkA [] [] []⟩
  refine qv ?_
  refine ⟨_,(Option.some.inj a).symm,fun hm=>?_⟩
  subst hm
  exact ⟨_,ee,wkA [] [] []⟩
 intro k hb
 subst hb
 refine sr_<|as_ ee<|nt_ ?_
 obtain rfl:=q9 g
 exact fR_ (di_ (-1)) ee
theorem qay (c : List qb) (f : qb→Option Bool) (p1F : FuncId) (p1C : List DV) (p1Ok : ∀ (a : qb) (r : Bool),f a = some r→Pure Tryz.prog tab p1F ([.agg [i_ a.X0,i_ a.Y0,i_ a.X1,i_ a.Y1]] ++ p1C) (.bool r)) (r : Bool) (b : q3w c f = some r) : Pure Tryz.prog tab 113 [.sl 4 (c.map qd),.fn p1F p1C] (.bool r):=by
 unfold q3w at b
 refine qn Tryz.func113 ee (by kernel_rfl) (by kernel_rfl) ee<|sr_<|as_ ee<|qs<|mv_ ee<|mv_ ee ?_
 obtain ⟨g,h,b⟩:=q6 b
 refine pc_ (qc2 c f p1F p1C p1Ok g h) ee<|v_ (.d (.bool (decide (g ≥ 0)))) ee<|as_ ee<|nt_ ?_
 obtain rfl:=q9 b
 exact fR_ (.d (.bool (decide (g ≥ 0)))) ee
theorem qcz (a : Int) (r : Bool) (c : q8q a = some r) : Pure Tryz.prog tab 129 [i_ a] (.bool r):=by
 unfold q8q at c
 refine qn Tryz.func129 ee (by kernel_rfl) (by kernel_rfl) ee<|sr_<|as_ ee<|qs<|mv_ ee<|v_ (.d (.bool (decide (a ≥ (-1000000))))) ee ?_
 obtain ⟨f,b,c⟩:=q6 c
 refine qq 4 (fun A st=>∃ (g h j : V),st = A [(8,db_ f),(7,j),(6,h),(5,g)]) ?_ ?_
 ·refine qu ee ee b (fun b=>?_) (fun b=>?_)
  ·refine mv_ ee<|v_ (.d (.bool (decide (a≤1000000)))) ee<|v_ (.d (.bool (decide (a≤1000000)))) ee<|q0 ?_
   obtain rfl:=q9 b
   exact ⟨_,_,_,ee⟩
  refine q7 ee<|q7 ee<|v_ (db_ false) ee<|q0 ?_
  obtain rfl:=q9 b
  exact ⟨_,_,_,ee⟩
 rintro _ ⟨g,h,j,rfl⟩
 refine as_ ee<|nt_ ?_
 obtain rfl:=q9 c
 exact fR_ (db_ f) ee
theorem qhr (a : qb) (r : Bool) (b : qal a = some r) : Pure Tryz.prog tab 107 [.agg [i_ a.X0,i_ a.Y0,i_ a.X1,i_ a.Y1]] (.bool r):=by
 unfold qal at b
 refine qn Tryz.func107 ee (by kernel_rfl) (by kernel_rfl) ee<|sr_<|q20 (.ref 0 4 0 0) (.dat 4 [[i_ a.X0,i_ a.Y0,i_ a.X1,i_ a.Y1]]) ee<|as_ ee<|qs<|v_ (.ref 0 4 0 0) ee<|v_ (di_ a.X0) ee<|v_ (.ref 0 4 0 2) ee<|v_ (di_ a.X1) ee<|v_ (.d (.bool (decide (a.X0 < a.X1)))) ee ?_
 obtain ⟨c1,j,b⟩:=q6 b
 refine qq 7 (fun A st=>∃ (k l m n o p : V),st = A [(14,db_ c1),(13,p),(12,o),(11,n),(10,m),(9,l),(8,k)]) ?_ ?_
 ·refine qu ee ee j (fun j=>?_) (fun j=>?_)
  ·refine v_ (.ref 0 4 0 1) ee<|v_ (di_ a.Y0) ee<|v_ (.ref 0 4 0 3) ee<|v_ (di_ a.Y1) ee<|v_ (.d (.bool (decide (a.Y0 < a.Y1)))) ee<|v_ (.d (.bool (decide (a.Y0 < a.Y1)))) ee<|q0 ?_
   obtain rfl:=q9 j
   exact ⟨_,_,_,_,_,_,ee⟩
  refine q7 ee<|q7 ee<|q7 ee<|q7 ee<|q7 ee<|v_ (db_ false) ee<|q0 ?_
  obtain rfl:=q9 j
  exact ⟨_,_,_,_,_,_,ee⟩
 rintro _ ⟨k,l,m,n,o,p,rfl⟩
 obtain ⟨an,c,b⟩:=q6 b
 refine qq 5 (fun A st=>∃ (q s t u : V),st = A [(19,db_ an),(18,u),(17,t),(16,s),(15,q)]) ?_ ?_
 ·refine qu ee ee c (fun c=>?_) (fun c=>?_)
  ·refine v_ (.ref 0 4 0 0) ee<|v_ (di_ a.X0) ee ?_
   obtain ⟨v,ao,c⟩:=q6 c
   refine pc_ (qcz a.X0 v ao) ee<|v_ (db_ v) ee<|q0 ?_
   obtain rfl:=q9 c
   exact ⟨_,_,_,_,ee⟩
  refine q7 ee<|q7 ee<|q7 ee<|v_ (db_ false) ee<|q0 ?_
  obtain rfl:=q9 c
  exact ⟨_,_,_,_,ee⟩
 rintro _ ⟨q,s,t,u,rfl⟩
 obtain ⟨ap,f,b⟩:=q6 b
 refine qq 5 (fun A st=>∃ (w x y z : V),st = A [(24,db_ ap),(23,z),(22,y),(21,x),(20,w)]) ?_ ?_
 ·refine qu ee ee f (fun f=>?_) (fun f=>?_)
  ·refine v_ (.ref 0 4 0 2) ee<|v_ (di_ a.X1) ee ?_
   obtain ⟨aa,aq,f⟩:=q6 f
   refine pc_ (qcz a.X1 aa aq) ee<|v_ (db_ aa) ee<|q0 ?_
   obtain rfl:=q9 f
   exact ⟨_,_,_,_,ee⟩
  refine q7 ee<|q7 ee<|q7 ee<|v_ (db_ false) ee<|q0 ?_
  obtain rfl:=q9 f
  exact ⟨_,_,_,_,ee⟩
 rintro _ ⟨w,x,y,z,rfl⟩
 obtain ⟨ar,g,b⟩:=q6 b
 refine qq 5 (fun A st=>∃ (ab ac ad ae : V),st = A [(29,db_ ar),(28,ae),(27,ad),(26,ac),(25,ab)]) ?_ ?_
 ·refine qu ee ee g (fun g=>?_) (fun g=>?_)
  ·refine v_ (.ref 0 4 0 1) ee<|v_ (di_ a.Y0) ee ?_
   obtain ⟨af,au,g⟩:=q6 g
   refine pc_ (qcz a.Y0 af au) ee<|v_ (db_ af) ee<|q0 ?_
   obtain rfl:=q9 g
   exact ⟨_,_,_,_,ee⟩
  refine q7 ee<|q7 ee<|q7 ee<|v_ (db_ false) ee<|q0 ?_
  obtain rfl:=q9 g
  exact ⟨_,_,_,_,ee⟩
 rintro _ ⟨ab,ac,ad,ae,rfl⟩
 obtain ⟨ag,h,b⟩:=q6 b
 refine qq 5 (fun A st=>∃ (ah ai aj ak : V),st = A [(34,db_ ag),(33,ak),(32,aj),(31,ai),(30,ah)]) ?_ ?_
 ·refine qu ee ee h (fun h=>?_) (fun h=>?_)
  ·refine v_ (.ref 0 4 0 3) ee<|v_ (di_ a.Y1) ee ?_
   obtain ⟨al,av,h⟩:=q6 h
   refine pc_ (qcz a.Y1 al av) ee<|v_ (db_ al) ee<|q0 ?_
   obtain rfl:=q9 h
   exact ⟨_,_,_,_,ee⟩
  refine q7 ee<|q7 ee<|q7 ee<|v_ (db_ false) ee<|q0 ?_
  obtain rfl:=q9 h
  exact ⟨_,_,_,_,ee⟩
 rintro _ ⟨ah,ai,aj,ak,rfl⟩
 refine as_ ee<|nt_ ?_
 obtain rfl:=q9 b
 exact fR_ (db_ ag) ee
theorem qo7 (a : qb) (r : Bool) (b : q7m a = some r) : Pure Tryz.prog tab 114 [.agg [i_ a.X0,i_ a.Y0,i_ a.X1,i_ a.Y1]] (.bool r):=by
 unfold q7m at b
 refine qn Tryz.func114 ee (by kernel_rfl) (by kernel_rfl) ee<|sr_<|q20 (.ref 0 4 0 0) (.dat 4 [[i_ a.X0,i_ a.Y0,i_ a.X1,i_ a.Y1]]) ee<|as_ ee<|qs<|v_ (.d (.agg [i_ a.X0,i_ a.Y0,i_ a.X1,i_ a.Y1])) ee ?_
 obtain ⟨c,f,b⟩:=q6 b
 refine pc_ (qhr a c f) ee<|v_ (db_ (!c)) ee<|as_ ee<|nt_ ?_
 obtain rfl:=q9 b
 exact fR_ (db_ (!c)) ee
theorem qc4 (b : List qe) (h : qe→Option Bool) (p1F : FuncId) (p1C : List DV) (p1Ok : ∀ (j : qe) (r : Bool),h j = some r→Pure Tryz.prog tab p1F ([.agg [i_ j.Lo,i_ j.Hi]] ++ p1C) (.bool r)) (r : Int) (c : q4g b h = some r) : Pure Tryz.prog tab 157 [.sl 2 (b.map qo),.fn p1F p1C] (i_ r):=by
 unfold q4g at c
 refine qn Tryz.func157 ee (by kernel_rfl) (by kernel_rfl) ee<|sr_<|as_ ee<|q0<|qa<|sr_<|mv_ ee<|ln_ ee<|mv_ ee<|q0 ?_
 obtain ⟨l,m,c⟩:=q6 c
 refine qp (fun k=>.inl k = l) (fun (k : Unit)=>⟨[],[],0⟩) (by simp) ?_ ?_
 ·refine qt (q1c b h) (fun (f : Int)=>⟨[(0,.d (.sl 2 (b.map qo))),(1,.d (.fn p1F p1C)),(7,di_ (b.length : Int)),(8,di_ f)],[],0⟩) 0 l m (wkA [] [] []) ?_
  intro f q a
  unfold q1c at a
  refine sr_<|v_ (.d (.bool (decide (f < (b.length : Int))))) ee<|q0<|qa ?_
  refine qg ee a (fun _ a=>?_) (fun _ a=>?_)
  ·refine qh<|qa<|ql<|sr_<|mv_ ee<|as_ ee<|qs<|mv_ ee<|mv_ ee<|mv_ ee ?_
   obtain ⟨g,n,a⟩:=q6 a
   refine ix_ (enc:=qo) n ee<|v_ (.d (.agg [i_ g.Lo,i_ g.Hi])) ee ?_
   obtain ⟨o,p,a⟩:=q6 a
   refine q81 [.d (.agg [i_ g.Lo,i_ g.Hi])] (p1Ok g o p) ee ee ee (.inl ee)<|q0 ?_
   refine qg ee a (fun _ a=>?_) (fun _ a=>?_)
   ·refine sr_<|mv_ ee<|as_ ee<|nt_ ?_
    refine ⟨_,(Option.some.inj a).symm,fun hm=>?_⟩
    subst hm
    obtain rfl:=q9 c
    exact fR_ (di_ f) ee
   refine qh<|qz<|qw<|qi<|v_ (.d (i_ (w64 (f + 1)))) ee<|mv_ ee<|nl_ ?_
   exact ⟨_,(Option.some.inj a).symm,wkA [] [] []⟩
  refine qv ?_
  refine ⟨_,(Option.some.inj a).symm,fun hm=>?_⟩
  subst hm
  exact ⟨_,ee,wkA [] [] []⟩
 intro k hb
 subst hb
 refine sr_<|as_ ee<|nt_ ?_
 obtain rfl:=q9 c
 exact fR_ (di_ (-1)) ee
theorem qaz (b : List qe) (c : qe→Option Bool) (p1F : FuncId) (p1C : List DV) (p1Ok : ∀ (f : qe) (r : Bool),c f = some r→Pure Tryz.prog tab p1F ([.agg [i_ f.Lo,i_ f.Hi]] ++ p1C) (.bool r)) (r : Bool) (a : q3x b c = some r) : Pure Tryz.prog tab 140 [.sl 2 (b.map qo),.fn p1F p1C] (.bool r):=by
 unfold q3x at a
 refine qn Tryz.func140 ee (by kernel_rfl) (by kernel_rfl) ee<|sr_<|as_ ee<|qs<|mv_ ee<|mv_ ee ?_
 obtain ⟨g,h,a⟩:=q6 a
 refine pc_ (qc4 b c p1F p1C p1Ok g h) ee<|v_ (.d (.bool (decide (g ≥ 0)))) ee<|as_ ee<|nt_ ?_
 obtain rfl:=q9 a
 exact fR_ (.d (.bool (decide (g ≥ 0)))) ee
theorem qsu (a : qe) (r : Bool) (b : q9x a = some r) : Pure Tryz.prog tab 142 [.agg [i_ a.Lo,i_ a.Hi]] (.bool r):=by
 unfold q9x at b
 refine qn Tryz.func142 ee (by kernel_rfl) (by kernel_rfl) ee<|sr_<|q20 (.ref 0 2 0 0) (.dat 2 [[i_ a.Lo,i_ a.Hi]]) ee<|as_ ee<|qs<|v_ (.ref 0 2 0 0) ee<|v_ (di_ a.Lo) ee<|v_ (.ref 0 2 0 1) ee<|v_ (di_ a.Hi) ee<|v_ (.d (.bool (decide (a.Lo < a.Hi)))) ee ?_
 obtain ⟨q,c,b⟩:=q6 b
 refine qq 5 (fun A st=>∃ (g h j k : V),st = A [(12,db_ q),(11,k),(10,j),(9,h),(8,g)]) ?_ ?_
 ·refine qu ee ee c (fun c=>?_) (fun c=>?_)
  ·refine v_ (.ref 0 2 0 0) ee<|v_ (di_ a.Lo) ee<|v_ (.d (.bool (decide (a.Lo ≥ (-1000000))))) ee<|v_ (.d (.bool (decide (a.Lo ≥ (-1000000))))) ee<|q0 ?_
   obtain rfl:=q9 c
   exact ⟨_,_,_,_,ee⟩
  refine q7 ee<|q7 ee<|q7 ee<|v_ (db_ false) ee<|q0 ?_
  obtain rfl:=q9 c
  exact ⟨_,_,_,_,ee⟩
 rintro _ ⟨g,h,j,k,rfl⟩
 obtain ⟨l,f,b⟩:=q6 b
 refine qq 5 (fun A st=>∃ (m n o p : V),st = A [(17,db_ l),(16,p),(15,o),(14,n),(13,m)]) ?_ ?_
 ·refine qu ee ee f (fun f=>?_) (fun f=>?_)
  ·refine v_ (.ref 0 2 0 1) ee<|v_ (di_ a.Hi) ee<|v_ (.d (.bool (decide (a.Hi≤1000000)))) ee<|v_ (.d (.bool (decide (a.Hi≤1000000)))) ee<|q0 ?_
   obtain rfl:=q9 f
   exact ⟨_,_,_,_,ee⟩
  refine q7 ee<|q7 ee<|q7 ee<|v_ (db_ false) ee<|q0 ?_
  obtain rfl:=q9 f
  exact ⟨_,_,_,_,ee⟩
 rintro _ ⟨m,n,o,p,rfl⟩
 refine as_ ee<|nt_ ?_
 obtain rfl:=q9 b
 exact fR_ (db_ l) ee
theorem qqu (a : qe) (r : Bool) (b : qfk a = some r) : Pure Tryz.prog tab 141 [.agg [i_ a.Lo,i_ a.Hi]] (.bool r):=by
 unfold qfk at b
 refine qn Tryz.func141 ee (by kernel_rfl) (by kernel_rfl) ee<|sr_<|q20 (.ref 0 2 0 0) (.dat 2 [[i_ a.Lo,i_ a.Hi]]) ee<|as_ ee<|qs<|v_ (.d (.agg [i_ a.Lo,i_ a.Hi])) ee ?_
 obtain ⟨c,f,b⟩:=q6 b
 refine pc_ (qsu a c f) ee<|v_ (db_ (!c)) ee<|as_ ee<|nt_ ?_
 obtain rfl:=q9 b
 exact fR_ (db_ (!c)) ee
theorem qqw (a : qc) (b : qc) (r : Int) (c : qdg a b = some r) : Pure Tryz.prog tab 165 [.agg [i_ a.at_,i_ a.list_,i_ a.by_],.agg [i_ b.at_,i_ b.list_,i_ b.by_]] (i_ r):=by
 unfold qdg at c
 refine qn Tryz.func165 ee (by kernel_rfl) (by kernel_rfl) ee<|sr_<|q20 (.ref 0 3 0 0) (.dat 3 [[i_ a.at_,i_ a.list_,i_ a.by_]]) ee<|q20 (.ref 1 3 0 0) (.dat 3 [[i_ b.at_,i_ b.list_,i_ b.by_]]) ee<|as_ ee<|qs<|v_ (.ref 0 3 0 0) ee<|v_ (di_ a.at_) ee<|v_ (.ref 1 3 0 0) ee<|v_ (di_ b.at_) ee<|v_ (.d (i_ (w64 (a.at_ - b.at_)))) ee<|as_ ee<|nt_ ?_
 obtain rfl:=q9 c
 exact fR_ (.d (i_ (w64 (a.at_ - b.at_)))) ee
theorem qaa (p : qc→qc→Option Int) (q1F : FuncId) (q1C : List DV) (q1Ok : ∀ (q : qc) (s : qc) (r : Int),p q s = some r→Pure Tryz.prog tab q1F ([.agg [i_ q.at_,i_ q.list_,i_ q.by_],.agg [i_ s.at_,i_ s.list_,i_ s.by_]] ++ q1C) (i_ r)) (t : List qc) (c : Int) (j : Int) (r : List qc) (u : q34 p t c j = some r) : q1j Tryz.prog tab 170 [.hs 0 3 0 t.length,di_ c,di_ j,.d (.fn q1F q1C)] [(0,.dat 3 (t.map qj))] 1 (.d (.tup [])) [(0,.dat 3 (r.map qj))] 1:=by
 unfold q34 at u
 refine q1a Tryz.func170 ee (by kernel_rfl) (by kernel_rfl) ee<|sr_<|mv_ ee<|v_ (.d (i_ (w64 (c + 1)))) ee<|as_ ee<|q0 ?_
 obtain ⟨aq,ar,u⟩:=q6 u
 refine ql<|qt (q2m j c p) (fun (f : Int × List qc)=>⟨[(0,.hs 0 3 0 f.2.length),(1,di_ c),(2,di_ j),(3,.d (.fn q1F q1C)),(8,di_ f.1)],[(0,.dat 3 (f.2.map qj))],1⟩) (w64 (c + 1),t) aq ar (wkA [] [] []) ?_
 intro f az h
 unfold q2m at h
 refine qa<|sr_<|mv_ ee<|mv_ ee<|v_ (.d (.bool (decide (f.1 < j)))) ee<|q0 ?_
 refine qg ee h (fun _ h=>?_) (fun _ h=>?_)
 ·refine qh<|qa ?_
  obtain ⟨au,v,h⟩:=q6 h
  refine qp (fun o=>o = au) (fun (o : List qc)=>⟨[(0,.hs 0 3 0 o.length),(1,di_ c),(2,di_ j),(3,.d (.fn q1F q1C)),(8,di_ f.1)],[(0,.dat 3 (o.map qj))],1⟩) (by simp) ?_ ?_
  ·refine sr_<|mv_ ee<|as_ ee<|q0 ?_
   obtain ⟨av,aw,v⟩:=q6 v
   refine ql<|qt (q2n c p) (fun (g : Int × List qc)=>⟨[(0,.hs 0 3 0 g.2.length),(1,di_ c),(2,di_ j),(3,.d (.fn q1F q1C)),(8,di_ f.1),(9,di_ g.1)],[(0,.dat 3 (g.2.map qj))],1⟩) (f.1,f.2) av aw (wkA [] [] []) ?_
   intro g ba a
   unfold q2n at a
   refine qa<|qa<|qm [(some [],[]),(some [],[]),(some [],[]),(some [0],[]),(some [],[]),(some [],[]),(some [],[]),(some [],[]),(some [0],[]),(some [],[]),(some [],[]),(some [],[]),(some [],[]),(some [],[]),(some [],[]),(some [],[]),(some [],[])] (by kernel_rfl)<|mv_ ee<|mv_ ee<|v_ (.d (.bool (decide (g.1 > c)))) ee ?_
   obtain ⟨ax,b,a⟩:=q6 a
   refine qq 14 (fun A st=>∃ (x y z aa ab ac ad ae af ag ah ai aj : V),st = A [(34,db_ ax),(33,aj),(32,ai),(31,ah),(30,ag),(29,af),(28,ae),(27,ad),(26,ac),(25,ab),(24,aa),(23,z),(22,y),(21,x)]) ?_ ?_
   ·refine qu ee ee b (fun b=>?_) (fun b=>?_)
    ·refine mv_ ee<|mv_ ee<|mv_ ee ?_
     obtain ⟨k,ak,b⟩:=q6 b
     refine ih_ ak ee ee<|lh_ (.d (.agg [i_ k.at_,i_ k.list_,i_ k.by_])) ak ee<|mv_ ee<|mv_ ee<|v_ (.d (i_ (w64 (g.1 - 1)))) ee ?_
     obtain ⟨l,al,b⟩:=q6 b
     refine ih_ al ee ee<|lh_ (.d (.agg [i_ l.at_,i_ l.list_,i_ l.by_])) al ee ?_
     obtain ⟨w,ay,b⟩:=q6 b
     refine q81 [.d (.agg [i_ k.at_,i_ k.list_,i_ k.by_]),.d (.agg [i_ l.at_,i_ l.list_,i_ l.by_])] (q1Ok k l w ay) ee ee ee (.inl ee)<|v_ (.d (.bool (decide (w < 0)))) ee<|v_ (.d (.bool (decide (w < 0)))) ee<|q0 ?_
     obtain rfl:=q9 b
     exact ⟨_,_,_,_,_,_,_,_,_,_,_,_,_,ee⟩
    refine q7 ee<|q7 ee<|q7 ee<|q7 ee<|q7 ee<|q7 ee<|q7 ee<|q7 ee<|q7 ee<|q7 ee<|q7 ee<|q7 ee<|v_ (db_ false) ee<|q0 ?_
    obtain rfl:=q9 b
    exact ⟨_,_,_,_,_,_,_,_,_,_,_,_,_,ee⟩
   rintro _ ⟨x,y,z,aa,ab,ac,ad,ae,af,ag,ah,ai,aj,rfl⟩
   refine q0 ?_
   refine qg ee a (fun _ a=>?_) (fun _ a=>?_)
   ·refine qh<|qa<|ql<|qm [(some [0],[0]),(some [],[]),(some [0],[0]),(some [],[]),(some [0],[]),(some [],[]),(some [],[]),(some [],[]),(some [0],[]),(some [],[]),(some [],[]),(some [],[]),(some [],[]),(some [],[]),(some [],[]),(some [],[]),(some [],[]),(some [],[])] (by kernel_rfl)<|mv_ ee<|mv_ ee<|mv_ ee<|mv_ ee<|v_ (.d (i_ (w64 (g.1 - 1)))) ee<|mv_ ee<|mv_ ee<|v_ (.d (i_ (w64 (g.1 - 1)))) ee ?_
    obtain ⟨m,am,a⟩:=q6 a
    refine ih_ am ee ee<|lh_ (.d (.agg [i_ m.at_,i_ m.list_,i_ m.by_])) am ee<|mv_ ee<|mv_ ee ?_
    obtain ⟨n,an,a⟩:=q6 a
    refine ih_ an ee ee<|lh_ (.d (.agg [i_ n.at_,i_ n.list_,i_ n.by_])) an ee ?_
    obtain ⟨bb,ao,a⟩:=q6 a
    refine ih_ ao ee ee<|q18 (ds:=[i_ m.at_,i_ m.list_,i_ m.by_]) m ao ee ee ee ee ee ee ee ee (leb ee) ee ?_
    obtain ⟨bc,ap,a⟩:=q6 a
    refine ih_ ap (by simp) ee<|q18 (ds:=[i_ n.at_,i_ n.list_,i_ n.by_]) n ap ee ee ee ee ee ee ee ee (leb ee) ee<|nl_<|qw<|qi<|mv_ ee<|v_ (.d (i_ (w64 (g.1 - 1)))) ee<|as_ ee<|nl_ ?_
    exact ⟨_,(Option.some.inj a).symm,wkE [] [] [] ee ⟨⟨_,ee,q16 (by simp) ee (by decide) (ltd ee)⟩,⟨_,ee,.d (.refl _)⟩,⟨_,ee,.d (.refl _)⟩,⟨_,ee,.d (.refl _)⟩,⟨_,ee,.d (.refl _)⟩,⟨_,ee,.d (.refl _)⟩,trivial⟩ ⟨⟨ltd ee,.inr ⟨by decide,_,ee,.dat _ _⟩⟩,trivial⟩⟩
   refine qv ?_
   refine ⟨_,(Option.some.inj a).symm,fun hm=>?_⟩
   subst hm
   obtain rfl:=q9 v
   exact ⟨_,ee,wkA [] [] []⟩
  intro o hb
  subst hb
  refine qi<|mv_ ee<|v_ (.d (i_ (w64 (f.1 + 1)))) ee<|as_ ee<|nl_ ?_
  exact ⟨_,(Option.some.inj h).symm,wkA [] [] []⟩
 refine qv ?_
 refine ⟨_,(Option.some.inj h).symm,fun hm=>?_⟩
 subst hm
 obtain rfl:=q9 u
 exact ⟨.inl ee,_,ee,wkA [] [] []⟩
theorem q7p (v : qc→qc→Option Int) (q1F : FuncId) (q1C : List DV) (q1Ok : ∀ (s : qc) (t : qc) (r : Int),v s t = some r→Pure Tryz.prog tab q1F ([.agg [i_ s.at_,i_ s.list_,i_ s.by_],.agg [i_ t.at_,i_ t.list_,i_ t.by_]] ++ q1C) (i_ r)) (u : List qc) (w : Int) (g : Int) (c : Int) (r : List qc) (p : q30 v u w g c = some r) : q1j Tryz.prog tab 178 [.hs 0 3 0 u.length,di_ w,di_ g,di_ c,.d (.fn q1F q1C)] [(0,.dat 3 (u.map qj))] 1 (.d (.tup [])) [(0,.dat 3 (r.map qj))] 1:=by
 unfold q30 at p
 refine q1a Tryz.func178 ee (by kernel_rfl) (by kernel_rfl) ee<|sr_<|mv_ ee<|as_ ee<|q0 ?_
 obtain ⟨ba,bb,p⟩:=q6 p
 refine ql<|qt (q40 g c v) (fun (b : Int × List qc)=>⟨[(0,.hs 0 3 0 b.2.length),(2,di_ g),(3,di_ c),(4,.d (.fn q1F q1C)),(10,di_ b.1)],[(0,.dat 3 (b.2.map qj))],1⟩) (w,u) ba bb (wkA [] [] []) ?_
 intro b bg a
 unfold q40 at a
 refine ql<|sr_<|mv_ ee<|v_ (.d (i_ (w64 (2 * b.1)))) ee<|v_ (.d (i_ (w64 ((w64 (2 * b.1)) + 1)))) ee<|as_ ee<|q0<|qa<|sr_<|mv_ ee<|mv_ ee<|v_ (.d (.bool (decide ((w64 ((w64 (2 * b.1)) + 1)) ≥ g)))) ee<|q0 ?_
 refine qg ee a (fun _ a=>?_) (fun _ a=>?_)
 ·refine qv ?_
  refine ⟨_,(Option.some.inj a).symm,fun hm=>?_⟩
  subst hm
  obtain rfl:=q9 p
  exact ⟨.inl ee,_,ee,wkA [] [] []⟩
 refine qh<|qa<|qa<|qm [(some [],[]),(some [],[]),(some [],[]),(some [0],[]),(some [],[]),(some [],[]),(some [],[]),(some [],[]),(some [],[]),(some [],[]),(some [0],[]),(some [],[]),(some [],[]),(some [],[]),(some [],[]),(some [],[]),(some [],[]),(some [],[]),(some [],[]),(some [],[]),(some [],[]),(some [],[])] (by kernel_rfl)<|mv_ ee<|v_ (.d (i_ (w64 ((w64 ((w64 (2 * b.1)) + 1)) + 1)))) ee<|mv_ ee<|v_ (.d (.bool (decide ((w64 ((w64 ((w64 (2 * b.1)) + 1)) + 1)) < g)))) ee ?_
 obtain ⟨bc,f,a⟩:=q6 a
 refine qq 18 (fun A st=>∃ (z aa ab ac ad ae af ag ah ai aj ak al am an ao ap : V),st = A [(40,db_ bc),(39,ap),(38,ao),(37,an),(36,am),(35,al),(34,ak),(33,aj),(32,ai),(31,ah),(30,ag),(29,af),(28,ae),(27,ad),(26,ac),(25,ab),(24,aa),(23,z)]) ?_ ?_
 ·refine qu ee ee f (fun f=>?_) (fun f=>?_)
  ·refine mv_ ee<|mv_ ee<|mv_ ee<|mv_ ee<|v_ (.d (i_ (w64 (c + (w64 ((w64 (2 * b.1)) + 1)))))) ee ?_
   obtain ⟨h,aq,f⟩:=q6 f
   refine ih_ aq ee ee<|lh_ (.d (.agg [i_ h.at_,i_ h.list_,i_ h.by_])) aq ee<|mv_ ee<|mv_ ee<|mv_ ee<|v_ (.d (i_ (w64 (c + (w64 ((w64 (2 * b.1)) + 1)))))) ee<|v_ (.d (i_ (w64 ((w64 (c + (w64 ((w64 (2 * b.1)) + 1)))) + 1)))) ee ?_
   obtain ⟨j,ar,f⟩:=q6 f
   refine ih_ ar ee ee<|lh_ (.d (.agg [i_ j.at_,i_ j.list_,i_ j.by_])) ar ee ?_
   obtain ⟨x,bd,f⟩:=q6 f
   refine q81 [.d (.agg [i_ h.at_,i_ h.list_,i_ h.by_]),.d (.agg [i_ j.at_,i_ j.list_,i_ j.by_])] (q1Ok h j x bd) ee ee ee (.inl ee)<|v_ (.d (.bool (decide (x < 0)))) ee<|v_ (.d (.bool (decide (x < 0)))) ee<|q0 ?_
   obtain rfl:=q9 f
   exact ⟨_,_,_,_,_,_,_,_,_,_,_,_,_,_,_,_,_,ee⟩
  refine q7 ee<|q7 ee<|q7 ee<|q7 ee<|q7 ee<|q7 ee<|q7 ee<|q7 ee<|q7 ee<|q7 ee<|q7 ee<|q7 ee<|q7 ee<|q7 ee<|q7 ee<|q7 ee<|v_ (db_ false) ee<|q0 ?_
  obtain rfl:=q9 f
  exact ⟨_,_,_,_,_,_,_,_,_,_,_,_,_,_,_,_,_,ee⟩
 rintro _ ⟨z,aa,ab,ac,ad,ae,af,ag,ah,ai,aj,ak,al,am,an,ao,ap,rfl⟩
 refine q0 ?_
 obtain ⟨be,q,a⟩:=q6 a
 refine q74 (fun k=>k = be) (fun (k : Int)=>⟨[(0,.hs 0 3 0 b.2.length),(2,di_ g),(3,di_ c),(4,.d (.fn q1F q1C)),(10,di_ b.1),(11,di_ k)],[(0,.dat 3 (b.2.map qj))],1⟩) (by simp) ?_ ?_
 ·refine qg ee q (fun _ q=>?_) (fun _ q=>?_)
  ·refine qi<|mv_ ee<|v_ (.d (i_ (w64 ((w64 ((w64 (2 * b.1)) + 1)) + 1)))) ee<|as_ ee<|nl_ ?_
   obtain rfl:=q9 q
   exact ⟨_,ee,wkA [] [] []⟩
  refine qh<|qz ?_
  obtain rfl:=q9 q
  exact ⟨_,ee,wkA [] [] []⟩
 intro k hb
 subst hb
 refine qa<|qa<|qm [(some [],[]),(some [],[]),(some [],[]),(some [0],[]),(some [],[]),(some [],[]),(some [],[]),(some [],[]),(some [],[]),(some [0],[]),(some [],[]),(some [],[]),(some [],[]),(some [],[]),(some [],[]),(some [],[])] (by kernel_rfl)<|mv_ ee<|mv_ ee<|mv_ ee<|mv_ ee<|v_ (.d (i_ (w64 (c + b.1)))) ee ?_
 obtain ⟨l,au,a⟩:=q6 a
 refine ih_ au ee ee<|lh_ (.d (.agg [i_ l.at_,i_ l.list_,i_ l.by_])) au ee<|mv_ ee<|mv_ ee<|mv_ ee<|v_ (.d (i_ (w64 (c + k)))) ee ?_
 obtain ⟨m,av,a⟩:=q6 a
 refine ih_ av ee ee<|lh_ (.d (.agg [i_ m.at_,i_ m.list_,i_ m.by_])) av ee ?_
 obtain ⟨y,bf,a⟩:=q6 a
 refine q81 [.d (.agg [i_ l.at_,i_ l.list_,i_ l.by_]),.d (.agg [i_ m.at_,i_ m.list_,i_ m.by_])] (q1Ok l m y bf) ee ee ee (.inl ee)<|v_ (.d (.bool (decide (y < 0)))) ee<|v_ (.d (.bool (!(decide (y < 0))))) ee<|q0 ?_
 refine qg ee a (fun _ a=>?_) (fun _ a=>?_)
 ·refine qh4 ?_
  refine ⟨_,(Option.some.inj a).symm,fun hm=>?_⟩
  subst hm
  obtain rfl:=q9 p
  exact ⟨.inr ee,_,ee,wkA [] [] []⟩
 refine qh<|qa<|qm [(some [0],[0]),(some [],[]),(some [0],[0]),(some [],[]),(some [0],[]),(some [],[]),(some [],[]),(some [],[]),(some [],[]),(some [],[]),(some [0],[]),(some [],[]),(some [],[]),(some [],[]),(some [],[]),(some [],[]),(some [],[]),(some [],[]),(some [],[]),(some [],[]),(some [],[]),(some [],[]),(some [],[]),(some [],[])] (by kernel_rfl)<|mv_ ee<|mv_ ee<|mv_ ee<|v_ (.d (i_ (w64 (c + b.1)))) ee<|mv_ ee<|mv_ ee<|mv_ ee<|v_ (.d (i_ (w64 (c + k)))) ee<|mv_ ee<|mv_ ee<|mv_ ee<|v_ (.d (i_ (w64 (c + k)))) ee ?_
 obtain ⟨n,aw,a⟩:=q6 a
 refine ih_ aw ee ee<|lh_ (.d (.agg [i_ n.at_,i_ n.list_,i_ n.by_])) aw ee<|mv_ ee<|mv_ ee<|mv_ ee<|v_ (.d (i_ (w64 (c + b.1)))) ee ?_
 obtain ⟨o,ax,a⟩:=q6 a
 refine ih_ ax ee ee<|lh_ (.d (.agg [i_ o.at_,i_ o.list_,i_ o.by_])) ax ee ?_
 obtain ⟨bh,ay,a⟩:=q6 a
 refine ih_ ay ee ee<|q18 (ds:=[i_ n.at_,i_ n.list_,i_ n.by_]) n ay ee ee ee ee ee ee ee ee (leb ee) ee ?_
 obtain ⟨bi,az,a⟩:=q6 a
 refine ih_ az (by simp) ee<|q18 (ds:=[i_ o.at_,i_ o.list_,i_ o.by_]) o az ee ee ee ee ee ee ee ee (leb ee) ee<|q0<|qi<|mv_ ee<|as_ ee<|nl_<|qw<|qz ?_
 exact ⟨_,(Option.some.inj a).symm,wkE [] [] [] ee ⟨⟨_,ee,q16 (by simp) ee (by decide) (ltd ee)⟩,⟨_,ee,.d (.refl _)⟩,⟨_,ee,.d (.refl _)⟩,⟨_,ee,.d (.refl _)⟩,⟨_,ee,.d (.refl _)⟩,trivial⟩ ⟨⟨ltd ee,.inr ⟨by decide,_,ee,.dat _ _⟩⟩,trivial⟩⟩
theorem qbt (l : qc→qc→Option Int) (q1F : FuncId) (q1C : List DV) (q1Ok : ∀ (o : qc) (p : qc) (r : Int),l o p = some r→Pure Tryz.prog tab q1F ([.agg [i_ o.at_,i_ o.list_,i_ o.by_],.agg [i_ p.at_,i_ p.list_,i_ p.by_]] ++ q1C) (i_ r)) (q : List qc) (a : Int) (c : Int) (r : List qc) (m : q4i l q a c = some r) : q1j Tryz.prog tab 171 [.hs 0 3 0 q.length,di_ a,di_ c,.d (.fn q1F q1C)] [(0,.dat 3 (q.map qj))] 1 (.d (.tup [])) [(0,.dat 3 (r.map qj))] 1:=by
 unfold q4i at m
 refine q1a Tryz.func171 ee (by kernel_rfl) (by kernel_rfl) ee<|sr_<|mv_ ee<|as_ ee<|qs<|as_ ee<|qs<|mv_ ee<|mv_ ee<|v_ (.d (i_ (w64 (c - a)))) ee<|as_ ee<|q0<|qa<|sr_<|mv_ ee<|v_ (.d (i_ (w64 ((w64 (c - a)) - 1)))) ee<|v_ (.d (i_ (w64 (Int.tdiv (w64 ((w64 (c - a)) - 1)) 2)))) ee<|as_ ee<|q0 ?_
 obtain ⟨t,z,m⟩:=q6 m
 refine qp (fun n=>n = t) (fun (n : List qc)=>⟨[(0,.hs 0 3 0 n.length),(3,.d (.fn q1F q1C)),(8,di_ a),(9,di_ 0),(10,.d (i_ (w64 (c - a))))],[(0,.dat 3 (n.map qj))],1⟩) (by simp) ?_ ?_
 ·refine qt (q3y l c a) (fun (g : Int × List qc)=>⟨[(0,.hs 0 3 0 g.2.length),(3,.d (.fn q1F q1C)),(8,di_ a),(9,di_ 0),(10,.d (i_ (w64 (c - a)))),(11,di_ g.1)],[(0,.dat 3 (g.2.map qj))],1⟩) (w64 (Int.tdiv (w64 ((w64 (c - a)) - 1)) 2),q) t z (wkA [] [] []) ?_
  intro g ai h
  unfold q3y at h
  refine qa<|sr_<|mv_ ee<|v_ (.d (.bool (decide (g.1 ≥ 0)))) ee<|q0 ?_
  refine qg ee h (fun _ h=>?_) (fun _ h=>?_)
  ·refine qh<|qa<|ql<|qi<|mv_ ee<|mv_ ee<|mv_ ee<|mv_ ee<|mv_ ee ?_
   obtain ⟨u,aa,h⟩:=q6 h
   obtain ⟨aj,ab,h⟩:=q6 h
   have ac:=q1h ab
   refine q41 [(0,0)] [(0,0)] [.hs 0 3 0 g.2.length,di_ g.1,.d (i_ (w64 (c - a))),di_ a,.d (.fn q1F q1C)] (.d (.tup [])) 1 [(0,.dat 3 (u.map qj))] 1 (q7p l q1F q1C q1Ok g.2 g.1 (w64 (c - a)) a u aa)<|nl_<|qw<|qi<|mv_ ee<|v_ (.d (i_ (w64 (g.1 - 1)))) ee<|as_ ee<|nl_ ?_
   exact ⟨_,(Option.some.inj h).symm,wkE [] [] [] ee ⟨⟨_,ee,q16 (by simp [ac]) ee (by decide) (ltd ee)⟩,⟨_,ee,.d (.refl _)⟩,⟨_,ee,.d (.refl _)⟩,⟨_,ee,.d (.refl _)⟩,⟨_,ee,.d (.refl _)⟩,⟨_,ee,.d (.refl _)⟩,trivial⟩ ⟨⟨ltd ee,.inr ⟨by decide,_,ee,.dat _ _⟩⟩,trivial⟩⟩
  refine qv ?_
  refine ⟨_,(Option.some.inj h).symm,fun hm=>?_⟩
  subst hm
  exact ⟨_,ee,wkA [] [] []⟩
 intro n hb
 subst hb
 refine sr_<|mv_ ee<|v_ (.d (i_ (w64 ((w64 (c - a)) - 1)))) ee<|as_ ee<|q0 ?_
 obtain ⟨ad,ae,m⟩:=q6 m
 refine ql<|qt (q3z a l) (fun (f : Int × List qc)=>⟨[(0,.hs 0 3 0 f.2.length),(3,.d (.fn q1F q1C)),(8,di_ a),(9,di_ 0),(12,di_ f.1)],[(0,.dat 3 (f.2.map qj))],1⟩) (w64 ((w64 (c - a)) - 1),n) ad ae (wkA [] [] []) ?_
 intro f ak b
 unfold q3z at b
 refine qa<|sr_<|mv_ ee<|v_ (.d (.bool (decide (f.1 ≥ 0)))) ee<|q0 ?_
 refine qg ee b (fun _ b=>?_) (fun _ b=>?_)
 ·refine qh<|qa<|ql<|qa<|qm [(some [0],[0]),(some [],[]),(some [0],[0]),(some [],[]),(some [0],[]),(some [],[]),(some [],[]),(some [],[]),(some [0],[]),(some [],[]),(some [],[]),(some [],[]),(some [],[]),(some [],[]),(some [],[]),(some [],[]),(some [],[]),(some [],[]),(some [],[]),(some [],[])] (by kernel_rfl)<|mv_ ee<|mv_ ee<|mv_ ee<|mv_ ee<|mv_ ee<|v_ (.d (i_ (w64 (a + f.1)))) ee<|mv_ ee<|mv_ ee<|mv_ ee<|v_ (.d (i_ (w64 (a + f.1)))) ee ?_
  obtain ⟨j,v,b⟩:=q6 b
  refine ih_ v ee ee<|lh_ (.d (.agg [i_ j.at_,i_ j.list_,i_ j.by_])) v ee<|mv_ ee<|mv_ ee ?_
  obtain ⟨k,w,b⟩:=q6 b
  refine ih_ w ee ee<|lh_ (.d (.agg [i_ k.at_,i_ k.list_,i_ k.by_])) w ee ?_
  obtain ⟨al,x,b⟩:=q6 b
  refine ih_ x ee ee<|q18 (ds:=[i_ j.at_,i_ j.list_,i_ j.by_]) j x ee ee ee ee ee ee ee ee (leb ee) ee ?_
  obtain ⟨am,y,b⟩:=q6 b
  refine ih_ y (by simp) ee<|q18 (ds:=[i_ k.at_,i_ k.list_,i_ k.by_]) k y ee ee ee ee ee ee ee ee (leb ee) ee<|q0<|qi<|mv_ ee<|mv_ ee<|mv_ ee<|mv_ ee<|mv_ ee ?_
  obtain ⟨s,af,b⟩:=q6 b
  obtain ⟨an,ag,b⟩:=q6 b
  have ah:=q1h ag
  refine qa3 [(0,0)] [(0,0)] [.hs 0 3 0 f.2.length,di_ 0,di_ f.1,di_ a,.d (.fn q1F q1C)] (.d (.tup [])) [(0,.dat 3 (s.map qj))] [(0,.dat 3 (s.map qj))] 1 (q7p l q1F q1C q1Ok ((f.2.set a.toNat j).set (w64 (a + f.1)).toNat k) 0 f.1 a s af) ee ee ee (q85 [(0,0)] [] [] ee ⟨⟨_,ee,q16 (by simp) ee (by decide) (ltd ee)⟩,⟨_,ee,.d (.refl _)⟩,⟨_,ee,.d (.refl _)⟩,⟨_,ee,.d (.refl _)⟩,⟨_,ee,.d (.refl _)⟩,trivial⟩ ⟨⟨ltd ee,.inr ⟨by decide,_,ee,.dat _ _⟩⟩,trivial⟩) (q85 [(0,0)] [] [] ee ⟨⟨_,ee,.d (.refl _)⟩,trivial⟩ ⟨⟨ltd ee,.inr ⟨by decide,_,ee,.dat _ _⟩⟩,trivial⟩) ee ⟨.inl ee,trivial⟩<|nl_<|qw<|qi<|mv_ ee<|v_ (.d (i_ (w64 (f.1 - 1)))) ee<|as_ ee<|nl_ ?_
  exact ⟨_,(Option.some.inj b).symm,wkE [] [] [] ee ⟨⟨_,ee,q16 (by simp [ah]) ee (by decide) (ltd ee)⟩,⟨_,ee,.d (.refl _)⟩,⟨_,ee,.d (.refl _)⟩,⟨_,ee,.d (.refl _)⟩,⟨_,ee,.d (.refl _)⟩,trivial⟩ ⟨⟨ltd ee,.inr ⟨by decide,_,ee,.dat _ _⟩⟩,trivial⟩⟩
 refine qv ?_
 refine ⟨_,(Option.some.inj b).symm,fun hm=>?_⟩
 subst hm
 obtain rfl:=q9 m
 exact ⟨.inl ee,_,ee,wkA [] [] []⟩
theorem q67 (j : qc→qc→Option Int) (q1F : FuncId) (q1C : List DV) (q1Ok : ∀ (g : qc) (h : qc) (r : Int),j g h = some r→Pure Tryz.prog tab q1F ([.agg [i_ g.at_,i_ g.list_,i_ g.by_],.agg [i_ h.at_,i_ h.list_,i_ h.by_]] ++ q1C) (i_ r)) (k : List qc) (l : Int) (m : Int) (f : Int) (r : Int × Int × Int) (a : q2j j k l m f = some r) : q1j Tryz.prog tab 181 [.d (.sl 3 (k.map qj)),di_ l,di_ m,.ref 0 1 0 0,.d (.fn q1F q1C)] [(0,.dat 1 [[i_ f]])] 1 (.d (.tup [i_ r.1,i_ r.2.1])) [(0,.dat 1 [[i_ r.2.2]])] 1:=by
 unfold q2j at a
 refine q1a Tryz.func181 ee (by kernel_rfl) (by kernel_rfl) ee<|sr_<|as_ ee<|as_ ee<|q0<|qa<|qa<|qm [(some [],[]),(some [],[]),(some [],[]),(some [],[]),(some [],[]),(some [],[]),(some [],[]),(some [],[]),(some [],[]),(some [],[]),(some [],[])] (by kernel_rfl)<|mv_ ee<|mv_ ee<|mv_ ee ?_
 obtain ⟨b,o,a⟩:=q6 a
 refine ix_ (enc:=qj) o ee<|v_ (.d (.agg [i_ b.at_,i_ b.list_,i_ b.by_])) ee<|mv_ ee<|mv_ ee ?_
 obtain ⟨c,p,a⟩:=q6 a
 refine ix_ (enc:=qj) p ee<|v_ (.d (.agg [i_ c.at_,i_ c.list_,i_ c.by_])) ee ?_
 obtain ⟨n,q,a⟩:=q6 a
 refine q81 [.d (.agg [i_ b.at_,i_ b.list_,i_ b.by_]),.d (.agg [i_ c.at_,i_ c.list_,i_ c.by_])] (q1Ok b c n q) ee ee ee (.inl ee)<|v_ (.d (.bool (decide (n < 0)))) ee<|q0 ?_
 refine qg ee a (fun _ a=>?_) (fun _ a=>?_)
 ·refine sr_<|mv_ ee<|v_ (.ref 0 1 0 0) ee<|v_ (di_ f) ee<|v_ (.d (i_ (w64 (f + 1)))) ee<|v_ (.ref 0 1 0 0) ee<|q1f 0 (.dat 1 [[i_ (w64 (f + 1))]]) ee<|qs<|mv_ ee<|mv_ ee<|as_ ee<|as_ ee<|nt_ ?_
  obtain rfl:=q9 a
  exact ⟨.inr ee,_,ee,wkA [] [] []⟩
 refine qh<|sr_<|mv_ ee<|mv_ ee<|as_ ee<|as_ ee<|nt_ ?_
 obtain rfl:=q9 a
 exact ⟨.inr ee,_,ee,wkA [] [] []⟩
theorem q7z (h : qc→qc→Option Int) (q1F : FuncId) (q1C : List DV) (q1Ok : ∀ (j : qc) (k : qc) (r : Int),h j k = some r→Pure Tryz.prog tab q1F ([.agg [i_ j.at_,i_ j.list_,i_ j.by_],.agg [i_ k.at_,i_ k.list_,i_ k.by_]] ++ q1C) (i_ r)) (c : List qc) (l : Int) (m : Int) (n : Int) (o : Int) (r : Int × Int) (f : q3u h c l m n o = some r) : q1j Tryz.prog tab 180 [.d (.sl 3 (c.map qj)),di_ l,di_ m,di_ n,.ref 0 1 0 0,.d (.fn q1F q1C)] [(0,.dat 1 [[i_ o]])] 1 (di_ r.1) [(0,.dat 1 [[i_ r.2]])] 1:=by
 unfold q3u at f
 refine q1a Tryz.func180 ee (by kernel_rfl) (by kernel_rfl) ee<|sr_<|as_ ee<|qs<|mv_ ee<|mv_ ee<|mv_ ee<|mv_ ee<|mv_ ee ?_
 obtain ⟨a,p,f⟩:=q6 f
 refine q41 [(0,0)] [(0,0)] [.d (.sl 3 (c.map qj)),di_ l,di_ m,.ref 0 1 0 0,.d (.fn q1F q1C)] (.d (.tup [i_ a.1,i_ a.2.1])) 1 [(0,.dat 1 [[i_ a.2.2]])] 1 (q67 h q1F q1C q1Ok c l m o a p)<|mv_ ee<|v_ (di_ a.1) ee<|v_ (di_ a.2.1) ee<|as_ ee<|as_ ee<|qs<|mv_ ee<|mv_ ee<|mv_ ee<|mv_ ee<|mv_ ee ?_
 obtain ⟨b,q,f⟩:=q6 f
 refine q41 [(0,0)] [(0,0)] [.d (.sl 3 (c.map qj)),di_ a.2.1,di_ n,.ref 0 1 0 0,.d (.fn q1F q1C)] (.d (.tup [i_ b.1,i_ b.2.1])) 1 [(0,.dat 1 [[i_ b.2.2]])] 1 (q67 h q1F q1C q1Ok c a.2.1 n a.2.2 b q)<|mv_ ee<|v_ (di_ b.1) ee<|v_ (di_ b.2.1) ee<|as_ ee<|as_ ee<|qs<|mv_ ee<|mv_ ee<|mv_ ee<|mv_ ee<|mv_ ee ?_
 obtain ⟨g,s,f⟩:=q6 f
 refine q41 [(0,0)] [(0,0)] [.d (.sl 3 (c.map qj)),di_ a.1,di_ b.1,.ref 0 1 0 0,.d (.fn q1F q1C)] (.d (.tup [i_ g.1,i_ g.2.1])) 1 [(0,.dat 1 [[i_ g.2.2]])] 1 (q67 h q1F q1C q1Ok c a.1 b.1 b.2.2 g s)<|mv_ ee<|v_ (di_ g.1) ee<|v_ (di_ g.2.1) ee<|as_ ee<|as_ ee<|qs<|mv_ ee<|as_ ee<|nt_ ?_
 obtain rfl:=q9 f
 exact ⟨.inr ee,_,ee,wkA [] [] []⟩
theorem q55 (h : qc→qc→Option Int) (q1F : FuncId) (q1C : List DV) (q1Ok : ∀ (b : qc) (c : qc) (r : Int),h b c = some r→Pure Tryz.prog tab q1F ([.agg [i_ b.at_,i_ b.list_,i_ b.by_],.agg [i_ c.at_,i_ c.list_,i_ c.by_]] ++ q1C) (i_ r)) (f : List qc) (a : Int) (j : Int) (r : Int × Int) (g : q1i h f a j = some r) : q1j Tryz.prog tab 179 [.d (.sl 3 (f.map qj)),di_ a,.ref 0 1 0 0,.d (.fn q1F q1C)] [(0,.dat 1 [[i_ j]])] 1 (di_ r.1) [(0,.dat 1 [[i_ r.2]])] 1:=by
 unfold q1i at g
 refine q1a Tryz.func179 ee (by kernel_rfl) (by kernel_rfl) ee<|sr_<|as_ ee<|qs<|mv_ ee<|mv_ ee<|v_ (.d (i_ (w64 (a - 1)))) ee<|mv_ ee<|mv_ ee<|v_ (.d (i_ (w64 (a + 1)))) ee<|mv_ ee<|mv_ ee ?_
 obtain ⟨k,l,g⟩:=q6 g
 refine q41 [(0,0)] [(0,0)] [.d (.sl 3 (f.map qj)),.d (i_ (w64 (a - 1))),di_ a,.d (i_ (w64 (a + 1))),.ref 0 1 0 0,.d (.fn q1F q1C)] (di_ k.1) 1 [(0,.dat 1 [[i_ k.2]])] 1 (q7z h q1F q1C q1Ok f (w64 (a - 1)) a (w64 (a + 1)) j k l)<|as_ ee<|nt_ ?_
 obtain rfl:=q9 g
 exact ⟨.inr ee,_,ee,wkA [] [] []⟩
theorem qc5 (g : List qc) (a : Int) (b : Int) (l : qc→qc→Option Int) (p3F : FuncId) (p3C : List DV) (p3Ok : ∀ (m : qc) (n : qc) (r : Int),l m n = some r→Pure Tryz.prog tab p3F ([.agg [i_ m.at_,i_ m.list_,i_ m.by_],.agg [i_ n.at_,i_ n.list_,i_ n.by_]] ++ p3C) (i_ r)) (r : Int × Int) (f : q4h g a b l = some r) : Pure Tryz.prog tab 173 [.sl 3 (g.map qj),i_ a,i_ b,.fn p3F p3C] (.tup [i_ r.1,i_ r.2]):=by
 unfold q4h at f
 refine qn Tryz.func173 ee (by kernel_rfl) (by kernel_rfl) ee<|sr_<|as_ ee<|as_ ee<|qs<|mv_ ee<|mv_ ee<|v_ (.d (i_ (w64 (b - a)))) ee<|as_ ee<|qs<|q13 ee ee<|qs<|mv_ ee<|mv_ ee<|v_ (.d (i_ (w64 (Int.tdiv (w64 (b - a)) 4)))) ee<|v_ (.d (i_ (w64 ((w64 (Int.tdiv (w64 (b - a)) 4)) * 1)))) ee<|v_ (.d (i_ (w64 (a + (w64 ((w64 (Int.tdiv (w64 (b - a)) 4)) * 1)))))) ee<|as_ ee<|qs<|mv_ ee<|mv_ ee<|v_ (.d (i_ (w64 (Int.tdiv (w64 (b - a)) 4)))) ee<|v_ (.d (i_ (w64 ((w64 (Int.tdiv (w64 (b - a)) 4)) * 2)))) ee<|v_ (.d (i_ (w64 (a + (w64 ((w64 (Int.tdiv (w64 (b - a)) 4)) * 2)))))) ee<|as_ ee<|qs<|mv_ ee<|mv_ ee<|v_ (.d (i_ (w64 (Int.tdiv (w64 (b - a)) 4)))) ee<|v_ (.d (i_ (w64 ((w64 (Int.tdiv (w64 (b - a)) 4)) * 3)))) ee<|v_ (.d (i_ (w64 (a + (w64 ((w64 (Int.tdiv (w64 (b - a)) 4)) * 3)))))) ee<|as_ ee<|q0<|qa<|sr_<|mv_ ee<|v_ (.d (.bool (decide ((w64 (b - a)) ≥ 8)))) ee<|q0 ?_
 obtain ⟨t,k,f⟩:=q6 f
 refine q74 (fun h=>h = t) (fun (h : Int × Int)=>⟨[(11,.ref 0 1 0 0),(13,di_ h.1)],[(0,.dat 1 [[i_ h.2]])],1⟩) (by simp) ?_ ?_
 ·refine qg ee k (fun _ k=>?_) (fun _ k=>?_)
  ·refine qa<|sr_<|mv_ ee<|v_ (.d (.bool (decide ((w64 (b - a)) ≥ 50)))) ee<|q0 ?_
   obtain ⟨u,j,k⟩:=q6 k
   refine q74 (fun c=>c = u) (fun (c : Int × Int × Int × Int)=>⟨[(0,.d (.sl 3 (g.map qj))),(3,.d (.fn p3F p3C)),(11,.ref 0 1 0 0),(12,di_ c.1),(13,di_ c.2.1),(14,di_ c.2.2.1)],[(0,.dat 1 [[i_ c.2.2.2]])],1⟩) (by simp) ?_ ?_
   ·refine qg ee j (fun _ j=>?_) (fun _ j=>?_)
    ·refine sr_<|mv_ ee<|mv_ ee<|mv_ ee ?_
     obtain ⟨o,v,j⟩:=q6 j
     refine q41 [(0,0)] [(0,0)] [.d (.sl 3 (g.map qj)),.d (i_ (w64 (a + (w64 ((w64 (Int.tdiv (w64 (b - a)) 4)) * 1))))),.ref 0 1 0 0,.d (.fn p3F p3C)] (di_ o.1) 1 [(0,.dat 1 [[i_ o.2]])] 1 (q55 l p3F p3C p3Ok g (w64 (a + (w64 ((w64 (Int.tdiv (w64 (b - a)) 4)) * 1)))) 0 o v)<|as_ ee<|qs<|mv_ ee<|mv_ ee<|mv_ ee ?_
     obtain ⟨p,w,j⟩:=q6 j
     refine q41 [(0,0)] [(0,0)] [.d (.sl 3 (g.map qj)),.d (i_ (w64 (a + (w64 ((w64 (Int.tdiv (w64 (b - a)) 4)) * 2))))),.ref 0 1 0 0,.d (.fn p3F p3C)] (di_ p.1) 1 [(0,.dat 1 [[i_ p.2]])] 1 (q55 l p3F p3C p3Ok g (w64 (a + (w64 ((w64 (Int.tdiv (w64 (b - a)) 4)) * 2)))) o.2 p w)<|as_ ee<|q0<|qi<|mv_ ee<|mv_ ee<|mv_ ee ?_
     obtain ⟨q,x,j⟩:=q6 j
     refine q41 [(0,0)] [(0,0)] [.d (.sl 3 (g.map qj)),.d (i_ (w64 (a + (w64 ((w64 (Int.tdiv (w64 (b - a)) 4)) * 3))))),.ref 0 1 0 0,.d (.fn p3F p3C)] (di_ q.1) 1 [(0,.dat 1 [[i_ q.2]])] 1 (q55 l p3F p3C p3Ok g (w64 (a + (w64 ((w64 (Int.tdiv (w64 (b - a)) 4)) * 3)))) p.2 q x)<|as_ ee<|nl_ ?_
     obtain rfl:=q9 j
     exact ⟨_,ee,wkA [(0,0)] [] []⟩
    refine qh<|qz ?_
    obtain rfl:=q9 j
    exact ⟨_,ee,wkA [(0,0)] [] []⟩
   intro c hb
   subst hb
   refine qi<|mv_ ee<|mv_ ee<|mv_ ee<|mv_ ee<|mv_ ee ?_
   obtain ⟨s,y,k⟩:=q6 k
   refine q41 [(0,0)] [(0,0)] [.d (.sl 3 (g.map qj)),di_ c.1,di_ c.2.1,di_ c.2.2.1,.ref 0 1 0 0,.d (.fn p3F p3C)] (di_ s.1) 1 [(0,.dat 1 [[i_ s.2]])] 1 (q7z l p3F p3C p3Ok g c.1 c.2.1 c.2.2.1 c.2.2.2 s y)<|as_ ee<|nl_ ?_
   obtain rfl:=q9 k
   exact ⟨_,ee,wkA [(0,0)] [] []⟩
  refine qh<|qz ?_
  obtain rfl:=q9 k
  exact ⟨_,ee,wkA [(0,0)] [] []⟩
 intro h hb
 subst hb
 refine sr_<|v_ (di_ h.2) ee<|q0<|ql<|sr_<|v_ (db_ (h.2 == 0)) ee<|as_ ee<|q0 ?_
 refine qg ee f (fun _ f=>?_) (fun _ f=>?_)
 ·refine sr_<|mv_ ee<|as_ ee<|as_ ee<|nt_ ?_
  obtain rfl:=q9 f
  exact fR_ (.d (.tup [i_ h.1,i_ 1])) ee
 refine sr_<|v_ (db_ (h.2 == 12)) ee<|as_ ee<|q0 ?_
 refine qg ee f (fun _ f=>?_) (fun _ f=>?_)
 ·refine sr_<|mv_ ee<|as_ ee<|as_ ee<|nt_ ?_
  obtain rfl:=q9 f
  exact fR_ (.d (.tup [i_ h.1,i_ 2])) ee
 refine sr_<|mv_ ee<|as_ ee<|as_ ee<|nt_ ?_
 obtain rfl:=q9 f
 exact fR_ (.d (.tup [i_ h.1,i_ 0])) ee
theorem qao (n : qc→qc→Option Int) (q1F : FuncId) (q1C : List DV) (_q1Ok : ∀ (g : qc) (h : qc) (r : Int),n g h = some r→Pure Tryz.prog tab q1F ([.agg [i_ g.at_,i_ g.list_,i_ g.by_],.agg [i_ h.at_,i_ h.list_,i_ h.by_]] ++ q1C) (i_ r)) (j : List qc) (m : Int) (k : Int) (r : List qc) (l : q3m n j m k = some r) : q1j Tryz.prog tab 174 [.hs 0 3 0 j.length,di_ m,di_ k,.d (.fn q1F q1C)] [(0,.dat 3 (j.map qj))] 1 (.d (.tup [])) [(0,.dat 3 (r.map qj))] 1:=by
 unfold q3m at l
 refine q1a Tryz.func174 ee (by kernel_rfl) (by kernel_rfl) ee<|sr_<|mv_ ee<|as_ ee<|qs<|mv_ ee<|v_ (.d (i_ (w64 (k - 1)))) ee<|as_ ee<|q0 ?_
 obtain ⟨t,u,l⟩:=q6 l
 refine ql<|qt (q2r) (fun (b : Int × Int × List qc)=>⟨[(0,.hs 0 3 0 b.2.2.length),(8,di_ b.1),(9,di_ b.2.1)],[(0,.dat 3 (b.2.2.map qj))],1⟩) (m,w64 (k - 1),j) t u (wkA [] [] []) ?_
 intro b v a
 unfold q2r at a
 refine qa<|sr_<|mv_ ee<|mv_ ee<|v_ (.d (.bool (decide (b.1 < b.2.1)))) ee<|q0 ?_
 refine qg ee a (fun _ a=>?_) (fun _ a=>?_)
 ·refine qh<|ql<|qa<|qm [(some [0],[0]),(some [],[]),(some [0],[0]),(some [],[]),(some [0],[]),(some [],[]),(some [],[]),(some [],[]),(some [0],[]),(some [],[]),(some [],[]),(some [],[]),(some [],[]),(some [],[]),(some [],[]),(some [],[])] (by kernel_rfl)<|mv_ ee<|mv_ ee<|mv_ ee<|mv_ ee<|mv_ ee<|mv_ ee ?_
  obtain ⟨c,o,a⟩:=q6 a
  refine ih_ o ee ee<|lh_ (.d (.agg [i_ c.at_,i_ c.list_,i_ c.by_])) o ee<|mv_ ee<|mv_ ee ?_
  obtain ⟨f,p,a⟩:=q6 a
  refine ih_ p ee ee<|lh_ (.d (.agg [i_ f.at_,i_ f.list_,i_ f.by_])) p ee ?_
  obtain ⟨w,q,a⟩:=q6 a
  refine ih_ q ee ee<|q18 (ds:=[i_ c.at_,i_ c.list_,i_ c.by_]) c q ee ee ee ee ee ee ee ee (leb ee) ee ?_
  obtain ⟨x,s,a⟩:=q6 a
  refine ih_ s (by simp) ee<|q18 (ds:=[i_ f.at_,i_ f.list_,i_ f.by_]) f s ee ee ee ee ee ee ee ee (leb ee) ee<|qs<|mv_ ee<|v_ (.d (i_ (w64 (b.1 + 1)))) ee<|as_ ee<|q0<|qi<|mv_ ee<|v_ (.d (i_ (w64 (b.2.1 - 1)))) ee<|as_ ee<|nl_<|qw<|qz ?_
  exact ⟨_,(Option.some.inj a).symm,wkE [] [] [] ee ⟨⟨_,ee,q16 (by simp) ee (by decide) (ltd ee)⟩,⟨_,ee,.d (.refl _)⟩,⟨_,ee,.d (.refl _)⟩,trivial⟩ ⟨⟨ltd ee,.inr ⟨by decide,_,ee,.dat _ _⟩⟩,trivial⟩⟩
 refine qv ?_
 refine ⟨_,(Option.some.inj a).symm,fun hm=>?_⟩
 subst hm
 obtain rfl:=q9 l
 exact ⟨.inl ee,_,ee,wkA [] [] []⟩
theorem q8m (q1 : qc→qc→Option Int) (q1F : FuncId) (q1C : List DV) (q1Ok : ∀ (x0 : qc) (x1 : qc) (r : Int),q1 x0 x1 = some r→Pure Tryz.prog tab q1F ([.agg [i_ x0.at_,i_ x0.list_,i_ x0.by_],.agg [i_ x1.at_,i_ x1.list_,i_ x1.by_]] ++ q1C) (i_ r)) (p0 : List qc) (j : Int) (h : Int) (r : Bool × List qc) (h0 : q1g q1 p0 j h = some r) : q1j Tryz.prog tab 175 [.hs 0 3 0 p0.length,di_ j,di_ h,.d (.fn q1F q1C)] [(0,.dat 3 (p0.map qj))] 1 (db_ r.1) [(0,.dat 3 (r.2.map qj))] 1:=by
 unfold q1g at h0
 refine q1a Tryz.func175 ee (by kernel_rfl) (by kernel_rfl) ee<|sr_<|as_ ee<|qs<|mv_ ee<|v_ (.d (i_ (w64 (j + 1)))) ee<|as_ ee<|q0<|qa<|sr_<|as_ ee<|q0 ?_
 obtain ⟨ap,cb,h0⟩:=q6 h0
 refine qp (fun al=>.inl al = ap) (fun (al : List qc)=>⟨[],[(0,.dat 3 (al.map qj))],1⟩) (by simp) ?_ ?_
 ·refine qt (q19 h q1 j) (fun (g : Int × Int × List qc)=>⟨[(0,.hs 0 3 0 g.2.2.length),(1,di_ j),(2,di_ h),(3,.d (.fn q1F q1C)),(9,di_ g.1),(10,di_ g.2.1)],[(0,.dat 3 (g.2.2.map qj))],1⟩) (w64 (j + 1),0,p0) ap cb (wkA [] [] []) ?_
  intro g cn l
  unfold q19 at l
  refine qa<|sr_<|mv_ ee<|v_ (.d (.bool (decide (g.2.1 < 5)))) ee<|q0 ?_
  refine qg ee l (fun _ l=>?_) (fun _ l=>?_)
  ·refine qh<|qa ?_
   obtain ⟨cc,a,l⟩:=q6 l
   refine qp (fun af=>.inl af = cc) (fun (af : Int × List qc)=>⟨[(0,.hs 0 3 0 af.2.length),(1,di_ j),(2,di_ h),(3,.d (.fn q1F q1C)),(9,di_ af.1),(10,di_ g.2.1)],[(0,.dat 3 (af.2.map qj))],1⟩) (by simp) ?_ ?_
   ·refine qa ?_
    obtain ⟨aq,cd,a⟩:=q6 a
    refine qp (fun f=>f = aq) (fun (f : Int)=>⟨[(0,.hs 0 3 0 g.2.2.length),(1,di_ j),(2,di_ h),(3,.d (.fn q1F q1C)),(9,di_ f),(10,di_ g.2.1)],[(0,.dat 3 (g.2.2.map qj))],1⟩) (by simp) ?_ ?_
    ·refine qt (q1w h g q1) (fun (ah : Int)=>⟨[(0,.hs 0 3 0 g.2.2.length),(1,di_ j),(2,di_ h),(3,.d (.fn q1F q1C)),(9,di_ ah),(10,di_ g.2.1)],[(0,.dat 3 (g.2.2.map qj))],1⟩) g.1 aq cd (wkA [] [] []) ?_
     intro ah co o
     unfold q1w at o
     refine qa<|qa<|qm [(some [],[]),(some [],[]),(some [],[]),(some [],[]),(some [0],[]),(some [],[]),(some [],[]),(some [],[]),(some [],[]),(some [0],[]),(some [],[]),(some [],[]),(some [],[]),(some [],[]),(some [],[]),(some [],[]),(some [],[]),(some [],[])] (by kernel_rfl)<|mv_ ee<|mv_ ee<|v_ (.d (.bool (decide (ah < h)))) ee ?_
     obtain ⟨ce,k,o⟩:=q6 o
     refine qq 15 (fun A st=>∃ (ar au av aw ax ay az ba bb bc bd be bf bg : V),st = A [(36,db_ ce),(35,bg),(34,bf),(33,be),(32,bd),(31,bc),(30,bb),(29,ba),(28,az),(27,ay),(26,ax),(25,aw),(24,av),(23,au),(22,ar)]) ?_ ?_
     ·refine qu ee ee k (fun k=>?_) (fun k=>?_)
      ·refine mv_ ee<|mv_ ee<|mv_ ee ?_
       obtain ⟨t,bh,k⟩:=q6 k
       refine ih_ bh ee ee<|lh_ (.d (.agg [i_ t.at_,i_ t.list_,i_ t.by_])) bh ee<|mv_ ee<|mv_ ee<|v_ (.d (i_ (w64 (ah - 1)))) ee ?_
       obtain ⟨u,bi,k⟩:=q6 k
       refine ih_ bi ee ee<|lh_ (.d (.agg [i_ u.at_,i_ u.list_,i_ u.by_])) bi ee ?_
       obtain ⟨am,cf,k⟩:=q6 k
       refine q81 [.d (.agg [i_ t.at_,i_ t.list_,i_ t.by_]),.d (.agg [i_ u.at_,i_ u.list_,i_ u.by_])] (q1Ok t u am cf) ee ee ee (.inl ee)<|v_ (.d (.bool (decide (am < 0)))) ee<|v_ (.d (.bool (!(decide (am < 0))))) ee<|v_ (.d (.bool (!(decide (am < 0))))) ee<|q0 ?_
       obtain rfl:=q9 k
       exact ⟨_,_,_,_,_,_,_,_,_,_,_,_,_,_,ee⟩
      refine q7 ee<|q7 ee<|q7 ee<|q7 ee<|q7 ee<|q7 ee<|q7 ee<|q7 ee<|q7 ee<|q7 ee<|q7 ee<|q7 ee<|q7 ee<|v_ (db_ false) ee<|q0 ?_
      obtain rfl:=q9 k
      exact ⟨_,_,_,_,_,_,_,_,_,_,_,_,_,_,ee⟩
     rintro _ ⟨ar,au,av,aw,ax,ay,az,ba,bb,bc,bd,be,bf,bg,rfl⟩
     refine q0 ?_
     refine qg ee o (fun _ o=>?_) (fun _ o=>?_)
     ·refine qh<|ql<|qi<|mv_ ee<|v_ (.d (i_ (w64 (ah + 1)))) ee<|as_ ee<|nl_<|qw<|qz ?_
      exact ⟨_,(Option.some.inj o).symm,wkA [] [] []⟩
     refine qv ?_
     refine ⟨_,(Option.some.inj o).symm,fun hm=>?_⟩
     subst hm
     exact ⟨_,ee,wkA [] [] []⟩
    intro f hb
    subst hb
    refine qa<|sr_<|mv_ ee<|mv_ ee<|v_ (db_ (f == h)) ee<|q0 ?_
    refine qg ee a (fun _ a=>?_) (fun _ a=>?_)
    ·refine sr_<|as_ ee<|nt_ ?_
     obtain rfl:=q9 a
     refine ⟨_,(Option.some.inj l).symm,fun hm=>?_⟩
     subst hm
     obtain rfl:=q9 h0
     exact ⟨.inr ee,_,ee,wkA [] [] []⟩
    refine qh<|qa<|sr_<|mv_ ee<|mv_ ee<|v_ (.d (i_ (w64 (h - j)))) ee<|v_ (.d (.bool (decide ((w64 (h - j)) < 50)))) ee<|q0 ?_
    refine qg ee a (fun _ a=>?_) (fun _ a=>?_)
    ·refine sr_<|as_ ee<|nt_ ?_
     obtain rfl:=q9 a
     refine ⟨_,(Option.some.inj l).symm,fun hm=>?_⟩
     subst hm
     obtain rfl:=q9 h0
     exact ⟨.inr ee,_,ee,wkA [] [] []⟩
    refine qh<|qa<|qm [(some [0],[0]),(some [],[]),(some [0],[0]),(some [],[]),(some [0],[]),(some [],[]),(some [],[]),(some [],[]),(some [0],[]),(some [],[]),(some [],[]),(some [],[]),(some [],[]),(some [],[]),(some [],[]),(some [],[]),(some [],[]),(some [],[])] (by kernel_rfl)<|mv_ ee<|mv_ ee<|mv_ ee<|mv_ ee<|v_ (.d (i_ (w64 (f - 1)))) ee<|mv_ ee<|mv_ ee<|v_ (.d (i_ (w64 (f - 1)))) ee ?_
    obtain ⟨p,bj,a⟩:=q6 a
    refine ih_ bj ee ee<|lh_ (.d (.agg [i_ p.at_,i_ p.list_,i_ p.by_])) bj ee<|mv_ ee<|mv_ ee ?_
    obtain ⟨q,bk,a⟩:=q6 a
    refine ih_ bk ee ee<|lh_ (.d (.agg [i_ q.at_,i_ q.list_,i_ q.by_])) bk ee ?_
    obtain ⟨cp,bl,a⟩:=q6 a
    refine ih_ bl ee ee<|q18 (ds:=[i_ p.at_,i_ p.list_,i_ p.by_]) p bl ee ee ee ee ee ee ee ee (leb ee) ee ?_
    obtain ⟨cq,bm,a⟩:=q6 a
    refine ih_ bm (by simp) ee<|q18 (ds:=[i_ q.at_,i_ q.list_,i_ q.by_]) q bm ee ee ee ee ee ee ee ee (leb ee) ee<|q0<|qa<|sr_<|mv_ ee<|mv_ ee<|v_ (.d (i_ (w64 (f - j)))) ee<|v_ (.d (.bool (decide ((w64 (f - j)) ≥ 2)))) ee<|q0 ?_
    obtain ⟨cg,s,a⟩:=q6 a
    refine q74 (fun ag=>ag = cg) (fun (ag : List qc)=>⟨[(0,.hs 0 3 0 ag.length),(1,di_ j),(2,di_ h),(3,.d (.fn q1F q1C)),(9,di_ f),(10,di_ g.2.1)],[(0,.dat 3 (ag.map qj))],1⟩) (by simp) ?_ ?_
    ·refine qg ee s (fun _ s=>?_) (fun _ s=>?_)
     ·refine sr_<|mv_ ee<|v_ (.d (i_ (w64 (f - 1)))) ee<|as_ ee<|q0 ?_
      obtain ⟨ch,ci,s⟩:=q6 s
      refine ql<|qt (q1x q1) (fun (m : Int × List qc)=>⟨[(0,.hs 0 3 0 m.2.length),(1,di_ j),(2,di_ h),(3,.d (.fn q1F q1C)),(9,di_ f),(10,di_ g.2.1),(11,di_ m.1)],[(0,.dat 3 (m.2.map qj))],1⟩) (w64 (f - 1),(g.2.2.set f.toNat p).set (w64 (f - 1)).toNat q) ch ci (wkE [] [] [] ee ⟨⟨_,ee,q16 (by simp) ee (by decide) (ltd ee)⟩,⟨_,ee,.d (.refl _)⟩,⟨_,ee,.d (.refl _)⟩,⟨_,ee,.d (.refl _)⟩,⟨_,ee,.d (.refl _)⟩,⟨_,ee,.d (.refl _)⟩,⟨_,ee,.d (.refl _)⟩,trivial⟩ ⟨⟨ltd ee,.inr ⟨by decide,_,ee,.dat _ _⟩⟩,trivial⟩) ?_
      intro m cr b
      unfold q1x at b
      refine qa<|sr_<|mv_ ee<|v_ (.d (.bool (decide (m.1 ≥ 1)))) ee<|q0 ?_
      refine qg ee b (fun _ b=>?_) (fun _ b=>?_)
      ·refine qh<|qa<|ql<|qa<|qa<|qm [(some [],[]),(some [],[]),(some [],[]),(some [0],[]),(some [],[]),(some [],[]),(some [],[]),(some [],[]),(some [0],[]),(some [],[]),(some [],[]),(some [],[]),(some [],[])] (by kernel_rfl)<|mv_ ee<|mv_ ee<|mv_ ee ?_
       obtain ⟨v,bn,b⟩:=q6 b
       refine ih_ bn ee ee<|lh_ (.d (.agg [i_ v.at_,i_ v.list_,i_ v.by_])) bn ee<|mv_ ee<|mv_ ee<|v_ (.d (i_ (w64 (m.1 - 1)))) ee ?_
       obtain ⟨w,bo,b⟩:=q6 b
       refine ih_ bo ee ee<|lh_ (.d (.agg [i_ w.at_,i_ w.list_,i_ w.by_])) bo ee ?_
       obtain ⟨an,cj,b⟩:=q6 b
       refine q81 [.d (.agg [i_ v.at_,i_ v.list_,i_ v.by_]),.d (.agg [i_ w.at_,i_ w.list_,i_ w.by_])] (q1Ok v w an cj) ee ee ee (.inl ee)<|v_ (.d (.bool (decide (an < 0)))) ee<|v_ (.d (.bool (!(decide (an < 0))))) ee<|q0 ?_
       refine qg ee b (fun _ b=>?_) (fun _ b=>?_)
       ·refine qv ?_
        refine ⟨_,(Option.some.inj b).symm,fun hm=>?_⟩
        subst hm
        obtain rfl:=q9 s
        exact ⟨_,ee,wkA [] [] []⟩
       refine qh<|qm [(some [0],[0]),(some [],[]),(some [0],[0]),(some [],[]),(some [0],[]),(some [],[]),(some [],[]),(some [],[]),(some [0],[]),(some [],[]),(some [],[]),(some [],[]),(some [],[]),(some [],[]),(some [],[]),(some [],[]),(some [],[]),(some [],[])] (by kernel_rfl)<|mv_ ee<|mv_ ee<|mv_ ee<|mv_ ee<|v_ (.d (i_ (w64 (m.1 - 1)))) ee<|mv_ ee<|mv_ ee<|v_ (.d (i_ (w64 (m.1 - 1)))) ee ?_
       obtain ⟨x,bp,b⟩:=q6 b
       refine ih_ bp ee ee<|lh_ (.d (.agg [i_ x.at_,i_ x.list_,i_ x.by_])) bp ee<|mv_ ee<|mv_ ee ?_
       obtain ⟨y,bq,b⟩:=q6 b
       refine ih_ bq ee ee<|lh_ (.d (.agg [i_ y.at_,i_ y.list_,i_ y.by_])) bq ee ?_
       obtain ⟨cs,br,b⟩:=q6 b
       refine ih_ br ee ee<|q18 (ds:=[i_ x.at_,i_ x.list_,i_ x.by_]) x br ee ee ee ee ee ee ee ee (leb ee) ee ?_
       obtain ⟨ct,bs,b⟩:=q6 b
       refine ih_ bs (by simp) ee<|q18 (ds:=[i_ y.at_,i_ y.list_,i_ y.by_]) y bs ee ee ee ee ee ee ee ee (leb ee) ee<|nl_<|qw<|qi<|mv_ ee<|v_ (.d (i_ (w64 (m.1 - 1)))) ee<|as_ ee<|nl_ ?_
       exact ⟨_,(Option.some.inj b).symm,wkE [] [] [] ee ⟨⟨_,ee,q16 (by simp) ee (by decide) (ltd ee)⟩,⟨_,ee,.d (.refl _)⟩,⟨_,ee,.d (.refl _)⟩,⟨_,ee,.d (.refl _)⟩,⟨_,ee,.d (.refl _)⟩,⟨_,ee,.d (.refl _)⟩,⟨_,ee,.d (.refl _)⟩,trivial⟩ ⟨⟨ltd ee,.inr ⟨by decide,_,ee,.dat _ _⟩⟩,trivial⟩⟩
      refine qv ?_
      refine ⟨_,(Option.some.inj b).symm,fun hm=>?_⟩
      subst hm
      obtain rfl:=q9 s
      exact ⟨_,ee,wkA [] [] []⟩
     refine qh<|qz ?_
     obtain rfl:=q9 s
     exact ⟨_,ee,wkE [] [] [] ee ⟨⟨_,ee,q16 (by simp) ee (by decide) (ltd ee)⟩,⟨_,ee,.d (.refl _)⟩,⟨_,ee,.d (.refl _)⟩,⟨_,ee,.d (.refl _)⟩,⟨_,ee,.d (.refl _)⟩,⟨_,ee,.d (.refl _)⟩,trivial⟩ ⟨⟨ltd ee,.inr ⟨by decide,_,ee,.dat _ _⟩⟩,trivial⟩⟩
    intro ag hb
    subst hb
    refine sr_<|mv_ ee<|mv_ ee<|v_ (.d (i_ (w64 (h - f)))) ee<|v_ (.d (.bool (decide ((w64 (h - f)) ≥ 2)))) ee<|q0 ?_
    refine qg ee a (fun _ a=>?_) (fun _ a=>?_)
    ·refine sr_<|mv_ ee<|v_ (.d (i_ (w64 (f + 1)))) ee<|as_ ee<|q0 ?_
     obtain ⟨ck,cl,a⟩:=q6 a
     refine ql<|qt (q1y h q1 f) (fun (n : Int × List qc)=>⟨[(0,.hs 0 3 0 n.2.length),(1,di_ j),(2,di_ h),(3,.d (.fn q1F q1C)),(9,di_ f),(10,di_ g.2.1),(12,di_ n.1)],[(0,.dat 3 (n.2.map qj))],1⟩) (w64 (f + 1),ag) ck cl (wkA [] [] []) ?_
     intro n cu c
     unfold q1y at c
     refine qa<|sr_<|mv_ ee<|mv_ ee<|v_ (.d (.bool (decide (n.1 < h)))) ee<|q0 ?_
     refine qg ee c (fun _ c=>?_) (fun _ c=>?_)
     ·refine qh<|qa<|ql<|qa<|qa<|qm [(some [],[]),(some [],[]),(some [],[]),(some [0],[]),(some [],[]),(some [],[]),(some [],[]),(some [],[]),(some [0],[]),(some [],[]),(some [],[]),(some [],[]),(some [],[])] (by kernel_rfl)<|mv_ ee<|mv_ ee<|mv_ ee ?_
      obtain ⟨z,bt,c⟩:=q6 c
      refine ih_ bt ee ee<|lh_ (.d (.agg [i_ z.at_,i_ z.list_,i_ z.by_])) bt ee<|mv_ ee<|mv_ ee<|v_ (.d (i_ (w64 (n.1 - 1)))) ee ?_
      obtain ⟨aa,bu,c⟩:=q6 c
      refine ih_ bu ee ee<|lh_ (.d (.agg [i_ aa.at_,i_ aa.list_,i_ aa.by_])) bu ee ?_
      obtain ⟨ao,cm,c⟩:=q6 c
      refine q81 [.d (.agg [i_ z.at_,i_ z.list_,i_ z.by_]),.d (.agg [i_ aa.at_,i_ aa.list_,i_ aa.by_])] (q1Ok z aa ao cm) ee ee ee (.inl ee)<|v_ (.d (.bool (decide (ao < 0)))) ee<|v_ (.d (.bool (!(decide (ao < 0))))) ee<|q0 ?_
      refine qg ee c (fun _ c=>?_) (fun _ c=>?_)
      ·refine qv ?_
       refine ⟨_,(Option.some.inj c).symm,fun hm=>?_⟩
       subst hm
       obtain rfl:=q9 a
       exact ⟨_,ee,wkA [] [] []⟩
      refine qh<|qm [(some [0],[0]),(some [],[]),(some [0],[0]),(some [],[]),(some [0],[]),(some [],[]),(some [],[]),(some [],[]),(some [0],[]),(some [],[]),(some [],[]),(some [],[]),(some [],[]),(some [],[]),(some [],[]),(some [],[]),(some [],[]),(some [],[])] (by kernel_rfl)<|mv_ ee<|mv_ ee<|mv_ ee<|mv_ ee<|v_ (.d (i_ (w64 (n.1 - 1)))) ee<|mv_ ee<|mv_ ee<|v_ (.d (i_ (w64 (n.1 - 1)))) ee ?_
      obtain ⟨ab,bv,c⟩:=q6 c
      refine ih_ bv ee ee<|lh_ (.d (.agg [i_ ab.at_,i_ ab.list_,i_ ab.by_])) bv ee<|mv_ ee<|mv_ ee ?_
      obtain ⟨ac,bw,c⟩:=q6 c
      refine ih_ bw ee ee<|lh_ (.d (.agg [i_ ac.at_,i_ ac.list_,i_ ac.by_])) bw ee ?_
      obtain ⟨cv,bz,c⟩:=q6 c
      refine ih_ bz ee ee<|q18 (ds:=[i_ ab.at_,i_ ab.list_,i_ ab.by_]) ab bz ee ee ee ee ee ee ee ee (leb ee) ee ?_
      obtain ⟨cw,ca,c⟩:=q6 c
      refine ih_ ca (by simp) ee<|q18 (ds:=[i_ ac.at_,i_ ac.list_,i_ ac.by_]) ac ca ee ee ee ee ee ee ee ee (leb ee) ee<|nl_<|qw<|qi<|mv_ ee<|v_ (.d (i_ (w64 (n.1 + 1)))) ee<|as_ ee<|nl_ ?_
      exact ⟨_,(Option.some.inj c).symm,wkE [] [] [] ee ⟨⟨_,ee,q16 (by simp) ee (by decide) (ltd ee)⟩,⟨_,ee,.d (.refl _)⟩,⟨_,ee,.d (.refl _)⟩,⟨_,ee,.d (.refl _)⟩,⟨_,ee,.d (.refl _)⟩,⟨_,ee,.d (.refl _)⟩,⟨_,ee,.d (.refl _)⟩,trivial⟩ ⟨⟨ltd ee,.inr ⟨by decide,_,ee,.dat _ _⟩⟩,trivial⟩⟩
     refine qv ?_
     refine ⟨_,(Option.some.inj c).symm,fun hm=>?_⟩
     subst hm
     obtain rfl:=q9 a
     exact ⟨_,ee,wkA [] [] []⟩
    refine qh<|qz ?_
    obtain rfl:=q9 a
    exact ⟨_,ee,wkA [] [] []⟩
   intro af hb
   subst hb
   refine qi<|mv_ ee<|v_ (.d (i_ (w64 (g.2.1 + 1)))) ee<|as_ ee<|nl_ ?_
   exact ⟨_,(Option.some.inj l).symm,wkA [] [] []⟩
  refine qv ?_
  refine ⟨_,(Option.some.inj l).symm,fun hm=>?_⟩
  subst hm
  exact ⟨_,ee,wkA [] [] []⟩
 intro al hb
 subst hb
 refine sr_<|as_ ee<|nt_ ?_
 obtain rfl:=q9 h0
 exact ⟨.inr ee,_,ee,wkA [] [] []⟩
theorem qa7 (w : qc→qc→Option Int) (q1F : FuncId) (q1C : List DV) (q1Ok : ∀ (y : qc) (z : qc) (r : Int),w y z = some r→Pure Tryz.prog tab q1F ([.agg [i_ y.at_,i_ y.list_,i_ y.by_],.agg [i_ z.at_,i_ z.list_,i_ z.by_]] ++ q1C) (i_ r)) (p0 : List qc) (c : Int) (p2 : Int) (p3 : Int) (r : Int × List qc) (f : q2w w p0 c p2 p3 = some r) : q1j Tryz.prog tab 176 [.hs 0 3 0 p0.length,di_ c,di_ p2,di_ p3,.d (.fn q1F q1C)] [(0,.dat 3 (p0.map qj))] 1 (di_ r.1) [(0,.dat 3 (r.2.map qj))] 1:=by
 unfold q2w at f
 refine q1a Tryz.func176 ee (by kernel_rfl) (by kernel_rfl) ee<|sr_<|as_ ee<|q0<|qa<|qm [(some [0],[0]),(some [],[]),(some [0],[0]),(some [],[]),(some [0],[]),(some [],[]),(some [],[]),(some [],[]),(some [0],[]),(some [],[]),(some [],[]),(some [],[]),(some [],[]),(some [],[]),(some [],[]),(some [],[])] (by kernel_rfl)<|mv_ ee<|mv_ ee<|mv_ ee<|mv_ ee<|mv_ ee<|mv_ ee ?_
 obtain ⟨k,ah,f⟩:=q6 f
 refine ih_ ah ee ee<|lh_ (.d (.agg [i_ k.at_,i_ k.list_,i_ k.by_])) ah ee<|mv_ ee<|mv_ ee ?_
 obtain ⟨l,ai,f⟩:=q6 f
 refine ih_ ai ee ee<|lh_ (.d (.agg [i_ l.at_,i_ l.list_,i_ l.by_])) ai ee ?_
 obtain ⟨cg,aj,f⟩:=q6 f
 refine ih_ aj ee ee<|q18 (ds:=[i_ k.at_,i_ k.list_,i_ k.by_]) k aj ee ee ee ee ee ee ee ee (leb ee) ee ?_
 obtain ⟨ch,ak,f⟩:=q6 f
 refine ih_ ak (by simp) ee<|q18 (ds:=[i_ l.at_,i_ l.list_,i_ l.by_]) l ak ee ee ee ee ee ee ee ee (leb ee) ee<|qs<|mv_ ee<|v_ (.d (i_ (w64 (c + 1)))) ee<|mv_ ee<|v_ (.d (i_ (w64 (p2 - 1)))) ee<|as_ ee<|as_ ee<|q0<|qa ?_
 obtain ⟨al,bz,f⟩:=q6 f
 refine qp (fun x=>x = al) (fun (x : Int × List qc)=>⟨[(11,di_ x.1)],[(0,.dat 3 (x.2.map qj))],1⟩) (by simp) ?_ ?_
 ·refine qt (q2g c w) (fun (a : Int × Int × List qc)=>⟨[(0,.hs 0 3 0 a.2.2.length),(1,di_ c),(4,.d (.fn q1F q1C)),(11,di_ a.1),(12,di_ a.2.1)],[(0,.dat 3 (a.2.2.map qj))],1⟩) (w64 (c + 1),w64 (p2 - 1),(p0.set c.toNat k).set p3.toNat l) al bz (wkE [] [] [] ee ⟨⟨_,ee,q16 (by simp) ee (by decide) (ltd ee)⟩,⟨_,ee,.d (.refl _)⟩,⟨_,ee,.d (.refl _)⟩,⟨_,ee,.d (.refl _)⟩,⟨_,ee,.d (.refl _)⟩,trivial⟩ ⟨⟨ltd ee,.inr ⟨by decide,_,ee,.dat _ _⟩⟩,trivial⟩) ?_
  intro a ci b
  unfold q2g at b
  refine ql<|qa ?_
  obtain ⟨am,ca,b⟩:=q6 b
  refine qp (fun j=>j = am) (fun (j : Int)=>⟨[(0,.hs 0 3 0 a.2.2.length),(1,di_ c),(4,.d (.fn q1F q1C)),(11,di_ j),(12,di_ a.2.1)],[(0,.dat 3 (a.2.2.map qj))],1⟩) (by simp) ?_ ?_
  ·refine qt (q2h a c w) (fun (ac : Int)=>⟨[(0,.hs 0 3 0 a.2.2.length),(1,di_ c),(4,.d (.fn q1F q1C)),(11,di_ ac),(12,di_ a.2.1)],[(0,.dat 3 (a.2.2.map qj))],1⟩) a.1 am ca (wkA [] [] []) ?_
   intro ac cj m
   unfold q2h at m
   refine qa<|qa<|qm [(some [],[]),(some [],[]),(some [],[]),(some [],[]),(some [0],[]),(some [],[]),(some [],[]),(some [],[]),(some [0],[]),(some [],[]),(some [],[]),(some [],[]),(some [],[]),(some [],[]),(some [],[]),(some [],[]),(some [],[])] (by kernel_rfl)<|mv_ ee<|mv_ ee<|v_ (.d (.bool (decide (ac≤a.2.1)))) ee ?_
   obtain ⟨cb,g,m⟩:=q6 m
   refine qq 14 (fun A st=>∃ (an ao ap aq ar au av aw ax ay az ba bb : V),st = A [(47,db_ cb),(46,bb),(45,ba),(44,az),(43,ay),(42,ax),(41,aw),(40,av),(39,au),(38,ar),(37,aq),(36,ap),(35,ao),(34,an)]) ?_ ?_
   ·refine qu ee ee g (fun g=>?_) (fun g=>?_)
    ·refine mv_ ee<|mv_ ee<|mv_ ee ?_
     obtain ⟨o,bc,g⟩:=q6 g
     refine ih_ bc ee ee<|lh_ (.d (.agg [i_ o.at_,i_ o.list_,i_ o.by_])) bc ee<|mv_ ee<|mv_ ee ?_
     obtain ⟨p,bd,g⟩:=q6 g
     refine ih_ bd ee ee<|lh_ (.d (.agg [i_ p.at_,i_ p.list_,i_ p.by_])) bd ee ?_
     obtain ⟨ad,cc,g⟩:=q6 g
     refine q81 [.d (.agg [i_ o.at_,i_ o.list_,i_ o.by_]),.d (.agg [i_ p.at_,i_ p.list_,i_ p.by_])] (q1Ok o p ad cc) ee ee ee (.inl ee)<|v_ (.d (.bool (decide (ad < 0)))) ee<|v_ (.d (.bool (!(decide (ad < 0))))) ee<|v_ (.d (.bool (!(decide (ad < 0))))) ee<|q0 ?_
     obtain rfl:=q9 g
     exact ⟨_,_,_,_,_,_,_,_,_,_,_,_,_,ee⟩
    refine q7 ee<|q7 ee<|q7 ee<|q7 ee<|q7 ee<|q7 ee<|q7 ee<|q7 ee<|q7 ee<|q7 ee<|q7 ee<|q7 ee<|v_ (db_ false) ee<|q0 ?_
    obtain rfl:=q9 g
    exact ⟨_,_,_,_,_,_,_,_,_,_,_,_,_,ee⟩
   rintro _ ⟨an,ao,ap,aq,ar,au,av,aw,ax,ay,az,ba,bb,rfl⟩
   refine q0 ?_
   refine qg ee m (fun _ m=>?_) (fun _ m=>?_)
   ·refine qh<|ql<|qi<|mv_ ee<|v_ (.d (i_ (w64 (ac + 1)))) ee<|as_ ee<|nl_<|qw<|qz ?_
    exact ⟨_,(Option.some.inj m).symm,wkA [] [] []⟩
   refine qv ?_
   refine ⟨_,(Option.some.inj m).symm,fun hm=>?_⟩
   subst hm
   exact ⟨_,ee,wkA [] [] []⟩
  intro j hb
  subst hb
  refine qa ?_
  obtain ⟨be,cd,b⟩:=q6 b
  refine qp (fun v=>v = be) (fun (v : Int)=>⟨[(0,.hs 0 3 0 a.2.2.length),(1,di_ c),(4,.d (.fn q1F q1C)),(11,di_ j),(12,di_ v)],[(0,.dat 3 (a.2.2.map qj))],1⟩) (by simp) ?_ ?_
  ·refine qt (q2i j a c w) (fun (ae : Int)=>⟨[(0,.hs 0 3 0 a.2.2.length),(1,di_ c),(4,.d (.fn q1F q1C)),(11,di_ j),(12,di_ ae)],[(0,.dat 3 (a.2.2.map qj))],1⟩) a.2.1 be cd (wkA [] [] []) ?_
   intro ae ck n
   unfold q2i at n
   refine qa<|qa<|qm [(some [],[]),(some [],[]),(some [],[]),(some [0],[]),(some [],[]),(some [],[]),(some [],[]),(some [0],[]),(some [],[]),(some [],[]),(some [],[]),(some [],[]),(some [],[]),(some [],[]),(some [],[]),(some [],[])] (by kernel_rfl)<|mv_ ee<|mv_ ee<|v_ (.d (.bool (decide (j≤ae)))) ee ?_
   obtain ⟨ce,h,n⟩:=q6 n
   refine qq 13 (fun A st=>∃ (bf bg bh bi bj bk bl bm bn bo bp bq : V),st = A [(65,db_ ce),(64,bq),(63,bp),(62,bo),(61,bn),(60,bm),(59,bl),(58,bk),(57,bj),(56,bi),(55,bh),(54,bg),(53,bf)]) ?_ ?_
   ·refine qu ee ee h (fun h=>?_) (fun h=>?_)
    ·refine mv_ ee<|mv_ ee<|mv_ ee ?_
     obtain ⟨q,br,h⟩:=q6 h
     refine ih_ br ee ee<|lh_ (.d (.agg [i_ q.at_,i_ q.list_,i_ q.by_])) br ee<|mv_ ee<|mv_ ee ?_
     obtain ⟨s,bs,h⟩:=q6 h
     refine ih_ bs ee ee<|lh_ (.d (.agg [i_ s.at_,i_ s.list_,i_ s.by_])) bs ee ?_
     obtain ⟨ag,cf,h⟩:=q6 h
     refine q81 [.d (.agg [i_ q.at_,i_ q.list_,i_ q.by_]),.d (.agg [i_ s.at_,i_ s.list_,i_ s.by_])] (q1Ok q s ag cf) ee ee ee (.inl ee)<|v_ (.d (.bool (decide (ag < 0)))) ee<|v_ (.d (.bool (decide (ag < 0)))) ee<|q0 ?_
     obtain rfl:=q9 h
     exact ⟨_,_,_,_,_,_,_,_,_,_,_,_,ee⟩
    refine q7 ee<|q7 ee<|q7 ee<|q7 ee<|q7 ee<|q7 ee<|q7 ee<|q7 ee<|q7 ee<|q7 ee<|q7 ee<|v_ (db_ false) ee<|q0 ?_
    obtain rfl:=q9 h
    exact ⟨_,_,_,_,_,_,_,_,_,_,_,_,ee⟩
   rintro _ ⟨bf,bg,bh,bi,bj,bk,bl,bm,bn,bo,bp,bq,rfl⟩
   refine q0 ?_
   refine qg ee n (fun _ n=>?_) (fun _ n=>?_)
   ·refine qh<|ql<|qi<|mv_ ee<|v_ (.d (i_ (w64 (ae - 1)))) ee<|as_ ee<|nl_<|qw<|qz ?_
    exact ⟨_,(Option.some.inj n).symm,wkA [] [] []⟩
   refine qv ?_
   refine ⟨_,(Option.some.inj n).symm,fun hm=>?_⟩
   subst hm
   exact ⟨_,ee,wkA [] [] []⟩
  intro v hb
  subst hb
  refine qa<|sr_<|mv_ ee<|mv_ ee<|v_ (.d (.bool (decide (j > v)))) ee<|q0 ?_
  refine qg ee b (fun _ b=>?_) (fun _ b=>?_)
  ·refine qv ?_
   refine ⟨_,(Option.some.inj b).symm,fun hm=>?_⟩
   subst hm
   exact ⟨_,ee,wkA [] [] []⟩
  refine qh<|qa<|qm [(some [0],[0]),(some [],[]),(some [0],[0]),(some [],[]),(some [0],[]),(some [],[]),(some [],[]),(some [],[]),(some [0],[]),(some [],[]),(some [],[]),(some [],[]),(some [],[]),(some [],[]),(some [],[]),(some [],[])] (by kernel_rfl)<|mv_ ee<|mv_ ee<|mv_ ee<|mv_ ee<|mv_ ee<|mv_ ee ?_
  obtain ⟨t,bt,b⟩:=q6 b
  refine ih_ bt ee ee<|lh_ (.d (.agg [i_ t.at_,i_ t.list_,i_ t.by_])) bt ee<|mv_ ee<|mv_ ee ?_
  obtain ⟨u,bu,b⟩:=q6 b
  refine ih_ bu ee ee<|lh_ (.d (.agg [i_ u.at_,i_ u.list_,i_ u.by_])) bu ee ?_
  obtain ⟨cl,bv,b⟩:=q6 b
  refine ih_ bv ee ee<|q18 (ds:=[i_ t.at_,i_ t.list_,i_ t.by_]) t bv ee ee ee ee ee ee ee ee (leb ee) ee ?_
  obtain ⟨cm,bw,b⟩:=q6 b
  refine ih_ bw (by simp) ee<|q18 (ds:=[i_ u.at_,i_ u.list_,i_ u.by_]) u bw ee ee ee ee ee ee ee ee (leb ee) ee<|qs<|mv_ ee<|v_ (.d (i_ (w64 (j + 1)))) ee<|as_ ee<|q0<|qi<|mv_ ee<|v_ (.d (i_ (w64 (v - 1)))) ee<|as_ ee<|nl_<|qw<|qz ?_
  exact ⟨_,(Option.some.inj b).symm,wkE [] [] [] ee ⟨⟨_,ee,q16 (by simp) ee (by decide) (ltd ee)⟩,⟨_,ee,.d (.refl _)⟩,⟨_,ee,.d (.refl _)⟩,⟨_,ee,.d (.refl _)⟩,⟨_,ee,.d (.refl _)⟩,trivial⟩ ⟨⟨ltd ee,.inr ⟨by decide,_,ee,.dat _ _⟩⟩,trivial⟩⟩
 intro x hb
 subst hb
 refine sr_<|mv_ ee<|as_ ee<|nt_ ?_
 obtain rfl:=q9 f
 exact ⟨.inr ee,_,ee,wkA [] [] []⟩
end Go.Proofs.YtjjmcdlnadkjbaaGreat
