/- W_SolidMakesa -/
import Derived.Test.YtjjmcdlnadkjbaaGreatK13
namespace Go.Proofs.YtjjmcdlnadkjbaaGreat
open Go Go.Am Go.Sh
set_option maxHeartbeats 8000000
set_option maxRecDepth 100000
theorem qfw (a : List api_Box) (r : Bool) (b : q9o a = some r) : Pure Tryz.prog tab 12 [.sl 6 (a.map qa)] (.bool r):=by
 unfold q9o at b
 refine ql Tryz.func12 ee (by kernel_rfl) (by kernel_rfl) ee<|q7<|q0<|as_ ee<|q6<|q7<|q0<|mv_ ee<|q15 ee ee ee ee<|v_ (.d (.bool (decide ((a.length : Int) > 30)))) ee ?_
 obtain ⟨q,c,b⟩:=bindE b
 refine qo 5 (fun A st=>∃ (g h j k : V),st = A [(10,db_ q),(9,k),(8,j),(7,h),(6,g)]) ?_ ?_
 ·refine qs ee ee c (fun c=>?_) (fun c=>?_)
  ·refine mv_ ee<|q15 ee ee ee ee<|v_ (.d (.bool (decide ((a.length : Int)≤400)))) ee<|v_ (.d (.bool (decide ((a.length : Int)≤400)))) ee<|q6 ?_
   obtain rfl:=someE c
   exact ⟨_,_,_,_,ee⟩
  refine q8 ee<|q8 ee<|q8 ee<|v_ (db_ false) ee<|q6 ?_
  obtain rfl:=someE c
  exact ⟨_,_,_,_,ee⟩
 rintro _ ⟨g,h,j,k,rfl⟩
 obtain ⟨l,f,b⟩:=bindE b
 refine qo 5 (fun A st=>∃ (m n o p : V),st = A [(15,db_ l),(14,p),(13,o),(12,n),(11,m)]) ?_ ?_
 ·refine qs ee ee f (fun f=>?_) (fun f=>?_)
  ·refine q8 ee<|q8 ee<|q8 ee<|v_ (db_ true) ee<|q6 ?_
   obtain rfl:=someE f
   exact ⟨_,_,_,_,ee⟩
  refine mv_ ee<|q15 ee ee ee ee<|v_ (.d (.bool (decide ((a.length : Int) > 420)))) ee<|v_ (.d (.bool (decide ((a.length : Int) > 420)))) ee<|q6 ?_
  obtain rfl:=someE f
  exact ⟨_,_,_,_,ee⟩
 rintro _ ⟨m,n,o,p,rfl⟩
 refine as_ ee<|q6<|qj ?_
 obtain rfl:=someE b
 exact finD (.inr ee) (v:=(db_ l)) ee ee (.refl _)
theorem qol (a : List api_Box) (r : List api_Box) (b : qbt a = some r) : Pure Tryz.prog tab 13 [.sl 6 (a.map qa)] (.sl 6 (r.map qa)):=by
 unfold qbt at b
 refine ql Tryz.func13 ee (by kernel_rfl) (by kernel_rfl) ee<|q7<|q0<|as_ ee<|q6<|q7<|q0<|q3s (.hs 0 6 0 ([] : List api_Box).length) (.dat 6 (([] : List api_Box).map qa)) ee<|mv_ ee ?_
 obtain ⟨c,f,b⟩:=bindE b
 refine q5l (xs:=[]) (ys:=a) (enc:=qa) (.d (.sl 6 (a.map qa))) f ee ee ee ee ee ee ee contsDsl ee ee ee ee<|as_ ee<|q6<|qj ?_
 obtain rfl:=someE b
 exact finD (.inr ee) (v:=.hs 1 6 0 c.length) ee (qa1 ee ee) (.refl _)
theorem q92 (f : List api_Box) (j : api_Box→Option Bool) (p1F : FuncId) (p1C : List DV) (p1Ok : ∀ (c : api_Box) (r : Bool),j c = some r→Pure Tryz.prog tab p1F ([.agg [i_ c.Lo.X,i_ c.Lo.Y,i_ c.Lo.Z,i_ c.Hi.X,i_ c.Hi.Y,i_ c.Hi.Z]] ++ p1C) (.bool r)) (r : Int) (g : q4l f j = some r) : Pure Tryz.prog tab 80 [.sl 6 (f.map qa),.fn p1F p1C] (i_ r):=by
 unfold q4l at g
 refine ql Tryz.func80 ee (by kernel_rfl) (by kernel_rfl) ee<|q7<|q0<|as_ ee<|q6<|q7<|q7<|q0<|mv_ ee<|q15 ee ee ee ee<|mv_ ee<|q6 ?_
 obtain ⟨l,m,g⟩:=bindE g
 refine qk (fun k=>.inl k = l) (fun (k : Unit)=>⟨[],[],0⟩) (by simp) ?_ ?_
 ·refine qn (q1o f j) (fun (h : Int)=>⟨[(0,.d (.sl 6 (f.map qa))),(1,.d (.fn p1F p1C)),(7,di_ (f.length : Int)),(8,di_ h)],[],0⟩) 0 l m (wkA [] [] []) ?_
  intro h q a
  unfold q1o at a
  refine q7<|q0<|v_ (.d (.bool (decide (h < (f.length : Int))))) ee<|q6<|q7 ?_
  refine qb ee a (fun _ a=>?_) (fun _ a=>?_)
  ·refine qd<|q7<|qh<|q7<|q0<|mv_ ee<|as_ ee<|q6<|q7<|q0<|mv_ ee<|mv_ ee<|mv_ ee ?_
   obtain ⟨b,n,a⟩:=bindE a
   refine qv (enc:=qa) n ee ee ee ee ee ee<|v_ (.d (.agg [i_ b.Lo.X,i_ b.Lo.Y,i_ b.Lo.Z,i_ b.Hi.X,i_ b.Hi.Y,i_ b.Hi.Z])) ee ?_
   obtain ⟨o,p,a⟩:=bindE a
   refine q66 [.d (.agg [i_ b.Lo.X,i_ b.Lo.Y,i_ b.Lo.Z,i_ b.Hi.X,i_ b.Hi.Y,i_ b.Hi.Z])] (p1Ok b o p) ee ee ee (.inl ee)<|q6 ?_
   refine qb ee a (fun _ a=>?_) (fun _ a=>?_)
   ·refine q7<|q0<|mv_ ee<|as_ ee<|q6<|qj ?_
    refine ⟨_,(Option.some.inj a).symm,fun hm=>?_⟩
    subst hm
    obtain rfl:=someE g
    exact finD (.inr ee) (v:=(di_ h)) ee ee (.refl _)
   refine qd<|qc<|qr<|q0<|v_ (.d (i_ (w64 (h + 1)))) ee<|mv_ ee<|q6<|qc ?_
   exact ⟨_,(Option.some.inj a).symm,wkA [] [] []⟩
  refine qm ?_
  refine ⟨_,(Option.some.inj a).symm,fun hm=>?_⟩
  subst hm
  exact ⟨_,ee,wkA [] [] []⟩
 intro k hb
 subst hb
 refine q7<|q0<|as_ ee<|q6<|qj ?_
 obtain rfl:=someE g
 exact finD (.inr ee) (v:=(di_ (-1))) ee ee (.refl _)
theorem q7z (b : List api_Box) (f : api_Box→Option Bool) (p1F : FuncId) (p1C : List DV) (p1Ok : ∀ (a : api_Box) (r : Bool),f a = some r→Pure Tryz.prog tab p1F ([.agg [i_ a.Lo.X,i_ a.Lo.Y,i_ a.Lo.Z,i_ a.Hi.X,i_ a.Hi.Y,i_ a.Hi.Z]] ++ p1C) (.bool r)) (r : Bool) (c : q3h b f = some r) : Pure Tryz.prog tab 50 [.sl 6 (b.map qa),.fn p1F p1C] (.bool r):=by
 unfold q3h at c
 refine ql Tryz.func50 ee (by kernel_rfl) (by kernel_rfl) ee<|q7<|q0<|as_ ee<|q6<|q7<|q0<|mv_ ee<|mv_ ee ?_
 obtain ⟨g,h,c⟩:=bindE c
 refine qu [.d (.sl 6 (b.map qa)),.d (.fn p1F p1C)] (q92 b f p1F p1C p1Ok g h) ee ee ee (.inl ee)<|v_ (.d (.bool (decide (g ≥ 0)))) ee<|as_ ee<|q6<|qj ?_
 obtain rfl:=someE c
 exact finD (.inr ee) (v:=.d (.bool (decide (g ≥ 0)))) ee ee (.refl _)
theorem qe8 (a : qz) (r : Bool) (c : q8w a = some r) : Pure Tryz.prog tab 81 [.agg [i_ a.X,i_ a.Y,i_ a.Z]] (.bool r):=by
 unfold q8w at c
 refine ql Tryz.func81 ee (by kernel_rfl) (by kernel_rfl) ee<|q7<|q0<|q3s (.ref 0 3 0 0) (.dat 3 [[i_ a.X,i_ a.Y,i_ a.Z]]) ee<|as_ ee<|q6<|q7<|q0<|v_ (.ref 0 3 0 0) ee<|v_ (di_ a.X) ee<|v_ (.ref 0 3 0 1) ee<|v_ (di_ a.Y) ee<|v_ (.ref 0 3 0 2) ee<|v_ (di_ a.Z) ee<|qv1 (r:=min (min a.X a.Y) a.Z) ee ee (by simp only [qsq];ee)<|v_ (.d (.bool (decide ((min (min a.X a.Y) a.Z) ≥ (-1000000))))) ee ?_
 obtain ⟨f,b,c⟩:=bindE c
 refine qo 10 (fun A st=>∃ (g h j k l m n o p : V),st = A [(20,db_ f),(19,p),(18,o),(17,n),(16,m),(15,l),(14,k),(13,j),(12,h),(11,g)]) ?_ ?_
 ·refine qs ee ee b (fun b=>?_) (fun b=>?_)
  ·refine v_ (.ref 0 3 0 0) ee<|v_ (di_ a.X) ee<|v_ (.ref 0 3 0 1) ee<|v_ (di_ a.Y) ee<|v_ (.ref 0 3 0 2) ee<|v_ (di_ a.Z) ee<|qv2 (r:=max (max a.X a.Y) a.Z) ee ee (by simp only [qsr];ee)<|v_ (.d (.bool (decide ((max (max a.X a.Y) a.Z)≤1000000)))) ee<|v_ (.d (.bool (decide ((max (max a.X a.Y) a.Z)≤1000000)))) ee<|q6 ?_
   obtain rfl:=someE b
   exact ⟨_,_,_,_,_,_,_,_,_,ee⟩
  refine q8 ee<|q8 ee<|q8 ee<|q8 ee<|q8 ee<|q8 ee<|q8 ee<|q8 ee<|v_ (db_ false) ee<|q6 ?_
  obtain rfl:=someE b
  exact ⟨_,_,_,_,_,_,_,_,_,ee⟩
 rintro _ ⟨g,h,j,k,l,m,n,o,p,rfl⟩
 refine as_ ee<|q6<|qj ?_
 obtain rfl:=someE c
 exact finD (.inr ee) (v:=(db_ f)) ee ee (.refl _)
theorem qdb (a : api_Box) (r : Bool) (b : q7t a = some r) : Pure Tryz.prog tab 52 [.agg [i_ a.Lo.X,i_ a.Lo.Y,i_ a.Lo.Z,i_ a.Hi.X,i_ a.Hi.Y,i_ a.Hi.Z]] (.bool r):=by
 unfold q7t at b
 refine ql Tryz.func52 ee (by kernel_rfl) (by kernel_rfl) ee<|q7<|q0<|q3s (.ref 0 6 0 0) (.dat 6 [[i_ a.Lo.X,i_ a.Lo.Y,i_ a.Lo.Z,i_ a.Hi.X,i_ a.Hi.Y,i_ a.Hi.Z]]) ee<|as_ ee<|q6<|q7<|q0<|v_ (.ref 0 6 0 0) ee<|v_ (.ref 0 6 0 0) ee<|v_ (di_ a.Lo.X) ee<|v_ (.ref 0 6 0 3) ee<|v_ (.ref 0 6 0 3) ee<|v_ (di_ a.Hi.X) ee<|v_ (.d (.bool (decide (a.Lo.X < a.Hi.X)))) ee ?_
 obtain ⟨c1,g,b⟩:=bindE b
 refine qo 9 (fun A st=>∃ (j k l m n o p q : V),st = A [(18,db_ c1),(17,q),(16,p),(15,o),(14,n),(13,m),(12,l),(11,k),(10,j)]) ?_ ?_
 ·refine qs ee ee g (fun g=>?_) (fun g=>?_)
  ·refine v_ (.ref 0 6 0 0) ee<|v_ (.ref 0 6 0 1) ee<|v_ (di_ a.Lo.Y) ee<|v_ (.ref 0 6 0 3) ee<|v_ (.ref 0 6 0 4) ee<|v_ (di_ a.Hi.Y) ee<|v_ (.d (.bool (decide (a.Lo.Y < a.Hi.Y)))) ee<|v_ (.d (.bool (decide (a.Lo.Y < a.Hi.Y)))) ee<|q6 ?_
   obtain rfl:=someE g
   exact ⟨_,_,_,_,_,_,_,_,ee⟩
  refine q8 ee<|q8 ee<|q8 ee<|q8 ee<|q8 ee<|q8 ee<|q8 ee<|v_ (db_ false) ee<|q6 ?_
  obtain rfl:=someE g
  exact ⟨_,_,_,_,_,_,_,_,ee⟩
 rintro _ ⟨j,k,l,m,n,o,p,q,rfl⟩
 obtain ⟨an,h,b⟩:=bindE b
 refine qo 9 (fun A st=>∃ (s t u w x y z aa : V),st = A [(27,db_ an),(26,aa),(25,z),(24,y),(23,x),(22,w),(21,u),(20,t),(19,s)]) ?_ ?_
 ·refine qs ee ee h (fun h=>?_) (fun h=>?_)
  ·refine v_ (.ref 0 6 0 0) ee<|v_ (.ref 0 6 0 2) ee<|v_ (di_ a.Lo.Z) ee<|v_ (.ref 0 6 0 3) ee<|v_ (.ref 0 6 0 5) ee<|v_ (di_ a.Hi.Z) ee<|v_ (.d (.bool (decide (a.Lo.Z < a.Hi.Z)))) ee<|v_ (.d (.bool (decide (a.Lo.Z < a.Hi.Z)))) ee<|q6 ?_
   obtain rfl:=someE h
   exact ⟨_,_,_,_,_,_,_,_,ee⟩
  refine q8 ee<|q8 ee<|q8 ee<|q8 ee<|q8 ee<|q8 ee<|q8 ee<|v_ (db_ false) ee<|q6 ?_
  obtain rfl:=someE h
  exact ⟨_,_,_,_,_,_,_,_,ee⟩
 rintro _ ⟨s,t,u,w,x,y,z,aa,rfl⟩
 obtain ⟨ao,c,b⟩:=bindE b
 refine qo 5 (fun A st=>∃ (ab ac ad ae : V),st = A [(32,db_ ao),(31,ae),(30,ad),(29,ac),(28,ab)]) ?_ ?_
 ·refine qs ee ee c (fun c=>?_) (fun c=>?_)
  ·refine v_ (.ref 0 6 0 0) ee<|v_ (.d (.agg [i_ a.Lo.X,i_ a.Lo.Y,i_ a.Lo.Z])) ee ?_
   obtain ⟨af,ap,c⟩:=bindE c
   refine qu [.d (.agg [i_ a.Lo.X,i_ a.Lo.Y,i_ a.Lo.Z])] (qe8 a.Lo af ap) ee ee ee (.inl ee)<|v_ (db_ af) ee<|q6 ?_
   obtain rfl:=someE c
   exact ⟨_,_,_,_,ee⟩
  refine q8 ee<|q8 ee<|q8 ee<|v_ (db_ false) ee<|q6 ?_
  obtain rfl:=someE c
  exact ⟨_,_,_,_,ee⟩
 rintro _ ⟨ab,ac,ad,ae,rfl⟩
 obtain ⟨ag,f,b⟩:=bindE b
 refine qo 5 (fun A st=>∃ (ah ai aj ak : V),st = A [(37,db_ ag),(36,ak),(35,aj),(34,ai),(33,ah)]) ?_ ?_
 ·refine qs ee ee f (fun f=>?_) (fun f=>?_)
  ·refine v_ (.ref 0 6 0 3) ee<|v_ (.d (.agg [i_ a.Hi.X,i_ a.Hi.Y,i_ a.Hi.Z])) ee ?_
   obtain ⟨al,aq,f⟩:=bindE f
   refine qu [.d (.agg [i_ a.Hi.X,i_ a.Hi.Y,i_ a.Hi.Z])] (qe8 a.Hi al aq) ee ee ee (.inl ee)<|v_ (db_ al) ee<|q6 ?_
   obtain rfl:=someE f
   exact ⟨_,_,_,_,ee⟩
  refine q8 ee<|q8 ee<|q8 ee<|v_ (db_ false) ee<|q6 ?_
  obtain rfl:=someE f
  exact ⟨_,_,_,_,ee⟩
 rintro _ ⟨ah,ai,aj,ak,rfl⟩
 refine as_ ee<|q6<|qj ?_
 obtain rfl:=someE b
 exact finD (.inr ee) (v:=(db_ ag)) ee ee (.refl _)
theorem qj8 (a : api_Box) (r : Bool) (b : q5o a = some r) : Pure Tryz.prog tab 51 [.agg [i_ a.Lo.X,i_ a.Lo.Y,i_ a.Lo.Z,i_ a.Hi.X,i_ a.Hi.Y,i_ a.Hi.Z]] (.bool r):=by
 unfold q5o at b
 refine ql Tryz.func51 ee (by kernel_rfl) (by kernel_rfl) ee<|q7<|q0<|q3s (.ref 0 6 0 0) (.dat 6 [[i_ a.Lo.X,i_ a.Lo.Y,i_ a.Lo.Z,i_ a.Hi.X,i_ a.Hi.Y,i_ a.Hi.Z]]) ee<|as_ ee<|q6<|q7<|q0<|v_ (.d (.agg [i_ a.Lo.X,i_ a.Lo.Y,i_ a.Lo.Z,i_ a.Hi.X,i_ a.Hi.Y,i_ a.Hi.Z])) ee ?_
 obtain ⟨c,f,b⟩:=bindE b
 refine qu [.d (.agg [i_ a.Lo.X,i_ a.Lo.Y,i_ a.Lo.Z,i_ a.Hi.X,i_ a.Hi.Y,i_ a.Hi.Z])] (qdb a c f) ee ee ee (.inl ee)<|v_ (db_ (!c)) ee<|as_ ee<|q6<|qj ?_
 obtain rfl:=someE b
 exact finD (.inr ee) (v:=(db_ (!c))) ee ee (.refl _)
theorem qfx (k : Int) (r : Int) (a : q4u k = some r) : Pure Tryz.prog tab 154 [.int .u64 k] (i_ r):=by
 unfold q4u at a
 refine ql Tryz.func154 ee (by kernel_rfl) (by kernel_rfl) ee<|q7<|q0<|as_ ee<|q6<|q7<|q7<|q0<|mv_ ee<|v_ (.d (.bool (decide (k ≥ 4294967296)))) ee<|q6 ?_
 obtain ⟨m,g,a⟩:=bindE a
 refine q57 (fun b=>b = m) (fun (b : Int × Int)=>⟨[(0,.d (.int .u64 b.1)),(2,di_ b.2)],[],0⟩) (by simp) ?_ ?_
 ·refine qb ee g (fun _ g=>?_) (fun _ g=>?_)
  ·refine q7<|q0<|mv_ ee<|v_ (.d (.int .u64 (Int.fdiv k (2 ^ 32)))) ee<|as_ ee<|q6<|q0<|as_ ee<|q6<|qc ?_
   obtain rfl:=someE g
   exact ⟨_,ee,wkA [] [] []⟩
  refine qd<|qc ?_
  obtain rfl:=someE g
  exact ⟨_,ee,wkA [] [] []⟩
 intro b hb
 subst hb
 refine q7<|q7<|q0<|mv_ ee<|v_ (.d (.bool (decide (b.1 ≥ 65536)))) ee<|q6 ?_
 obtain ⟨n,h,a⟩:=bindE a
 refine q57 (fun c=>c = n) (fun (c : Int × Int)=>⟨[(0,.d (.int .u64 c.1)),(2,di_ c.2)],[],0⟩) (by simp) ?_ ?_
 ·refine qb ee h (fun _ h=>?_) (fun _ h=>?_)
  ·refine q7<|q0<|mv_ ee<|v_ (.d (.int .u64 (Int.fdiv b.1 (2 ^ 16)))) ee<|as_ ee<|q6<|q0<|mv_ ee<|v_ (.d (i_ (w64 (b.2 + 16)))) ee<|as_ ee<|q6<|qc ?_
   obtain rfl:=someE h
   exact ⟨_,ee,wkA [] [] []⟩
  refine qd<|qc ?_
  obtain rfl:=someE h
  exact ⟨_,ee,wkA [] [] []⟩
 intro c hb
 subst hb
 refine q7<|q7<|q0<|mv_ ee<|v_ (.d (.bool (decide (c.1 ≥ 256)))) ee<|q6 ?_
 obtain ⟨o,j,a⟩:=bindE a
 refine q57 (fun f=>f = o) (fun (f : Int × Int)=>⟨[(0,.d (.int .u64 f.1)),(2,di_ f.2)],[],0⟩) (by simp) ?_ ?_
 ·refine qb ee j (fun _ j=>?_) (fun _ j=>?_)
  ·refine q7<|q0<|mv_ ee<|v_ (.d (.int .u64 (Int.fdiv c.1 (2 ^ 8)))) ee<|as_ ee<|q6<|q0<|mv_ ee<|v_ (.d (i_ (w64 (c.2 + 8)))) ee<|as_ ee<|q6<|qc ?_
   obtain rfl:=someE j
   exact ⟨_,ee,wkA [] [] []⟩
  refine qd<|qc ?_
  obtain rfl:=someE j
  exact ⟨_,ee,wkA [] [] []⟩
 intro f hb
 subst hb
 refine q7<|q0<|mv_ ee<|mv_ ee<|v_ (.d (.int .u8 (IntKind.wrap .u8 f.1))) ee ?_
 obtain ⟨l,p,a⟩:=bindE a
 refine qv4 q6h p ee ee ee ee ee<|v_ (di_ (w64 l)) ee<|v_ (.d (i_ (w64 (f.2 + (w64 l))))) ee<|as_ ee<|q6<|qj ?_
 obtain rfl:=someE a
 exact finD (.inr ee) (v:=.d (i_ (w64 (f.2 + (w64 l))))) ee ee (.refl _)
theorem q9h (a : Int) (r : Int) (b : q4q a = some r) : Pure Tryz.prog tab 133 [.int .u64 a] (i_ r):=by
 unfold q4q at b
 refine ql Tryz.func133 ee (by kernel_rfl) (by kernel_rfl) ee<|q7<|q0<|as_ ee<|q6<|q7<|q6v ee<|qd<|q7<|q0<|mv_ ee ?_
 obtain ⟨c,f,b⟩:=bindE b
 refine qu [.d (.int .u64 a)] (qfx a c f) ee ee ee (.inl ee)<|as_ ee<|q6<|qj ?_
 obtain rfl:=someE b
 exact finD (.inr ee) (v:=(di_ c)) ee ee (.refl _)
theorem qc2 (a : Int) (r : Bool) (b : q7k a = some r) : Pure Tryz.prog tab 163 [i_ a] (.bool r):=by
 unfold q7k at b
 refine ql Tryz.func163 ee (by kernel_rfl) (by kernel_rfl) ee<|q7<|q0<|as_ ee<|q6<|q7<|q0<|mv_ ee<|mv_ ee<|v_ (db_ (a != a)) ee<|as_ ee<|q6<|qj ?_
 obtain rfl:=someE b
 exact finD (.inr ee) (v:=(db_ (a != a))) ee ee (.refl _)
theorem q34 (c : Int) (f : Int) (r : Bool) (a : q2w c f = some r) : Pure Tryz.prog tab 150 [i_ c,i_ f] (.bool r):=by
 unfold q2w at a
 refine ql Tryz.func150 ee (by kernel_rfl) (by kernel_rfl) ee<|q7<|q0<|as_ ee<|q6<|q7<|q0<|mv_ ee ?_
 obtain ⟨t,u,a⟩:=bindE a
 refine qu [di_ c] (qc2 c t u) ee ee ee (.inl ee) ?_
 obtain ⟨w,b,a⟩:=bindE a
 refine qo 5 (fun A st=>∃ (j k l m : V),st = A [(11,db_ w),(10,m),(9,l),(8,k),(7,j)]) ?_ ?_
 ·refine qs ee ee b (fun b=>?_) (fun b=>?_)
  ·refine mv_ ee ?_
   obtain ⟨h,x,b⟩:=bindE b
   refine qu [di_ f] (qc2 f h x) ee ee ee (.inl ee)<|v_ (db_ (!h)) ee<|v_ (db_ (!h)) ee<|q6 ?_
   obtain rfl:=someE b
   exact ⟨_,_,_,_,ee⟩
  refine q8 ee<|q8 ee<|q8 ee<|v_ (db_ false) ee<|q6 ?_
  obtain rfl:=someE b
  exact ⟨_,_,_,_,ee⟩
 rintro _ ⟨j,k,l,m,rfl⟩
 obtain ⟨n,g,a⟩:=bindE a
 refine qo 5 (fun A st=>∃ (o p q s : V),st = A [(16,db_ n),(15,s),(14,q),(13,p),(12,o)]) ?_ ?_
 ·refine qs ee ee g (fun g=>?_) (fun g=>?_)
  ·refine q8 ee<|q8 ee<|q8 ee<|v_ (db_ true) ee<|q6 ?_
   obtain rfl:=someE g
   exact ⟨_,_,_,_,ee⟩
  refine mv_ ee<|mv_ ee<|v_ (.d (.bool (decide (c < f)))) ee<|v_ (.d (.bool (decide (c < f)))) ee<|q6 ?_
  obtain rfl:=someE g
  exact ⟨_,_,_,_,ee⟩
 rintro _ ⟨o,p,q,s,rfl⟩
 refine as_ ee<|q6<|qj ?_
 obtain rfl:=someE a
 exact finD (.inr ee) (v:=(db_ n)) ee ee (.refl _)
theorem q80 (l : List Int) (c : Int) (j : Int) (r : List Int) (m : q2g  l c j = some r) : EvCall Tryz.prog tab 144 [.hs 0 1 0 l.length,di_ c,di_ j] [(0,.dat 1 (l.map (eI .i64)))] 1 (.d (.tup [])) [(0,.dat 1 (r.map (eI .i64)))] 1:=by
 unfold q2g at m
 refine q14 Tryz.func144 ee (by kernel_rfl) (by kernel_rfl) ee<|q7<|q0<|mv_ ee<|v_ (.d (i_ (w64 (c + 1)))) ee<|as_ ee<|q6 ?_
 obtain ⟨al,am,m⟩:=bindE m
 refine qh<|qn (q1v j c) (fun (f : Int × List Int)=>⟨[(0,.hs 0 1 0 f.2.length),(1,di_ c),(2,di_ j),(6,di_ f.1)],[(0,.dat 1 (f.2.map (eI .i64)))],1⟩) (w64 (c + 1),l) al am (wkA [] [] []) ?_
 intro f as h
 unfold q1v at h
 refine q7<|q7<|q0<|mv_ ee<|mv_ ee<|v_ (.d (.bool (decide (f.1 < j)))) ee<|q6 ?_
 refine qb ee h (fun _ h=>?_) (fun _ h=>?_)
 ·refine qd<|q7 ?_
  obtain ⟨an,n,h⟩:=bindE h
  refine qk (fun k=>k = an) (fun (k : List Int)=>⟨[(0,.hs 0 1 0 k.length),(1,di_ c),(2,di_ j),(6,di_ f.1)],[(0,.dat 1 (k.map (eI .i64)))],1⟩) (by simp) ?_ ?_
  ·refine q7<|q0<|mv_ ee<|as_ ee<|q6 ?_
   obtain ⟨ao,ap,n⟩:=bindE n
   refine qh<|qn (q1u c) (fun (g : Int × List Int)=>⟨[(0,.hs 0 1 0 g.2.length),(1,di_ c),(2,di_ j),(6,di_ f.1),(7,di_ g.1)],[(0,.dat 1 (g.2.map (eI .i64)))],1⟩) (f.1,f.2) ao ap (wkA [] [] []) ?_
   intro g au a
   unfold q1u at a
   refine q7<|q7<|qg [(some [],[]),(some [],[]),(some [0],[]),(some [],[]),(some [],[]),(some [],[]),(some [],[]),(some [0],[]),(some [],[]),(some [],[]),(some [],[]),(some [],[]),(some [],[]),(some [],[]),(some [],[])] (by kernel_rfl)<|mv_ ee<|mv_ ee<|v_ (.d (.bool (decide (g.1 > c)))) ee ?_
   obtain ⟨aq,b,a⟩:=bindE a
   refine qo 12 (fun A st=>∃ (t u v w x y z aa ab ac ad : V),st = A [(30,db_ aq),(29,ad),(28,ac),(27,ab),(26,aa),(25,z),(24,y),(23,x),(22,w),(21,v),(20,u),(19,t)]) ?_ ?_
   ·refine qs ee ee b (fun b=>?_) (fun b=>?_)
    ·refine mv_ ee<|mv_ ee ?_
     obtain ⟨o,ae,b⟩:=bindE b
     refine qi ae ee ee ee ee ee ee ee<|qp (di_ o) ae ee ee ee ee ee ee<|mv_ ee<|mv_ ee<|v_ (.d (i_ (w64 (g.1 - 1)))) ee ?_
     obtain ⟨p,af,b⟩:=bindE b
     refine qi af ee ee ee ee ee ee ee<|qp (di_ p) af ee ee ee ee ee ee ?_
     obtain ⟨ag,ar,b⟩:=bindE b
     refine qu [di_ o,di_ p] (q34 o p ag ar) ee ee ee (.inl ee)<|v_ (db_ ag) ee<|q6 ?_
     obtain rfl:=someE b
     exact ⟨_,_,_,_,_,_,_,_,_,_,_,ee⟩
    refine q8 ee<|q8 ee<|q8 ee<|q8 ee<|q8 ee<|q8 ee<|q8 ee<|q8 ee<|q8 ee<|q8 ee<|v_ (db_ false) ee<|q6 ?_
    obtain rfl:=someE b
    exact ⟨_,_,_,_,_,_,_,_,_,_,_,ee⟩
   rintro _ ⟨t,u,v,w,x,y,z,aa,ab,ac,ad,rfl⟩
   refine q6 ?_
   refine qb ee a (fun _ a=>?_) (fun _ a=>?_)
   ·refine qd<|q7<|qh<|qg [(some [0],[0]),(some [],[]),(some [0],[0]),(some [],[]),(some [0],[]),(some [],[]),(some [],[]),(some [],[]),(some [0],[]),(some [],[]),(some [],[]),(some [],[]),(some [],[]),(some [],[]),(some [],[]),(some [],[]),(some [],[]),(some [],[])] (by kernel_rfl)<|mv_ ee<|mv_ ee<|mv_ ee<|mv_ ee<|v_ (.d (i_ (w64 (g.1 - 1)))) ee<|mv_ ee<|mv_ ee<|v_ (.d (i_ (w64 (g.1 - 1)))) ee ?_
    obtain ⟨q,ah,a⟩:=bindE a
    refine qi ah ee ee ee ee ee ee ee<|qp (di_ q) ah ee ee ee ee ee ee<|mv_ ee<|mv_ ee ?_
    obtain ⟨s,ai,a⟩:=bindE a
    refine qi ai ee ee ee ee ee ee ee<|qp (di_ s) ai ee ee ee ee ee ee ?_
    obtain ⟨av,aj,a⟩:=bindE a
    refine qi aj ee ee ee ee ee ee ee<|q12 (ds:=[i_ q]) q aj ee ee ee ee ee ee ee ee (leb ee) ee ?_
    obtain ⟨aw,ak,a⟩:=bindE a
    refine qi ak (by simp) ee ee ee ee ee ee<|q12 (ds:=[i_ s]) s ak ee ee ee ee ee ee ee ee (leb ee) ee<|q6<|qc<|qr<|q0<|mv_ ee<|v_ (.d (i_ (w64 (g.1 - 1)))) ee<|as_ ee<|q6<|qc ?_
    exact ⟨_,(Option.some.inj a).symm,wkE [] [] [] ee ⟨⟨_,ee,q10 (by simp) ee (by decide) (ltd ee)⟩,⟨_,ee,.d (.refl _)⟩,⟨_,ee,.d (.refl _)⟩,⟨_,ee,.d (.refl _)⟩,⟨_,ee,.d (.refl _)⟩,trivial⟩ ⟨⟨ltd ee,.inr ⟨by decide,_,ee,.dat _ _⟩⟩,trivial⟩⟩
   refine qm ?_
   refine ⟨_,(Option.some.inj a).symm,fun hm=>?_⟩
   subst hm
   obtain rfl:=someE n
   exact ⟨_,ee,wkA [] [] []⟩
  intro k hb
  subst hb
  refine q0<|mv_ ee<|v_ (.d (i_ (w64 (f.1 + 1)))) ee<|as_ ee<|q6<|qc ?_
  exact ⟨_,(Option.some.inj h).symm,wkA [] [] []⟩
 refine qm ?_
 refine ⟨_,(Option.some.inj h).symm,fun hm=>?_⟩
 subst hm
 obtain rfl:=someE m
 exact ⟨.inl ee,_,ee,wkA [] [] []⟩
theorem q6a (l : List Int) (m : Int) (g : Int) (c : Int) (r : List Int) (j : q2n  l m g c = some r) : EvCall Tryz.prog tab 158 [.hs 0 1 0 l.length,di_ m,di_ g,di_ c] [(0,.dat 1 (l.map (eI .i64)))] 1 (.d (.tup [])) [(0,.dat 1 (r.map (eI .i64)))] 1:=by
 unfold q2n at j
 refine q14 Tryz.func158 ee (by kernel_rfl) (by kernel_rfl) ee<|q7<|q0<|mv_ ee<|as_ ee<|q6 ?_
 obtain ⟨au,av,j⟩:=bindE j
 refine qh<|qn (q35 g c) (fun (b : Int × List Int)=>⟨[(0,.hs 0 1 0 b.2.length),(2,di_ g),(3,di_ c),(8,di_ b.1)],[(0,.dat 1 (b.2.map (eI .i64)))],1⟩) (m,l) au av (wkA [] [] []) ?_
 intro b ba a
 unfold q35 at a
 refine qh<|q7<|q0<|mv_ ee<|v_ (.d (i_ (w64 (2 * b.1)))) ee<|v_ (.d (i_ (w64 ((w64 (2 * b.1)) + 1)))) ee<|as_ ee<|q6<|q7<|q7<|q0<|mv_ ee<|mv_ ee<|v_ (.d (.bool (decide ((w64 ((w64 (2 * b.1)) + 1)) ≥ g)))) ee<|q6 ?_
 refine qb ee a (fun _ a=>?_) (fun _ a=>?_)
 ·refine qm ?_
  refine ⟨_,(Option.some.inj a).symm,fun hm=>?_⟩
  subst hm
  obtain rfl:=someE j
  exact ⟨.inl ee,_,ee,wkA [] [] []⟩
 refine qd<|q7<|q7<|qg [(some [],[]),(some [],[]),(some [0],[]),(some [],[]),(some [],[]),(some [],[]),(some [],[]),(some [],[]),(some [],[]),(some [0],[]),(some [],[]),(some [],[]),(some [],[]),(some [],[]),(some [],[]),(some [],[]),(some [],[]),(some [],[]),(some [],[]),(some [],[])] (by kernel_rfl)<|mv_ ee<|v_ (.d (i_ (w64 ((w64 ((w64 (2 * b.1)) + 1)) + 1)))) ee<|mv_ ee<|v_ (.d (.bool (decide ((w64 ((w64 ((w64 (2 * b.1)) + 1)) + 1)) < g)))) ee ?_
 obtain ⟨aw,f,a⟩:=bindE a
 refine qo 16 (fun A st=>∃ (u v w x y z aa ab ac ad ae af ag ah ai : V),st = A [(36,db_ aw),(35,ai),(34,ah),(33,ag),(32,af),(31,ae),(30,ad),(29,ac),(28,ab),(27,aa),(26,z),(25,y),(24,x),(23,w),(22,v),(21,u)]) ?_ ?_
 ·refine qs ee ee f (fun f=>?_) (fun f=>?_)
  ·refine mv_ ee<|mv_ ee<|mv_ ee<|v_ (.d (i_ (w64 (c + (w64 ((w64 (2 * b.1)) + 1)))))) ee ?_
   obtain ⟨n,aj,f⟩:=bindE f
   refine qi aj ee ee ee ee ee ee ee<|qp (di_ n) aj ee ee ee ee ee ee<|mv_ ee<|mv_ ee<|mv_ ee<|v_ (.d (i_ (w64 (c + (w64 ((w64 (2 * b.1)) + 1)))))) ee<|v_ (.d (i_ (w64 ((w64 (c + (w64 ((w64 (2 * b.1)) + 1)))) + 1)))) ee ?_
   obtain ⟨o,ak,f⟩:=bindE f
   refine qi ak ee ee ee ee ee ee ee<|qp (di_ o) ak ee ee ee ee ee ee ?_
   obtain ⟨al,ax,f⟩:=bindE f
   refine qu [di_ n,di_ o] (q34 n o al ax) ee ee ee (.inl ee)<|v_ (db_ al) ee<|q6 ?_
   obtain rfl:=someE f
   exact ⟨_,_,_,_,_,_,_,_,_,_,_,_,_,_,_,ee⟩
  refine q8 ee<|q8 ee<|q8 ee<|q8 ee<|q8 ee<|q8 ee<|q8 ee<|q8 ee<|q8 ee<|q8 ee<|q8 ee<|q8 ee<|q8 ee<|q8 ee<|v_ (db_ false) ee<|q6 ?_
  obtain rfl:=someE f
  exact ⟨_,_,_,_,_,_,_,_,_,_,_,_,_,_,_,ee⟩
 rintro _ ⟨u,v,w,x,y,z,aa,ab,ac,ad,ae,af,ag,ah,ai,rfl⟩
 refine q6 ?_
 obtain ⟨ay,k,a⟩:=bindE a
 refine q57 (fun h=>h = ay) (fun (h : Int)=>⟨[(0,.hs 0 1 0 b.2.length),(2,di_ g),(3,di_ c),(8,di_ b.1),(9,di_ h)],[(0,.dat 1 (b.2.map (eI .i64)))],1⟩) (by simp) ?_ ?_
 ·refine qb ee k (fun _ k=>?_) (fun _ k=>?_)
  ·refine q0<|mv_ ee<|v_ (.d (i_ (w64 ((w64 ((w64 (2 * b.1)) + 1)) + 1)))) ee<|as_ ee<|q6<|qc ?_
   obtain rfl:=someE k
   exact ⟨_,ee,wkA [] [] []⟩
  refine qd<|qc ?_
  obtain rfl:=someE k
  exact ⟨_,ee,wkA [] [] []⟩
 intro h hb
 subst hb
 refine q7<|q7<|qg [(some [],[]),(some [],[]),(some [0],[]),(some [],[]),(some [],[]),(some [],[]),(some [],[]),(some [],[]),(some [0],[]),(some [],[]),(some [],[]),(some [],[]),(some [],[]),(some [],[])] (by kernel_rfl)<|mv_ ee<|mv_ ee<|mv_ ee<|v_ (.d (i_ (w64 (c + b.1)))) ee ?_
 obtain ⟨p,am,a⟩:=bindE a
 refine qi am ee ee ee ee ee ee ee<|qp (di_ p) am ee ee ee ee ee ee<|mv_ ee<|mv_ ee<|mv_ ee<|v_ (.d (i_ (w64 (c + h)))) ee ?_
 obtain ⟨q,an,a⟩:=bindE a
 refine qi an ee ee ee ee ee ee ee<|qp (di_ q) an ee ee ee ee ee ee ?_
 obtain ⟨ao,az,a⟩:=bindE a
 refine qu [di_ p,di_ q] (q34 p q ao az) ee ee ee (.inl ee)<|v_ (db_ (!ao)) ee<|q6 ?_
 refine qb ee a (fun _ a=>?_) (fun _ a=>?_)
 ·refine qj ?_
  refine ⟨_,(Option.some.inj a).symm,fun hm=>?_⟩
  subst hm
  obtain rfl:=someE j
  exact ⟨.inr ee,_,ee,wkA [] [] []⟩
 refine qd<|q7<|qg [(some [0],[0]),(some [],[]),(some [0],[0]),(some [],[]),(some [0],[]),(some [],[]),(some [],[]),(some [],[]),(some [],[]),(some [],[]),(some [0],[]),(some [],[]),(some [],[]),(some [],[]),(some [],[]),(some [],[]),(some [],[]),(some [],[]),(some [],[]),(some [],[]),(some [],[]),(some [],[]),(some [],[]),(some [],[])] (by kernel_rfl)<|mv_ ee<|mv_ ee<|mv_ ee<|v_ (.d (i_ (w64 (c + b.1)))) ee<|mv_ ee<|mv_ ee<|mv_ ee<|v_ (.d (i_ (w64 (c + h)))) ee<|mv_ ee<|mv_ ee<|mv_ ee<|v_ (.d (i_ (w64 (c + h)))) ee ?_
 obtain ⟨s,ap,a⟩:=bindE a
 refine qi ap ee ee ee ee ee ee ee<|qp (di_ s) ap ee ee ee ee ee ee<|mv_ ee<|mv_ ee<|mv_ ee<|v_ (.d (i_ (w64 (c + b.1)))) ee ?_
 obtain ⟨t,aq,a⟩:=bindE a
 refine qi aq ee ee ee ee ee ee ee<|qp (di_ t) aq ee ee ee ee ee ee ?_
 obtain ⟨bb,ar,a⟩:=bindE a
 refine qi ar ee ee ee ee ee ee ee<|q12 (ds:=[i_ s]) s ar ee ee ee ee ee ee ee ee (leb ee) ee ?_
 obtain ⟨bc,as,a⟩:=bindE a
 refine qi as (by simp) ee ee ee ee ee ee<|q12 (ds:=[i_ t]) t as ee ee ee ee ee ee ee ee (leb ee) ee<|q6<|q0<|mv_ ee<|as_ ee<|q6<|qc<|qr<|qc ?_
 exact ⟨_,(Option.some.inj a).symm,wkE [] [] [] ee ⟨⟨_,ee,q10 (by simp) ee (by decide) (ltd ee)⟩,⟨_,ee,.d (.refl _)⟩,⟨_,ee,.d (.refl _)⟩,⟨_,ee,.d (.refl _)⟩,trivial⟩ ⟨⟨ltd ee,.inr ⟨by decide,_,ee,.dat _ _⟩⟩,trivial⟩⟩
theorem q9e (l : List Int) (a : Int) (c : Int) (r : List Int) (j : q3p  l a c = some r) : EvCall Tryz.prog tab 145 [.hs 0 1 0 l.length,di_ a,di_ c] [(0,.dat 1 (l.map (eI .i64)))] 1 (.d (.tup [])) [(0,.dat 1 (r.map (eI .i64)))] 1:=by
 unfold q3p at j
 refine q14 Tryz.func145 ee (by kernel_rfl) (by kernel_rfl) ee<|q7<|q0<|mv_ ee<|as_ ee<|q6<|q7<|q0<|as_ ee<|q6<|q7<|q0<|mv_ ee<|mv_ ee<|v_ (.d (i_ (w64 (c - a)))) ee<|as_ ee<|q6<|q7<|q7<|q0<|mv_ ee<|v_ (.d (i_ (w64 ((w64 (c - a)) - 1)))) ee<|v_ (.d (i_ (w64 (Int.tdiv (w64 ((w64 (c - a)) - 1)) 2)))) ee<|as_ ee<|q6 ?_
 obtain ⟨p,w,j⟩:=bindE j
 refine qk (fun k=>k = p) (fun (k : List Int)=>⟨[(0,.hs 0 1 0 k.length),(6,di_ a),(7,di_ 0),(8,.d (i_ (w64 (c - a))))],[(0,.dat 1 (k.map (eI .i64)))],1⟩) (by simp) ?_ ?_
 ·refine qn (q36 c a) (fun (g : Int × List Int)=>⟨[(0,.hs 0 1 0 g.2.length),(6,di_ a),(7,di_ 0),(8,.d (i_ (w64 (c - a)))),(9,di_ g.1)],[(0,.dat 1 (g.2.map (eI .i64)))],1⟩) (w64 (Int.tdiv (w64 ((w64 (c - a)) - 1)) 2),l) p w (wkA [] [] []) ?_
  intro g af h
  unfold q36 at h
  refine q7<|q7<|q0<|mv_ ee<|v_ (.d (.bool (decide (g.1 ≥ 0)))) ee<|q6 ?_
  refine qb ee h (fun _ h=>?_) (fun _ h=>?_)
  ·refine qd<|q7<|qh<|q0<|mv_ ee<|mv_ ee<|mv_ ee<|mv_ ee ?_
   obtain ⟨q,x,h⟩:=bindE h
   obtain ⟨ag,y,h⟩:=bindE h
   have z:=q1a y
   refine callG [(0,0)] [(0,0)] [.hs 0 1 0 g.2.length,di_ g.1,.d (i_ (w64 (c - a))),di_ a] (.d (.tup [])) 1 [(0,.dat 1 (q.map (eI .i64)))] 1 (q6a g.2 g.1 (w64 (c - a)) a q x)<|q6<|qc<|qr<|q0<|mv_ ee<|v_ (.d (i_ (w64 (g.1 - 1)))) ee<|as_ ee<|q6<|qc ?_
   exact ⟨_,(Option.some.inj h).symm,wkE [] [] [] ee ⟨⟨_,ee,q10 (by simp [z]) ee (by decide) (ltd ee)⟩,⟨_,ee,.d (.refl _)⟩,⟨_,ee,.d (.refl _)⟩,⟨_,ee,.d (.refl _)⟩,⟨_,ee,.d (.refl _)⟩,trivial⟩ ⟨⟨ltd ee,.inr ⟨by decide,_,ee,.dat _ _⟩⟩,trivial⟩⟩
  refine qm ?_
  refine ⟨_,(Option.some.inj h).symm,fun hm=>?_⟩
  subst hm
  exact ⟨_,ee,wkA [] [] []⟩
 intro k hb
 subst hb
 refine q7<|q0<|mv_ ee<|v_ (.d (i_ (w64 ((w64 (c - a)) - 1)))) ee<|as_ ee<|q6 ?_
 obtain ⟨aa,ab,j⟩:=bindE j
 refine qh<|qn (q37 a) (fun (f : Int × List Int)=>⟨[(0,.hs 0 1 0 f.2.length),(6,di_ a),(7,di_ 0),(10,di_ f.1)],[(0,.dat 1 (f.2.map (eI .i64)))],1⟩) (w64 ((w64 (c - a)) - 1),k) aa ab (wkA [] [] []) ?_
 intro f ah b
 unfold q37 at b
 refine q7<|q7<|q0<|mv_ ee<|v_ (.d (.bool (decide (f.1 ≥ 0)))) ee<|q6 ?_
 refine qb ee b (fun _ b=>?_) (fun _ b=>?_)
 ·refine qd<|q7<|qh<|q7<|qg [(some [0],[0]),(some [],[]),(some [0],[0]),(some [],[]),(some [0],[]),(some [],[]),(some [],[]),(some [],[]),(some [0],[]),(some [],[]),(some [],[]),(some [],[]),(some [],[]),(some [],[]),(some [],[]),(some [],[]),(some [],[]),(some [],[]),(some [],[]),(some [],[])] (by kernel_rfl)<|mv_ ee<|mv_ ee<|mv_ ee<|mv_ ee<|mv_ ee<|v_ (.d (i_ (w64 (a + f.1)))) ee<|mv_ ee<|mv_ ee<|mv_ ee<|v_ (.d (i_ (w64 (a + f.1)))) ee ?_
  obtain ⟨m,s,b⟩:=bindE b
  refine qi s ee ee ee ee ee ee ee<|qp (di_ m) s ee ee ee ee ee ee<|mv_ ee<|mv_ ee ?_
  obtain ⟨n,t,b⟩:=bindE b
  refine qi t ee ee ee ee ee ee ee<|qp (di_ n) t ee ee ee ee ee ee ?_
  obtain ⟨ai,u,b⟩:=bindE b
  refine qi u ee ee ee ee ee ee ee<|q12 (ds:=[i_ m]) m u ee ee ee ee ee ee ee ee (leb ee) ee ?_
  obtain ⟨aj,v,b⟩:=bindE b
  refine qi v (by simp) ee ee ee ee ee ee<|q12 (ds:=[i_ n]) n v ee ee ee ee ee ee ee ee (leb ee) ee<|q6<|q0<|mv_ ee<|mv_ ee<|mv_ ee<|mv_ ee ?_
  obtain ⟨o,ac,b⟩:=bindE b
  obtain ⟨ak,ad,b⟩:=bindE b
  have ae:=q1a ad
  refine q6w [(0,0)] [(0,0)] [.hs 0 1 0 f.2.length,di_ 0,di_ f.1,di_ a] (.d (.tup [])) [(0,.dat 1 (o.map (eI .i64)))] [(0,.dat 1 (o.map (eI .i64)))] 1 (q6a ((f.2.set a.toNat m).set (w64 (a + f.1)).toNat n) 0 f.1 a o ac) ee ee ee (q5q [(0,0)] [] [] ee ⟨⟨_,ee,q10 (by simp) ee (by decide) (ltd ee)⟩,⟨_,ee,.d (.refl _)⟩,⟨_,ee,.d (.refl _)⟩,⟨_,ee,.d (.refl _)⟩,trivial⟩ ⟨⟨ltd ee,.inr ⟨by decide,_,ee,.dat _ _⟩⟩,trivial⟩) (q5q [(0,0)] [] [] ee ⟨⟨_,ee,.d (.refl _)⟩,trivial⟩ ⟨⟨ltd ee,.inr ⟨by decide,_,ee,.dat _ _⟩⟩,trivial⟩) ee ⟨.inl ee,trivial⟩<|q6<|qc<|qr<|q0<|mv_ ee<|v_ (.d (i_ (w64 (f.1 - 1)))) ee<|as_ ee<|q6<|qc ?_
  exact ⟨_,(Option.some.inj b).symm,wkE [] [] [] ee ⟨⟨_,ee,q10 (by simp [ae]) ee (by decide) (ltd ee)⟩,⟨_,ee,.d (.refl _)⟩,⟨_,ee,.d (.refl _)⟩,⟨_,ee,.d (.refl _)⟩,trivial⟩ ⟨⟨ltd ee,.inr ⟨by decide,_,ee,.dat _ _⟩⟩,trivial⟩⟩
 refine qm ?_
 refine ⟨_,(Option.some.inj b).symm,fun hm=>?_⟩
 subst hm
 obtain rfl:=someE j
 exact ⟨.inl ee,_,ee,wkA [] [] []⟩
theorem q55 (g : List Int) (h : Int) (j : Int) (b : Int) (r : Int × Int × Int) (a : q2b  g h j b = some r) : EvCall Tryz.prog tab 167 [.d (.sl 1 (g.map (eI .i64))),di_ h,di_ j,.ref 0 1 0 0] [(0,.dat 1 [[i_ b]])] 1 (.d (.tup [i_ r.1,i_ r.2.1])) [(0,.dat 1 [[i_ r.2.2]])] 1:=by
 unfold q2b at a
 refine q14 Tryz.func167 ee (by kernel_rfl) (by kernel_rfl) ee<|q7<|q0<|as_ ee<|as_ ee<|q6<|q7<|q7<|qg [(some [],[]),(some [],[]),(some [],[]),(some [],[]),(some [],[]),(some [],[]),(some [],[]),(some [],[]),(some [],[])] (by kernel_rfl)<|mv_ ee<|mv_ ee ?_
 obtain ⟨c,k,a⟩:=bindE a
 refine qv (enc:=(eI .i64)) k ee ee ee ee ee ee<|v_ (di_ c) ee<|mv_ ee<|mv_ ee ?_
 obtain ⟨f,l,a⟩:=bindE a
 refine qv (enc:=(eI .i64)) l ee ee ee ee ee ee<|v_ (di_ f) ee ?_
 obtain ⟨m,n,a⟩:=bindE a
 refine qu [di_ c,di_ f] (q34 c f m n) ee ee ee (.inl ee)<|q6 ?_
 refine qb ee a (fun _ a=>?_) (fun _ a=>?_)
 ·refine q7<|q0<|mv_ ee<|v_ (.ref 0 1 0 0) ee<|v_ (di_ b) ee<|v_ (.d (i_ (w64 (b + 1)))) ee<|v_ (.ref 0 1 0 0) ee<|q3r 0 (.dat 1 [[i_ (w64 (b + 1))]]) ee<|q6<|q7<|q0<|mv_ ee<|mv_ ee<|as_ ee<|as_ ee<|q6<|qj ?_
  obtain rfl:=someE a
  exact ⟨.inr ee,_,ee,wkA [] [] []⟩
 refine qd<|q7<|q0<|mv_ ee<|mv_ ee<|as_ ee<|as_ ee<|q6<|qj ?_
 obtain rfl:=someE a
 exact ⟨.inr ee,_,ee,wkA [] [] []⟩
theorem q6i (c : List Int) (h : Int) (j : Int) (k : Int) (l : Int) (r : Int × Int) (f : q3f  c h j k l = some r) : EvCall Tryz.prog tab 162 [.d (.sl 1 (c.map (eI .i64))),di_ h,di_ j,di_ k,.ref 0 1 0 0] [(0,.dat 1 [[i_ l]])] 1 (di_ r.1) [(0,.dat 1 [[i_ r.2]])] 1:=by
 unfold q3f at f
 refine q14 Tryz.func162 ee (by kernel_rfl) (by kernel_rfl) ee<|q7<|q0<|as_ ee<|q6<|q7<|q0<|mv_ ee<|mv_ ee<|mv_ ee<|mv_ ee ?_
 obtain ⟨a,m,f⟩:=bindE f
 refine callG [(0,0)] [(0,0)] [.d (.sl 1 (c.map (eI .i64))),di_ h,di_ j,.ref 0 1 0 0] (.d (.tup [i_ a.1,i_ a.2.1])) 1 [(0,.dat 1 [[i_ a.2.2]])] 1 (q55 c h j l a m)<|mv_ ee<|v_ (di_ a.1) ee<|v_ (di_ a.2.1) ee<|as_ ee<|as_ ee<|q6<|q7<|q0<|mv_ ee<|mv_ ee<|mv_ ee<|mv_ ee ?_
 obtain ⟨b,n,f⟩:=bindE f
 refine callG [(0,0)] [(0,0)] [.d (.sl 1 (c.map (eI .i64))),di_ a.2.1,di_ k,.ref 0 1 0 0] (.d (.tup [i_ b.1,i_ b.2.1])) 1 [(0,.dat 1 [[i_ b.2.2]])] 1 (q55 c a.2.1 k a.2.2 b n)<|mv_ ee<|v_ (di_ b.1) ee<|v_ (di_ b.2.1) ee<|as_ ee<|as_ ee<|q6<|q7<|q0<|mv_ ee<|mv_ ee<|mv_ ee<|mv_ ee ?_
 obtain ⟨g,o,f⟩:=bindE f
 refine callG [(0,0)] [(0,0)] [.d (.sl 1 (c.map (eI .i64))),di_ a.1,di_ b.1,.ref 0 1 0 0] (.d (.tup [i_ g.1,i_ g.2.1])) 1 [(0,.dat 1 [[i_ g.2.2]])] 1 (q55 c a.1 b.1 b.2.2 g o)<|mv_ ee<|v_ (di_ g.1) ee<|v_ (di_ g.2.1) ee<|as_ ee<|as_ ee<|q6<|q7<|q0<|mv_ ee<|as_ ee<|q6<|qj ?_
 obtain rfl:=someE f
 exact ⟨.inr ee,_,ee,wkA [] [] []⟩
theorem q4n (b : List Int) (a : Int) (f : Int) (r : Int × Int) (c : q1d  b a f = some r) : EvCall Tryz.prog tab 161 [.d (.sl 1 (b.map (eI .i64))),di_ a,.ref 0 1 0 0] [(0,.dat 1 [[i_ f]])] 1 (di_ r.1) [(0,.dat 1 [[i_ r.2]])] 1:=by
 unfold q1d at c
 refine q14 Tryz.func161 ee (by kernel_rfl) (by kernel_rfl) ee<|q7<|q0<|as_ ee<|q6<|q7<|q0<|mv_ ee<|mv_ ee<|v_ (.d (i_ (w64 (a - 1)))) ee<|mv_ ee<|mv_ ee<|v_ (.d (i_ (w64 (a + 1)))) ee<|mv_ ee ?_
 obtain ⟨g,h,c⟩:=bindE c
 refine callG [(0,0)] [(0,0)] [.d (.sl 1 (b.map (eI .i64))),.d (i_ (w64 (a - 1))),di_ a,.d (i_ (w64 (a + 1))),.ref 0 1 0 0] (di_ g.1) 1 [(0,.dat 1 [[i_ g.2]])] 1 (q6i b (w64 (a - 1)) a (w64 (a + 1)) f g h)<|as_ ee<|q6<|qj ?_
 obtain rfl:=someE c
 exact ⟨.inr ee,_,ee,wkA [] [] []⟩
theorem q9i (g : List Int) (a : Int) (b : Int) (r : Int × Int) (f : q3q g a b = some r) : Pure Tryz.prog tab 147 [.sl 1 (g.map (eI .i64)),i_ a,i_ b] (.tup [i_ r.1,i_ r.2]):=by
 unfold q3q at f
 refine ql Tryz.func147 ee (by kernel_rfl) (by kernel_rfl) ee<|q7<|q0<|as_ ee<|as_ ee<|q6<|q7<|q0<|mv_ ee<|mv_ ee<|v_ (.d (i_ (w64 (b - a)))) ee<|as_ ee<|q6<|q7<|q0<|q2d ee ee<|q6<|q7<|q0<|mv_ ee<|mv_ ee<|v_ (.d (i_ (w64 (Int.tdiv (w64 (b - a)) 4)))) ee<|v_ (.d (i_ (w64 ((w64 (Int.tdiv (w64 (b - a)) 4)) * 1)))) ee<|v_ (.d (i_ (w64 (a + (w64 ((w64 (Int.tdiv (w64 (b - a)) 4)) * 1)))))) ee<|as_ ee<|q6<|q7<|q0<|mv_ ee<|mv_ ee<|v_ (.d (i_ (w64 (Int.tdiv (w64 (b - a)) 4)))) ee<|v_ (.d (i_ (w64 ((w64 (Int.tdiv (w64 (b - a)) 4)) * 2)))) ee<|v_ (.d (i_ (w64 (a + (w64 ((w64 (Int.tdiv (w64 (b - a)) 4)) * 2)))))) ee<|as_ ee<|q6<|q7<|q0<|mv_ ee<|mv_ ee<|v_ (.d (i_ (w64 (Int.tdiv (w64 (b - a)) 4)))) ee ?_
 refine v_ (.d (i_ (w64 ((w64 (Int.tdiv (w64 (b - a)) 4)) * 3)))) ee<|v_ (.d (i_ (w64 (a + (w64 ((w64 (Int.tdiv (w64 (b - a)) 4)) * 3)))))) ee<|as_ ee<|q6<|q7<|q7<|q0<|mv_ ee<|v_ (.d (.bool (decide ((w64 (b - a)) ≥ 8)))) ee<|q6 ?_
 obtain ⟨p,k,f⟩:=bindE f
 refine q57 (fun h=>h = p) (fun (h : Int × Int)=>⟨[(9,.ref 0 1 0 0),(11,di_ h.1)],[(0,.dat 1 [[i_ h.2]])],1⟩) (by simp) ?_ ?_
 ·refine qb ee k (fun _ k=>?_) (fun _ k=>?_)
  ·refine q7<|q7<|q0<|mv_ ee<|v_ (.d (.bool (decide ((w64 (b - a)) ≥ 50)))) ee<|q6 ?_
   obtain ⟨q,j,k⟩:=bindE k
   refine q57 (fun c=>c = q) (fun (c : Int × Int × Int × Int)=>⟨[(0,.d (.sl 1 (g.map (eI .i64)))),(9,.ref 0 1 0 0),(10,di_ c.1),(11,di_ c.2.1),(12,di_ c.2.2.1)],[(0,.dat 1 [[i_ c.2.2.2]])],1⟩) (by simp) ?_ ?_
   ·refine qb ee j (fun _ j=>?_) (fun _ j=>?_)
    ·refine q7<|q0<|mv_ ee<|mv_ ee ?_
     obtain ⟨l,s,j⟩:=bindE j
     refine callG [(0,0)] [(0,0)] [.d (.sl 1 (g.map (eI .i64))),.d (i_ (w64 (a + (w64 ((w64 (Int.tdiv (w64 (b - a)) 4)) * 1))))),.ref 0 1 0 0] (di_ l.1) 1 [(0,.dat 1 [[i_ l.2]])] 1 (q4n g (w64 (a + (w64 ((w64 (Int.tdiv (w64 (b - a)) 4)) * 1)))) 0 l s)<|as_ ee<|q6<|q7<|q0<|mv_ ee<|mv_ ee ?_
     obtain ⟨m,t,j⟩:=bindE j
     refine callG [(0,0)] [(0,0)] [.d (.sl 1 (g.map (eI .i64))),.d (i_ (w64 (a + (w64 ((w64 (Int.tdiv (w64 (b - a)) 4)) * 2))))),.ref 0 1 0 0] (di_ m.1) 1 [(0,.dat 1 [[i_ m.2]])] 1 (q4n g (w64 (a + (w64 ((w64 (Int.tdiv (w64 (b - a)) 4)) * 2)))) l.2 m t)<|as_ ee<|q6<|q0<|mv_ ee<|mv_ ee ?_
     obtain ⟨n,u,j⟩:=bindE j
     refine callG [(0,0)] [(0,0)] [.d (.sl 1 (g.map (eI .i64))),.d (i_ (w64 (a + (w64 ((w64 (Int.tdiv (w64 (b - a)) 4)) * 3))))),.ref 0 1 0 0] (di_ n.1) 1 [(0,.dat 1 [[i_ n.2]])] 1 (q4n g (w64 (a + (w64 ((w64 (Int.tdiv (w64 (b - a)) 4)) * 3)))) m.2 n u)<|as_ ee<|q6<|qc ?_
     obtain rfl:=someE j
     exact ⟨_,ee,wkA [(0,0)] [] []⟩
    refine qd<|qc ?_
    obtain rfl:=someE j
    exact ⟨_,ee,wkA [(0,0)] [] []⟩
   intro c hb
   subst hb
   refine q0<|mv_ ee<|mv_ ee<|mv_ ee<|mv_ ee ?_
   obtain ⟨o,w,k⟩:=bindE k
   refine callG [(0,0)] [(0,0)] [.d (.sl 1 (g.map (eI .i64))),di_ c.1,di_ c.2.1,di_ c.2.2.1,.ref 0 1 0 0] (di_ o.1) 1 [(0,.dat 1 [[i_ o.2]])] 1 (q6i g c.1 c.2.1 c.2.2.1 c.2.2.2 o w)<|as_ ee<|q6<|qc ?_
   obtain rfl:=someE k
   exact ⟨_,ee,wkA [(0,0)] [] []⟩
  refine qd<|qc ?_
  obtain rfl:=someE k
  exact ⟨_,ee,wkA [(0,0)] [] []⟩
 intro h hb
 subst hb
 refine q7<|q0<|v_ (di_ h.2) ee<|q6<|qh<|q7<|q0<|v_ (db_ (h.2 == 0)) ee<|as_ ee<|q6 ?_
 refine qb ee f (fun _ f=>?_) (fun _ f=>?_)
 ·refine q7<|q0<|mv_ ee<|as_ ee<|as_ ee<|q6<|qj ?_
  obtain rfl:=someE f
  exact finD (.inr ee) (v:=.d (.tup [i_ h.1,i_ 1])) ee ee (.refl _)
 refine q7<|q0<|v_ (db_ (h.2 == 12)) ee<|as_ ee<|q6 ?_
 refine qb ee f (fun _ f=>?_) (fun _ f=>?_)
 ·refine q7<|q0<|mv_ ee<|as_ ee<|as_ ee<|q6<|qj ?_
  obtain rfl:=someE f
  exact finD (.inr ee) (v:=.d (.tup [i_ h.1,i_ 2])) ee ee (.refl _)
 refine q7<|q0<|mv_ ee<|as_ ee<|as_ ee<|q6<|qj ?_
 obtain rfl:=someE f
 exact finD (.inr ee) (v:=.d (.tup [i_ h.1,i_ 0])) ee ee (.refl _)
theorem q86 (c : List Int) (h : Int) (f : Int) (r : List Int) (g : q2o  c h f = some r) : EvCall Tryz.prog tab 148 [.hs 0 1 0 c.length,di_ h,di_ f] [(0,.dat 1 (c.map (eI .i64)))] 1 (.d (.tup [])) [(0,.dat 1 (r.map (eI .i64)))] 1:=by
 unfold q2o at g
 refine q14 Tryz.func148 ee (by kernel_rfl) (by kernel_rfl) ee<|q7<|q0<|mv_ ee<|as_ ee<|q6<|q7<|q0<|mv_ ee<|v_ (.d (i_ (w64 (f - 1)))) ee<|as_ ee<|q6 ?_
 obtain ⟨p,q,g⟩:=bindE g
 refine qh<|qn (q3g) (fun (b : Int × Int × List Int)=>⟨[(0,.hs 0 1 0 b.2.2.length),(6,di_ b.1),(7,di_ b.2.1)],[(0,.dat 1 (b.2.2.map (eI .i64)))],1⟩) (h,w64 (f - 1),c) p q (wkA [] [] []) ?_
 intro b s a
 unfold q3g at a
 refine q7<|q7<|q0<|mv_ ee<|mv_ ee<|v_ (.d (.bool (decide (b.1 < b.2.1)))) ee<|q6 ?_
 refine qb ee a (fun _ a=>?_) (fun _ a=>?_)
 ·refine qd<|qh<|q7<|qg [(some [0],[0]),(some [],[]),(some [0],[0]),(some [],[]),(some [0],[]),(some [],[]),(some [],[]),(some [],[]),(some [0],[]),(some [],[]),(some [],[]),(some [],[]),(some [],[]),(some [],[]),(some [],[]),(some [],[])] (by kernel_rfl)<|mv_ ee<|mv_ ee<|mv_ ee<|mv_ ee<|mv_ ee<|mv_ ee ?_
  obtain ⟨j,l,a⟩:=bindE a
  refine qi l ee ee ee ee ee ee ee<|qp (di_ j) l ee ee ee ee ee ee<|mv_ ee<|mv_ ee ?_
  obtain ⟨k,m,a⟩:=bindE a
  refine qi m ee ee ee ee ee ee ee<|qp (di_ k) m ee ee ee ee ee ee ?_
  obtain ⟨t,n,a⟩:=bindE a
  refine qi n ee ee ee ee ee ee ee<|q12 (ds:=[i_ j]) j n ee ee ee ee ee ee ee ee (leb ee) ee ?_
  obtain ⟨u,o,a⟩:=bindE a
  refine qi o (by simp) ee ee ee ee ee ee<|q12 (ds:=[i_ k]) k o ee ee ee ee ee ee ee ee (leb ee) ee<|q6<|q7<|q0<|mv_ ee<|v_ (.d (i_ (w64 (b.1 + 1)))) ee<|as_ ee<|q6<|q0<|mv_ ee<|v_ (.d (i_ (w64 (b.2.1 - 1)))) ee<|as_ ee<|q6<|qc<|qr<|qc ?_
  exact ⟨_,(Option.some.inj a).symm,wkE [] [] [] ee ⟨⟨_,ee,q10 (by simp) ee (by decide) (ltd ee)⟩,⟨_,ee,.d (.refl _)⟩,⟨_,ee,.d (.refl _)⟩,trivial⟩ ⟨⟨ltd ee,.inr ⟨by decide,_,ee,.dat _ _⟩⟩,trivial⟩⟩
 refine qm ?_
 refine ⟨_,(Option.some.inj a).symm,fun hm=>?_⟩
 subst hm
 obtain rfl:=someE g
 exact ⟨.inl ee,_,ee,wkA [] [] []⟩
theorem q6u (v : List Int) (j : Int) (h : Int) (r : Bool × List Int) (q : q18  v j h = some r) : EvCall Tryz.prog tab 149 [.hs 0 1 0 v.length,di_ j,di_ h] [(0,.dat 1 (v.map (eI .i64)))] 1 (db_ r.1) [(0,.dat 1 (r.2.map (eI .i64)))] 1:=by
 unfold q18 at q
 refine q14 Tryz.func149 ee (by kernel_rfl) (by kernel_rfl) ee<|q7<|q0<|as_ ee<|q6<|q7<|q0<|mv_ ee<|v_ (.d (i_ (w64 (j + 1)))) ee<|as_ ee<|q6<|q7<|q7<|q0<|as_ ee<|q6 ?_
 obtain ⟨ak,bt,q⟩:=bindE q
 refine qk (fun w=>.inl w = ak) (fun (w : List Int)=>⟨[],[(0,.dat 1 (w.map (eI .i64)))],1⟩) (by simp) ?_ ?_
 ·refine qn (q11 h j) (fun (g : Int × Int × List Int)=>⟨[(0,.hs 0 1 0 g.2.2.length),(1,di_ j),(2,di_ h),(7,di_ g.1),(8,di_ g.2.1)],[(0,.dat 1 (g.2.2.map (eI .i64)))],1⟩) (w64 (j + 1),0,v) ak bt (wkA [] [] []) ?_
  intro g cg l
  unfold q11 at l
  refine q7<|q7<|q0<|mv_ ee<|v_ (.d (.bool (decide (g.2.1 < 5)))) ee<|q6 ?_
  refine qb ee l (fun _ l=>?_) (fun _ l=>?_)
  ·refine qd<|q7 ?_
   obtain ⟨bu,a,l⟩:=bindE l
   refine qk (fun s=>.inl s = bu) (fun (s : Int × List Int)=>⟨[(0,.hs 0 1 0 s.2.length),(1,di_ j),(2,di_ h),(7,di_ s.1),(8,di_ g.2.1)],[(0,.dat 1 (s.2.map (eI .i64)))],1⟩) (by simp) ?_ ?_
   ·refine q7 ?_
    obtain ⟨al,bv,a⟩:=bindE a
    refine qk (fun f=>f = al) (fun (f : Int)=>⟨[(0,.hs 0 1 0 g.2.2.length),(1,di_ j),(2,di_ h),(7,di_ f),(8,di_ g.2.1)],[(0,.dat 1 (g.2.2.map (eI .i64)))],1⟩) (by simp) ?_ ?_
    ·refine qn (q1e h g) (fun (u : Int)=>⟨[(0,.hs 0 1 0 g.2.2.length),(1,di_ j),(2,di_ h),(7,di_ u),(8,di_ g.2.1)],[(0,.dat 1 (g.2.2.map (eI .i64)))],1⟩) g.1 al bv (wkA [] [] []) ?_
     intro u ch o
     unfold q1e at o
     refine q7<|q7<|qg [(some [],[]),(some [],[]),(some [],[]),(some [0],[]),(some [],[]),(some [],[]),(some [],[]),(some [],[]),(some [0],[]),(some [],[]),(some [],[]),(some [],[]),(some [],[]),(some [],[]),(some [],[]),(some [],[])] (by kernel_rfl)<|mv_ ee<|mv_ ee<|v_ (.d (.bool (decide (u < h)))) ee ?_
     obtain ⟨bw,k,o⟩:=bindE o
     refine qo 13 (fun A st=>∃ (am an ao ap aq ar as au av aw ax ay : V),st = A [(32,db_ bw),(31,ay),(30,ax),(29,aw),(28,av),(27,au),(26,as),(25,ar),(24,aq),(23,ap),(22,ao),(21,an),(20,am)]) ?_ ?_
     ·refine qs ee ee k (fun k=>?_) (fun k=>?_)
      ·refine mv_ ee<|mv_ ee ?_
       obtain ⟨z,az,k⟩:=bindE k
       refine qi az ee ee ee ee ee ee ee<|qp (di_ z) az ee ee ee ee ee ee<|mv_ ee<|mv_ ee<|v_ (.d (i_ (w64 (u - 1)))) ee ?_
       obtain ⟨aa,ba,k⟩:=bindE k
       refine qi ba ee ee ee ee ee ee ee<|qp (di_ aa) ba ee ee ee ee ee ee ?_
       obtain ⟨ab,bx,k⟩:=bindE k
       refine qu [di_ z,di_ aa] (q34 z aa ab bx) ee ee ee (.inl ee)<|v_ (db_ (!ab)) ee<|v_ (db_ (!ab)) ee<|q6 ?_
       obtain rfl:=someE k
       exact ⟨_,_,_,_,_,_,_,_,_,_,_,_,ee⟩
      refine q8 ee<|q8 ee<|q8 ee<|q8 ee<|q8 ee<|q8 ee<|q8 ee<|q8 ee<|q8 ee<|q8 ee<|q8 ee<|v_ (db_ false) ee<|q6 ?_
      obtain rfl:=someE k
      exact ⟨_,_,_,_,_,_,_,_,_,_,_,_,ee⟩
     rintro _ ⟨am,an,ao,ap,aq,ar,as,au,av,aw,ax,ay,rfl⟩
     refine q6 ?_
     refine qb ee o (fun _ o=>?_) (fun _ o=>?_)
     ·refine qd<|qh<|q0<|mv_ ee<|v_ (.d (i_ (w64 (u + 1)))) ee<|as_ ee<|q6<|qc<|qr<|qc ?_
      exact ⟨_,(Option.some.inj o).symm,wkA [] [] []⟩
     refine qm ?_
     refine ⟨_,(Option.some.inj o).symm,fun hm=>?_⟩
     subst hm
     exact ⟨_,ee,wkA [] [] []⟩
    intro f hb
    subst hb
    refine q7<|q7<|q0<|mv_ ee<|mv_ ee<|v_ (db_ (f == h)) ee<|q6 ?_
    refine qb ee a (fun _ a=>?_) (fun _ a=>?_)
    ·refine q7<|q0<|as_ ee<|q6<|qj ?_
     obtain rfl:=someE a
     refine ⟨_,(Option.some.inj l).symm,fun hm=>?_⟩
     subst hm
     obtain rfl:=someE q
     exact ⟨.inr ee,_,ee,wkA [] [] []⟩
    refine qd<|q7<|q7<|q0<|mv_ ee<|mv_ ee<|v_ (.d (i_ (w64 (h - j)))) ee<|v_ (.d (.bool (decide ((w64 (h - j)) < 50)))) ee<|q6 ?_
    refine qb ee a (fun _ a=>?_) (fun _ a=>?_)
    ·refine q7<|q0<|as_ ee<|q6<|qj ?_
     obtain rfl:=someE a
     refine ⟨_,(Option.some.inj l).symm,fun hm=>?_⟩
     subst hm
     obtain rfl:=someE q
     exact ⟨.inr ee,_,ee,wkA [] [] []⟩
    refine qd<|q7<|qg [(some [0],[0]),(some [],[]),(some [0],[0]),(some [],[]),(some [0],[]),(some [],[]),(some [],[]),(some [],[]),(some [0],[]),(some [],[]),(some [],[]),(some [],[]),(some [],[]),(some [],[]),(some [],[]),(some [],[]),(some [],[]),(some [],[])] (by kernel_rfl)<|mv_ ee<|mv_ ee<|mv_ ee<|mv_ ee<|v_ (.d (i_ (w64 (f - 1)))) ee<|mv_ ee<|mv_ ee<|v_ (.d (i_ (w64 (f - 1)))) ee ?_
    obtain ⟨x,bb,a⟩:=bindE a
    refine qi bb ee ee ee ee ee ee ee<|qp (di_ x) bb ee ee ee ee ee ee<|mv_ ee<|mv_ ee ?_
    obtain ⟨y,bc,a⟩:=bindE a
    refine qi bc ee ee ee ee ee ee ee<|qp (di_ y) bc ee ee ee ee ee ee ?_
    obtain ⟨ci,bd,a⟩:=bindE a
    refine qi bd ee ee ee ee ee ee ee<|q12 (ds:=[i_ x]) x bd ee ee ee ee ee ee ee ee (leb ee) ee ?_
    obtain ⟨cj,be,a⟩:=bindE a
    refine qi be (by simp) ee ee ee ee ee ee<|q12 (ds:=[i_ y]) y be ee ee ee ee ee ee ee ee (leb ee) ee<|q6<|q7<|q7<|q0<|mv_ ee<|mv_ ee<|v_ (.d (i_ (w64 (f - j)))) ee<|v_ (.d (.bool (decide ((w64 (f - j)) ≥ 2)))) ee<|q6 ?_
    obtain ⟨bz,p,a⟩:=bindE a
    refine q57 (fun t=>t = bz) (fun (t : List Int)=>⟨[(0,.hs 0 1 0 t.length),(1,di_ j),(2,di_ h),(7,di_ f),(8,di_ g.2.1)],[(0,.dat 1 (t.map (eI .i64)))],1⟩) (by simp) ?_ ?_
    ·refine qb ee p (fun _ p=>?_) (fun _ p=>?_)
     ·refine q7<|q0<|mv_ ee<|v_ (.d (i_ (w64 (f - 1)))) ee<|as_ ee<|q6 ?_
      obtain ⟨ca,cb,p⟩:=bindE p
      refine qh<|qn (q1t) (fun (m : Int × List Int)=>⟨[(0,.hs 0 1 0 m.2.length),(1,di_ j),(2,di_ h),(7,di_ f),(8,di_ g.2.1),(9,di_ m.1)],[(0,.dat 1 (m.2.map (eI .i64)))],1⟩) (w64 (f - 1),(g.2.2.set f.toNat x).set (w64 (f - 1)).toNat y) ca cb (wkE [] [] [] ee ⟨⟨_,ee,q10 (by simp) ee (by decide) (ltd ee)⟩,⟨_,ee,.d (.refl _)⟩,⟨_,ee,.d (.refl _)⟩,⟨_,ee,.d (.refl _)⟩,⟨_,ee,.d (.refl _)⟩,⟨_,ee,.d (.refl _)⟩,trivial⟩ ⟨⟨ltd ee,.inr ⟨by decide,_,ee,.dat _ _⟩⟩,trivial⟩) ?_
      intro m ck b
      unfold q1t at b
      refine q7<|q7<|q0<|mv_ ee<|v_ (.d (.bool (decide (m.1 ≥ 1)))) ee<|q6 ?_
      refine qb ee b (fun _ b=>?_) (fun _ b=>?_)
      ·refine qd<|q7<|qh<|q7<|q7<|qg [(some [],[]),(some [],[]),(some [0],[]),(some [],[]),(some [],[]),(some [],[]),(some [],[]),(some [0],[]),(some [],[]),(some [],[]),(some [],[])] (by kernel_rfl)<|mv_ ee<|mv_ ee ?_
       obtain ⟨ac,bf,b⟩:=bindE b
       refine qi bf ee ee ee ee ee ee ee<|qp (di_ ac) bf ee ee ee ee ee ee<|mv_ ee<|mv_ ee<|v_ (.d (i_ (w64 (m.1 - 1)))) ee ?_
       obtain ⟨ad,bg,b⟩:=bindE b
       refine qi bg ee ee ee ee ee ee ee<|qp (di_ ad) bg ee ee ee ee ee ee ?_
       obtain ⟨bh,cc,b⟩:=bindE b
       refine qu [di_ ac,di_ ad] (q34 ac ad bh cc) ee ee ee (.inl ee)<|v_ (db_ (!bh)) ee<|q6 ?_
       refine qb ee b (fun _ b=>?_) (fun _ b=>?_)
       ·refine qm ?_
        refine ⟨_,(Option.some.inj b).symm,fun hm=>?_⟩
        subst hm
        obtain rfl:=someE p
        exact ⟨_,ee,wkA [] [] []⟩
       refine qd<|qg [(some [0],[0]),(some [],[]),(some [0],[0]),(some [],[]),(some [0],[]),(some [],[]),(some [],[]),(some [],[]),(some [0],[]),(some [],[]),(some [],[]),(some [],[]),(some [],[]),(some [],[]),(some [],[]),(some [],[]),(some [],[]),(some [],[])] (by kernel_rfl)<|mv_ ee<|mv_ ee<|mv_ ee<|mv_ ee<|v_ (.d (i_ (w64 (m.1 - 1)))) ee<|mv_ ee<|mv_ ee<|v_ (.d (i_ (w64 (m.1 - 1)))) ee ?_
       obtain ⟨ae,bi,b⟩:=bindE b
       refine qi bi ee ee ee ee ee ee ee<|qp (di_ ae) bi ee ee ee ee ee ee<|mv_ ee<|mv_ ee ?_
       obtain ⟨af,bj,b⟩:=bindE b
       refine qi bj ee ee ee ee ee ee ee<|qp (di_ af) bj ee ee ee ee ee ee ?_
       obtain ⟨cl,bk,b⟩:=bindE b
       refine qi bk ee ee ee ee ee ee ee<|q12 (ds:=[i_ ae]) ae bk ee ee ee ee ee ee ee ee (leb ee) ee ?_
       obtain ⟨cm,bl,b⟩:=bindE b
       refine qi bl (by simp) ee ee ee ee ee ee<|q12 (ds:=[i_ af]) af bl ee ee ee ee ee ee ee ee (leb ee) ee<|q6<|qc<|qr<|q0<|mv_ ee<|v_ (.d (i_ (w64 (m.1 - 1)))) ee<|as_ ee<|q6<|qc ?_
       exact ⟨_,(Option.some.inj b).symm,wkE [] [] [] ee ⟨⟨_,ee,q10 (by simp) ee (by decide) (ltd ee)⟩,⟨_,ee,.d (.refl _)⟩,⟨_,ee,.d (.refl _)⟩,⟨_,ee,.d (.refl _)⟩,⟨_,ee,.d (.refl _)⟩,⟨_,ee,.d (.refl _)⟩,trivial⟩ ⟨⟨ltd ee,.inr ⟨by decide,_,ee,.dat _ _⟩⟩,trivial⟩⟩
      refine qm ?_
      refine ⟨_,(Option.some.inj b).symm,fun hm=>?_⟩
      subst hm
      obtain rfl:=someE p
      exact ⟨_,ee,wkA [] [] []⟩
     refine qd<|qc ?_
     obtain rfl:=someE p
     exact ⟨_,ee,wkE [] [] [] ee ⟨⟨_,ee,q10 (by simp) ee (by decide) (ltd ee)⟩,⟨_,ee,.d (.refl _)⟩,⟨_,ee,.d (.refl _)⟩,⟨_,ee,.d (.refl _)⟩,⟨_,ee,.d (.refl _)⟩,trivial⟩ ⟨⟨ltd ee,.inr ⟨by decide,_,ee,.dat _ _⟩⟩,trivial⟩⟩
    intro t hb
    subst hb
    refine q7<|q0<|mv_ ee<|mv_ ee<|v_ (.d (i_ (w64 (h - f)))) ee<|v_ (.d (.bool (decide ((w64 (h - f)) ≥ 2)))) ee<|q6 ?_
    refine qb ee a (fun _ a=>?_) (fun _ a=>?_)
    ·refine q7<|q0<|mv_ ee<|v_ (.d (i_ (w64 (f + 1)))) ee<|as_ ee<|q6 ?_
     obtain ⟨cd,ce,a⟩:=bindE a
     refine qh<|qn (q1f h f) (fun (n : Int × List Int)=>⟨[(0,.hs 0 1 0 n.2.length),(1,di_ j),(2,di_ h),(7,di_ f),(8,di_ g.2.1),(10,di_ n.1)],[(0,.dat 1 (n.2.map (eI .i64)))],1⟩) (w64 (f + 1),t) cd ce (wkA [] [] []) ?_
     intro n cn c
     unfold q1f at c
     refine q7<|q7<|q0<|mv_ ee<|mv_ ee<|v_ (.d (.bool (decide (n.1 < h)))) ee<|q6 ?_
     refine qb ee c (fun _ c=>?_) (fun _ c=>?_)
     ·refine qd<|q7<|qh<|q7<|q7<|qg [(some [],[]),(some [],[]),(some [0],[]),(some [],[]),(some [],[]),(some [],[]),(some [],[]),(some [0],[]),(some [],[]),(some [],[]),(some [],[])] (by kernel_rfl)<|mv_ ee<|mv_ ee ?_
      obtain ⟨ag,bm,c⟩:=bindE c
      refine qi bm ee ee ee ee ee ee ee<|qp (di_ ag) bm ee ee ee ee ee ee<|mv_ ee<|mv_ ee<|v_ (.d (i_ (w64 (n.1 - 1)))) ee ?_
      obtain ⟨ah,bn,c⟩:=bindE c
      refine qi bn ee ee ee ee ee ee ee<|qp (di_ ah) bn ee ee ee ee ee ee ?_
      obtain ⟨bo,cf,c⟩:=bindE c
      refine qu [di_ ag,di_ ah] (q34 ag ah bo cf) ee ee ee (.inl ee)<|v_ (db_ (!bo)) ee<|q6 ?_
      refine qb ee c (fun _ c=>?_) (fun _ c=>?_)
      ·refine qm ?_
       refine ⟨_,(Option.some.inj c).symm,fun hm=>?_⟩
       subst hm
       obtain rfl:=someE a
       exact ⟨_,ee,wkA [] [] []⟩
      refine qd<|qg [(some [0],[0]),(some [],[]),(some [0],[0]),(some [],[]),(some [0],[]),(some [],[]),(some [],[]),(some [],[]),(some [0],[]),(some [],[]),(some [],[]),(some [],[]),(some [],[]),(some [],[]),(some [],[]),(some [],[]),(some [],[]),(some [],[])] (by kernel_rfl)<|mv_ ee<|mv_ ee<|mv_ ee<|mv_ ee<|v_ (.d (i_ (w64 (n.1 - 1)))) ee<|mv_ ee<|mv_ ee<|v_ (.d (i_ (w64 (n.1 - 1)))) ee ?_
      obtain ⟨ai,bp,c⟩:=bindE c
      refine qi bp ee ee ee ee ee ee ee<|qp (di_ ai) bp ee ee ee ee ee ee<|mv_ ee<|mv_ ee ?_
      obtain ⟨aj,bq,c⟩:=bindE c
      refine qi bq ee ee ee ee ee ee ee<|qp (di_ aj) bq ee ee ee ee ee ee ?_
      obtain ⟨co,br,c⟩:=bindE c
      refine qi br ee ee ee ee ee ee ee<|q12 (ds:=[i_ ai]) ai br ee ee ee ee ee ee ee ee (leb ee) ee ?_
      obtain ⟨cp,bs,c⟩:=bindE c
      refine qi bs (by simp) ee ee ee ee ee ee<|q12 (ds:=[i_ aj]) aj bs ee ee ee ee ee ee ee ee (leb ee) ee<|q6<|qc<|qr<|q0<|mv_ ee<|v_ (.d (i_ (w64 (n.1 + 1)))) ee<|as_ ee<|q6<|qc ?_
      exact ⟨_,(Option.some.inj c).symm,wkE [] [] [] ee ⟨⟨_,ee,q10 (by simp) ee (by decide) (ltd ee)⟩,⟨_,ee,.d (.refl _)⟩,⟨_,ee,.d (.refl _)⟩,⟨_,ee,.d (.refl _)⟩,⟨_,ee,.d (.refl _)⟩,⟨_,ee,.d (.refl _)⟩,trivial⟩ ⟨⟨ltd ee,.inr ⟨by decide,_,ee,.dat _ _⟩⟩,trivial⟩⟩
     refine qm ?_
     refine ⟨_,(Option.some.inj c).symm,fun hm=>?_⟩
     subst hm
     obtain rfl:=someE a
     exact ⟨_,ee,wkA [] [] []⟩
    refine qd<|qc ?_
    obtain rfl:=someE a
    exact ⟨_,ee,wkA [] [] []⟩
   intro s hb
   subst hb
   refine q0<|mv_ ee<|v_ (.d (i_ (w64 (g.2.1 + 1)))) ee<|as_ ee<|q6<|qc ?_
   exact ⟨_,(Option.some.inj l).symm,wkA [] [] []⟩
  refine qm ?_
  refine ⟨_,(Option.some.inj l).symm,fun hm=>?_⟩
  subst hm
  exact ⟨_,ee,wkA [] [] []⟩
 intro w hb
 subst hb
 refine q7<|q0<|as_ ee<|q6<|qj ?_
 obtain rfl:=someE q
 exact ⟨.inr ee,_,ee,wkA [] [] []⟩
theorem q7o (o : List Int) (c : Int) (p : Int) (v : Int) (r : Int × List Int) (f : q29  o c p v = some r) : EvCall Tryz.prog tab 151 [.hs 0 1 0 o.length,di_ c,di_ p,di_ v] [(0,.dat 1 (o.map (eI .i64)))] 1 (di_ r.1) [(0,.dat 1 (r.2.map (eI .i64)))] 1:=by
 unfold q29 at f
 refine q14 Tryz.func151 ee (by kernel_rfl) (by kernel_rfl) ee<|q7<|q0<|as_ ee<|q6<|q7<|qg [(some [0],[0]),(some [],[]),(some [0],[0]),(some [],[]),(some [0],[]),(some [],[]),(some [],[]),(some [],[]),(some [0],[]),(some [],[]),(some [],[]),(some [],[]),(some [],[]),(some [],[]),(some [],[]),(some [],[])] (by kernel_rfl)<|mv_ ee<|mv_ ee<|mv_ ee<|mv_ ee<|mv_ ee<|mv_ ee ?_
 obtain ⟨q,ad,f⟩:=bindE f
 refine qi ad ee ee ee ee ee ee ee<|qp (di_ q) ad ee ee ee ee ee ee<|mv_ ee<|mv_ ee ?_
 obtain ⟨s,ae,f⟩:=bindE f
 refine qi ae ee ee ee ee ee ee ee<|qp (di_ s) ae ee ee ee ee ee ee ?_
 obtain ⟨bw,af,f⟩:=bindE f
 refine qi af ee ee ee ee ee ee ee<|q12 (ds:=[i_ q]) q af ee ee ee ee ee ee ee ee (leb ee) ee ?_
 obtain ⟨bx,ag,f⟩:=bindE f
 refine qi ag (by simp) ee ee ee ee ee ee<|q12 (ds:=[i_ s]) s ag ee ee ee ee ee ee ee ee (leb ee) ee<|q6<|q7<|q0<|mv_ ee<|v_ (.d (i_ (w64 (c + 1)))) ee<|mv_ ee<|v_ (.d (i_ (w64 (p - 1)))) ee<|as_ ee<|as_ ee<|q6<|q7 ?_
 obtain ⟨ah,bp,f⟩:=bindE f
 refine qk (fun n=>n = ah) (fun (n : Int × List Int)=>⟨[(9,di_ n.1)],[(0,.dat 1 (n.2.map (eI .i64)))],1⟩) (by simp) ?_ ?_
 ·refine qn (q1s c) (fun (a : Int × Int × List Int)=>⟨[(0,.hs 0 1 0 a.2.2.length),(1,di_ c),(9,di_ a.1),(10,di_ a.2.1)],[(0,.dat 1 (a.2.2.map (eI .i64)))],1⟩) (w64 (c + 1),w64 (p - 1),(o.set c.toNat q).set v.toNat s) ah bp (wkE [] [] [] ee ⟨⟨_,ee,q10 (by simp) ee (by decide) (ltd ee)⟩,⟨_,ee,.d (.refl _)⟩,⟨_,ee,.d (.refl _)⟩,⟨_,ee,.d (.refl _)⟩,trivial⟩ ⟨⟨ltd ee,.inr ⟨by decide,_,ee,.dat _ _⟩⟩,trivial⟩) ?_
  intro a bz b
  unfold q1s at b
  refine qh<|q7 ?_
  obtain ⟨ai,bq,b⟩:=bindE b
  refine qk (fun j=>j = ai) (fun (j : Int)=>⟨[(0,.hs 0 1 0 a.2.2.length),(1,di_ c),(9,di_ j),(10,di_ a.2.1)],[(0,.dat 1 (a.2.2.map (eI .i64)))],1⟩) (by simp) ?_ ?_
  ·refine qn (q1q a c) (fun (t : Int)=>⟨[(0,.hs 0 1 0 a.2.2.length),(1,di_ c),(9,di_ t),(10,di_ a.2.1)],[(0,.dat 1 (a.2.2.map (eI .i64)))],1⟩) a.1 ai bq (wkA [] [] []) ?_
   intro t ca k
   unfold q1q at k
   refine q7<|q7<|qg [(some [],[]),(some [],[]),(some [],[]),(some [0],[]),(some [],[]),(some [],[]),(some [],[]),(some [0],[]),(some [],[]),(some [],[]),(some [],[]),(some [],[]),(some [],[]),(some [],[]),(some [],[])] (by kernel_rfl)<|mv_ ee<|mv_ ee<|v_ (.d (.bool (decide (t≤a.2.1)))) ee ?_
   obtain ⟨br,g,k⟩:=bindE k
   refine qo 12 (fun A st=>∃ (aj ak al am an ao ap aq ar as au : V),st = A [(43,db_ br),(42,au),(41,as),(40,ar),(39,aq),(38,ap),(37,ao),(36,an),(35,am),(34,al),(33,ak),(32,aj)]) ?_ ?_
   ·refine qs ee ee g (fun g=>?_) (fun g=>?_)
    ·refine mv_ ee<|mv_ ee ?_
     obtain ⟨w,av,g⟩:=bindE g
     refine qi av ee ee ee ee ee ee ee<|qp (di_ w) av ee ee ee ee ee ee<|mv_ ee<|mv_ ee ?_
     obtain ⟨x,aw,g⟩:=bindE g
     refine qi aw ee ee ee ee ee ee ee<|qp (di_ x) aw ee ee ee ee ee ee ?_
     obtain ⟨y,bs,g⟩:=bindE g
     refine qu [di_ w,di_ x] (q34 w x y bs) ee ee ee (.inl ee)<|v_ (db_ (!y)) ee<|v_ (db_ (!y)) ee<|q6 ?_
     obtain rfl:=someE g
     exact ⟨_,_,_,_,_,_,_,_,_,_,_,ee⟩
    refine q8 ee<|q8 ee<|q8 ee<|q8 ee<|q8 ee<|q8 ee<|q8 ee<|q8 ee<|q8 ee<|q8 ee<|v_ (db_ false) ee<|q6 ?_
    obtain rfl:=someE g
    exact ⟨_,_,_,_,_,_,_,_,_,_,_,ee⟩
   rintro _ ⟨aj,ak,al,am,an,ao,ap,aq,ar,as,au,rfl⟩
   refine q6 ?_
   refine qb ee k (fun _ k=>?_) (fun _ k=>?_)
   ·refine qd<|qh<|q0<|mv_ ee<|v_ (.d (i_ (w64 (t + 1)))) ee<|as_ ee<|q6<|qc<|qr<|qc ?_
    exact ⟨_,(Option.some.inj k).symm,wkA [] [] []⟩
   refine qm ?_
   refine ⟨_,(Option.some.inj k).symm,fun hm=>?_⟩
   subst hm
   exact ⟨_,ee,wkA [] [] []⟩
  intro j hb
  subst hb
  refine q7 ?_
  obtain ⟨ax,bt,b⟩:=bindE b
  refine qk (fun m=>m = ax) (fun (m : Int)=>⟨[(0,.hs 0 1 0 a.2.2.length),(1,di_ c),(9,di_ j),(10,di_ m)],[(0,.dat 1 (a.2.2.map (eI .i64)))],1⟩) (by simp) ?_ ?_
  ·refine qn (q1r j a c) (fun (u : Int)=>⟨[(0,.hs 0 1 0 a.2.2.length),(1,di_ c),(9,di_ j),(10,di_ u)],[(0,.dat 1 (a.2.2.map (eI .i64)))],1⟩) a.2.1 ax bt (wkA [] [] []) ?_
   intro u cb l
   unfold q1r at l
   refine q7<|q7<|qg [(some [],[]),(some [],[]),(some [0],[]),(some [],[]),(some [],[]),(some [],[]),(some [0],[]),(some [],[]),(some [],[]),(some [],[]),(some [],[]),(some [],[]),(some [],[]),(some [],[])] (by kernel_rfl)<|mv_ ee<|mv_ ee<|v_ (.d (.bool (decide (j≤u)))) ee ?_
   obtain ⟨bu,h,l⟩:=bindE l
   refine qo 11 (fun A st=>∃ (ay az ba bb bc bd be bf bg bh : V),st = A [(59,db_ bu),(58,bh),(57,bg),(56,bf),(55,be),(54,bd),(53,bc),(52,bb),(51,ba),(50,az),(49,ay)]) ?_ ?_
   ·refine qs ee ee h (fun h=>?_) (fun h=>?_)
    ·refine mv_ ee<|mv_ ee ?_
     obtain ⟨z,bi,h⟩:=bindE h
     refine qi bi ee ee ee ee ee ee ee<|qp (di_ z) bi ee ee ee ee ee ee<|mv_ ee<|mv_ ee ?_
     obtain ⟨aa,bj,h⟩:=bindE h
     refine qi bj ee ee ee ee ee ee ee<|qp (di_ aa) bj ee ee ee ee ee ee ?_
     obtain ⟨bk,bv,h⟩:=bindE h
     refine qu [di_ z,di_ aa] (q34 z aa bk bv) ee ee ee (.inl ee)<|v_ (db_ bk) ee<|q6 ?_
     obtain rfl:=someE h
     exact ⟨_,_,_,_,_,_,_,_,_,_,ee⟩
    refine q8 ee<|q8 ee<|q8 ee<|q8 ee<|q8 ee<|q8 ee<|q8 ee<|q8 ee<|q8 ee<|v_ (db_ false) ee<|q6 ?_
    obtain rfl:=someE h
    exact ⟨_,_,_,_,_,_,_,_,_,_,ee⟩
   rintro _ ⟨ay,az,ba,bb,bc,bd,be,bf,bg,bh,rfl⟩
   refine q6 ?_
   refine qb ee l (fun _ l=>?_) (fun _ l=>?_)
   ·refine qd<|qh<|q0<|mv_ ee<|v_ (.d (i_ (w64 (u - 1)))) ee<|as_ ee<|q6<|qc<|qr<|qc ?_
    exact ⟨_,(Option.some.inj l).symm,wkA [] [] []⟩
   refine qm ?_
   refine ⟨_,(Option.some.inj l).symm,fun hm=>?_⟩
   subst hm
   exact ⟨_,ee,wkA [] [] []⟩
  intro m hb
  subst hb
  refine q7<|q7<|q0<|mv_ ee<|mv_ ee<|v_ (.d (.bool (decide (j > m)))) ee<|q6 ?_
  refine qb ee b (fun _ b=>?_) (fun _ b=>?_)
  ·refine qm ?_
   refine ⟨_,(Option.some.inj b).symm,fun hm=>?_⟩
   subst hm
   exact ⟨_,ee,wkA [] [] []⟩
  refine qd<|q7<|qg [(some [0],[0]),(some [],[]),(some [0],[0]),(some [],[]),(some [0],[]),(some [],[]),(some [],[]),(some [],[]),(some [0],[]),(some [],[]),(some [],[]),(some [],[]),(some [],[]),(some [],[]),(some [],[]),(some [],[])] (by kernel_rfl)<|mv_ ee<|mv_ ee<|mv_ ee<|mv_ ee<|mv_ ee<|mv_ ee ?_
  obtain ⟨ab,bl,b⟩:=bindE b
  refine qi bl ee ee ee ee ee ee ee<|qp (di_ ab) bl ee ee ee ee ee ee<|mv_ ee<|mv_ ee ?_
  obtain ⟨ac,bm,b⟩:=bindE b
  refine qi bm ee ee ee ee ee ee ee<|qp (di_ ac) bm ee ee ee ee ee ee ?_
  obtain ⟨cc,bn,b⟩:=bindE b
  refine qi bn ee ee ee ee ee ee ee<|q12 (ds:=[i_ ab]) ab bn ee ee ee ee ee ee ee ee (leb ee) ee ?_
  obtain ⟨cd,bo,b⟩:=bindE b
  refine qi bo (by simp) ee ee ee ee ee ee<|q12 (ds:=[i_ ac]) ac bo ee ee ee ee ee ee ee ee (leb ee) ee<|q6<|q7<|q0<|mv_ ee<|v_ (.d (i_ (w64 (j + 1)))) ee<|as_ ee<|q6<|q0<|mv_ ee<|v_ (.d (i_ (w64 (m - 1)))) ee<|as_ ee<|q6<|qc<|qr<|qc ?_
  exact ⟨_,(Option.some.inj b).symm,wkE [] [] [] ee ⟨⟨_,ee,q10 (by simp) ee (by decide) (ltd ee)⟩,⟨_,ee,.d (.refl _)⟩,⟨_,ee,.d (.refl _)⟩,⟨_,ee,.d (.refl _)⟩,trivial⟩ ⟨⟨ltd ee,.inr ⟨by decide,_,ee,.dat _ _⟩⟩,trivial⟩⟩
 intro n hb
 subst hb
 refine q7<|q0<|mv_ ee<|as_ ee<|q6<|qj ?_
 obtain rfl:=someE f
 exact ⟨.inr ee,_,ee,wkA [] [] []⟩
theorem q96 (g : List Int) (b : Int) (s : Int) (k : Int) (r : Int × Bool × List Int) (a : q3i  g b s k = some r) : EvCall Tryz.prog tab 152 [.hs 0 1 0 g.length,di_ b,di_ s,di_ k] [(0,.dat 1 (g.map (eI .i64)))] 1 (.d (.tup [i_ r.1,.bool r.2.1])) [(0,.dat 1 (r.2.2.map (eI .i64)))] 1:=by
 unfold q3i at a
 refine q14 Tryz.func152 ee (by kernel_rfl) (by kernel_rfl) ee<|q7<|q0<|as_ ee<|as_ ee<|q6<|q7<|qg [(some [0],[0]),(some [],[]),(some [0],[0]),(some [],[]),(some [0],[]),(some [],[]),(some [],[]),(some [],[]),(some [0],[]),(some [],[]),(some [],[]),(some [],[]),(some [],[]),(some [],[]),(some [],[]),(some [],[])] (by kernel_rfl)<|mv_ ee<|mv_ ee<|mv_ ee<|mv_ ee<|mv_ ee<|mv_ ee ?_
 obtain ⟨h,ax,a⟩:=bindE a
 refine qi ax ee ee ee ee ee ee ee<|qp (di_ h) ax ee ee ee ee ee ee<|mv_ ee<|mv_ ee ?_
 obtain ⟨j,ay,a⟩:=bindE a
 refine qi ay ee ee ee ee ee ee ee<|qp (di_ j) ay ee ee ee ee ee ee ?_
 obtain ⟨fo,az,a⟩:=bindE a
 refine qi az ee ee ee ee ee ee ee<|q12 (ds:=[i_ h]) h az ee ee ee ee ee ee ee ee (leb ee) ee ?_
 obtain ⟨fq,ba,a⟩:=bindE a
 refine qi ba (by simp) ee ee ee ee ee ee<|q12 (ds:=[i_ j]) j ba ee ee ee ee ee ee ee ee (leb ee) ee<|q6<|q7<|q0<|mv_ ee<|v_ (.d (i_ (w64 (b + 1)))) ee<|mv_ ee<|v_ (.d (i_ (w64 (s - 1)))) ee<|as_ ee<|as_ ee<|q6<|q7 ?_
 obtain ⟨bb,fb,a⟩:=bindE a
 refine qk (fun l=>l = bb) (fun (l : Int)=>⟨[(0,.hs 0 1 0 ((g.set b.toNat h).set k.toNat j).length),(1,di_ b),(10,di_ l),(11,.d (i_ (w64 (s - 1))))],[(0,.dat 1 (((g.set b.toNat h).set k.toNat j).map (eI .i64)))],1⟩) (by simp) ?_ ?_
 ·refine qn (q2p s g b h k j) (fun (aa : Int)=>⟨[(0,.hs 0 1 0 ((g.set b.toNat h).set k.toNat j).length),(1,di_ b),(10,di_ aa),(11,.d (i_ (w64 (s - 1))))],[(0,.dat 1 (((g.set b.toNat h).set k.toNat j).map (eI .i64)))],1⟩) (w64 (b + 1)) bb fb (wkE [] [] [] ee ⟨⟨_,ee,q10 (by simp) ee (by decide) (ltd ee)⟩,⟨_,ee,.d (.refl _)⟩,⟨_,ee,.d (.refl _)⟩,⟨_,ee,.d (.refl _)⟩,trivial⟩ ⟨⟨ltd ee,.inr ⟨by decide,_,ee,.dat _ _⟩⟩,trivial⟩) ?_
  intro aa fr t
  unfold q2p at t
  refine q7<|q7<|qg [(some [],[]),(some [],[]),(some [0],[]),(some [],[]),(some [],[]),(some [],[]),(some [0],[]),(some [],[]),(some [],[]),(some [],[]),(some [],[]),(some [],[]),(some [],[]),(some [],[])] (by kernel_rfl)<|mv_ ee<|mv_ ee<|v_ (.d (.bool (decide (aa≤(w64 (s - 1)))))) ee ?_
  obtain ⟨fc,m,t⟩:=bindE t
  refine qo 11 (fun A st=>∃ (bc bd be bf bg bh bi bj bk bl : V),st = A [(43,db_ fc),(42,bl),(41,bk),(40,bj),(39,bi),(38,bh),(37,bg),(36,bf),(35,be),(34,bd),(33,bc)]) ?_ ?_
  ·refine qs ee ee m (fun m=>?_) (fun m=>?_)
   ·refine mv_ ee<|mv_ ee ?_
    obtain ⟨ag,bm,m⟩:=bindE m
    refine qi bm ee ee ee ee ee ee ee<|qp (di_ ag) bm ee ee ee ee ee ee<|mv_ ee<|mv_ ee ?_
    obtain ⟨ah,bn,m⟩:=bindE m
    refine qi bn ee ee ee ee ee ee ee<|qp (di_ ah) bn ee ee ee ee ee ee ?_
    obtain ⟨bo,fd,m⟩:=bindE m
    refine qu [di_ ag,di_ ah] (q34 ag ah bo fd) ee ee ee (.inl ee)<|v_ (db_ bo) ee<|q6 ?_
    obtain rfl:=someE m
    exact ⟨_,_,_,_,_,_,_,_,_,_,ee⟩
   refine q8 ee<|q8 ee<|q8 ee<|q8 ee<|q8 ee<|q8 ee<|q8 ee<|q8 ee<|q8 ee<|v_ (db_ false) ee<|q6 ?_
   obtain rfl:=someE m
   exact ⟨_,_,_,_,_,_,_,_,_,_,ee⟩
  rintro _ ⟨bc,bd,be,bf,bg,bh,bi,bj,bk,bl,rfl⟩
  refine q6 ?_
  refine qb ee t (fun _ t=>?_) (fun _ t=>?_)
  ·refine qd<|qh<|q0<|mv_ ee<|v_ (.d (i_ (w64 (aa + 1)))) ee<|as_ ee<|q6<|qc<|qr<|qc ?_
   exact ⟨_,(Option.some.inj t).symm,wkA [] [] []⟩
  refine qm ?_
  refine ⟨_,(Option.some.inj t).symm,fun hm=>?_⟩
  subst hm
  exact ⟨_,ee,wkA [] [] []⟩
 intro l hb
 subst hb
 refine q7 ?_
 obtain ⟨bp,fe,a⟩:=bindE a
 refine qk (fun u=>u = bp) (fun (u : Int)=>⟨[(0,.hs 0 1 0 ((g.set b.toNat h).set k.toNat j).length),(1,di_ b),(10,di_ l),(11,di_ u)],[(0,.dat 1 (((g.set b.toNat h).set k.toNat j).map (eI .i64)))],1⟩) (by simp) ?_ ?_
 ·refine qn (q2q l g b h k j) (fun (ab : Int)=>⟨[(0,.hs 0 1 0 ((g.set b.toNat h).set k.toNat j).length),(1,di_ b),(10,di_ l),(11,di_ ab)],[(0,.dat 1 (((g.set b.toNat h).set k.toNat j).map (eI .i64)))],1⟩) (w64 (s - 1)) bp fe (wkA [] [] []) ?_
  intro ab fs v
  unfold q2q at v
  refine q7<|q7<|qg [(some [],[]),(some [],[]),(some [],[]),(some [0],[]),(some [],[]),(some [],[]),(some [],[]),(some [0],[]),(some [],[]),(some [],[]),(some [],[]),(some [],[]),(some [],[]),(some [],[]),(some [],[])] (by kernel_rfl)<|mv_ ee<|mv_ ee<|v_ (.d (.bool (decide (l≤ab)))) ee ?_
  obtain ⟨ff,n,v⟩:=bindE v
  refine qo 12 (fun A st=>∃ (bq br bs bt bu bv bw bx bz ca cb : V),st = A [(60,db_ ff),(59,cb),(58,ca),(57,bz),(56,bx),(55,bw),(54,bv),(53,bu),(52,bt),(51,bs),(50,br),(49,bq)]) ?_ ?_
  ·refine qs ee ee n (fun n=>?_) (fun n=>?_)
   ·refine mv_ ee<|mv_ ee ?_
    obtain ⟨ai,cc,n⟩:=bindE n
    refine qi cc ee ee ee ee ee ee ee<|qp (di_ ai) cc ee ee ee ee ee ee<|mv_ ee<|mv_ ee ?_
    obtain ⟨aj,cd,n⟩:=bindE n
    refine qi cd ee ee ee ee ee ee ee<|qp (di_ aj) cd ee ee ee ee ee ee ?_
    obtain ⟨ak,fg,n⟩:=bindE n
    refine qu [di_ ai,di_ aj] (q34 ai aj ak fg) ee ee ee (.inl ee)<|v_ (db_ (!ak)) ee<|v_ (db_ (!ak)) ee<|q6 ?_
    obtain rfl:=someE n
    exact ⟨_,_,_,_,_,_,_,_,_,_,_,ee⟩
   refine q8 ee<|q8 ee<|q8 ee<|q8 ee<|q8 ee<|q8 ee<|q8 ee<|q8 ee<|q8 ee<|q8 ee<|v_ (db_ false) ee<|q6 ?_
   obtain rfl:=someE n
   exact ⟨_,_,_,_,_,_,_,_,_,_,_,ee⟩
  rintro _ ⟨bq,br,bs,bt,bu,bv,bw,bx,bz,ca,cb,rfl⟩
  refine q6 ?_
  refine qb ee v (fun _ v=>?_) (fun _ v=>?_)
  ·refine qd<|qh<|q0<|mv_ ee<|v_ (.d (i_ (w64 (ab - 1)))) ee<|as_ ee<|q6<|qc<|qr<|qc ?_
   exact ⟨_,(Option.some.inj v).symm,wkA [] [] []⟩
  refine qm ?_
  refine ⟨_,(Option.some.inj v).symm,fun hm=>?_⟩
  subst hm
  exact ⟨_,ee,wkA [] [] []⟩
 intro u hb
 subst hb
 refine q7<|q7<|q0<|mv_ ee<|mv_ ee<|v_ (.d (.bool (decide (l > u)))) ee<|q6 ?_
 refine qb ee a (fun _ a=>?_) (fun _ a=>?_)
 ·refine q7<|qg [(some [0],[0]),(some [],[]),(some [0],[0]),(some [],[]),(some [0],[]),(some [],[]),(some [],[]),(some [],[]),(some [0],[]),(some [],[]),(some [],[]),(some [],[]),(some [],[]),(some [],[]),(some [],[]),(some [],[])] (by kernel_rfl)<|mv_ ee<|mv_ ee<|mv_ ee<|mv_ ee<|mv_ ee<|mv_ ee ?_
  obtain ⟨al,ce,a⟩:=bindE a
  refine qi ce ee ee ee ee ee ee ee<|qp (di_ al) ce ee ee ee ee ee ee<|mv_ ee<|mv_ ee ?_
  obtain ⟨am,cf,a⟩:=bindE a
  refine qi cf ee ee ee ee ee ee ee<|qp (di_ am) cf ee ee ee ee ee ee ?_
  obtain ⟨ft,cg,a⟩:=bindE a
  refine qi cg ee ee ee ee ee ee ee<|q12 (ds:=[i_ al]) al cg ee ee ee ee ee ee ee ee (leb ee) ee ?_
  obtain ⟨fu,ch,a⟩:=bindE a
  refine qi ch (by simp) ee ee ee ee ee ee<|q12 (ds:=[i_ am]) am ch ee ee ee ee ee ee ee ee (leb ee) ee<|q6<|q7<|q0<|mv_ ee<|as_ ee<|as_ ee<|q6<|qj ?_
  obtain rfl:=someE a
  exact ⟨.inr ee,_,ee,wkA [] [] []⟩
 refine qd<|q7<|qg [(some [0],[0]),(some [],[]),(some [0],[0]),(some [],[]),(some [0],[]),(some [],[]),(some [],[]),(some [],[]),(some [0],[]),(some [],[]),(some [],[]),(some [],[]),(some [],[]),(some [],[]),(some [],[]),(some [],[])] (by kernel_rfl)<|mv_ ee<|mv_ ee<|mv_ ee<|mv_ ee<|mv_ ee<|mv_ ee ?_
 obtain ⟨ac,ci,a⟩:=bindE a
 refine qi ci ee ee ee ee ee ee ee<|qp (di_ ac) ci ee ee ee ee ee ee<|mv_ ee<|mv_ ee ?_
 obtain ⟨ad,cj,a⟩:=bindE a
 refine qi cj ee ee ee ee ee ee ee<|qp (di_ ad) cj ee ee ee ee ee ee ?_
 obtain ⟨fv,ck,a⟩:=bindE a
 refine qi ck ee ee ee ee ee ee ee<|q12 (ds:=[i_ ac]) ac ck ee ee ee ee ee ee ee ee (leb ee) ee ?_
 obtain ⟨fw,cl,a⟩:=bindE a
 refine qi cl (by simp) ee ee ee ee ee ee<|q12 (ds:=[i_ ad]) ad cl ee ee ee ee ee ee ee ee (leb ee) ee<|q6<|q7<|q0<|mv_ ee<|v_ (.d (i_ (w64 (l + 1)))) ee<|as_ ee<|q6<|q7<|q0<|mv_ ee<|v_ (.d (i_ (w64 (u - 1)))) ee<|as_ ee<|q6<|q7 ?_
 obtain ⟨cm,fh,a⟩:=bindE a
 refine qk (fun y=>y = cm) (fun (y : Int × List Int)=>⟨[(0,.hs 0 1 0 y.2.length),(1,di_ b),(11,di_ y.1)],[(0,.dat 1 (y.2.map (eI .i64)))],1⟩) (by simp) ?_ ?_
 ·refine qn (q2t b) (fun (c : Int × Int × List Int)=>⟨[(0,.hs 0 1 0 c.2.2.length),(1,di_ b),(10,di_ c.1),(11,di_ c.2.1)],[(0,.dat 1 (c.2.2.map (eI .i64)))],1⟩) (w64 (l + 1),w64 (u - 1),(((g.set b.toNat h).set k.toNat j).set l.toNat ac).set u.toNat ad) cm fh (wkE [] [] [] ee ⟨⟨_,ee,q10 (by simp) ee (by decide) (ltd ee)⟩,⟨_,ee,.d (.refl _)⟩,⟨_,ee,.d (.refl _)⟩,⟨_,ee,.d (.refl _)⟩,trivial⟩ ⟨⟨ltd ee,.inr ⟨by decide,_,ee,.dat _ _⟩⟩,trivial⟩) ?_
  intro c fx f
  unfold q2t at f
  refine qh<|q7 ?_
  obtain ⟨cn,fi,f⟩:=bindE f
  refine qk (fun q=>q = cn) (fun (q : Int)=>⟨[(0,.hs 0 1 0 c.2.2.length),(1,di_ b),(10,di_ q),(11,di_ c.2.1)],[(0,.dat 1 (c.2.2.map (eI .i64)))],1⟩) (by simp) ?_ ?_
  ·refine qn (q2r c b) (fun (ae : Int)=>⟨[(0,.hs 0 1 0 c.2.2.length),(1,di_ b),(10,di_ ae),(11,di_ c.2.1)],[(0,.dat 1 (c.2.2.map (eI .i64)))],1⟩) c.1 cn fi (wkA [] [] []) ?_
   intro ae fy w
   unfold q2r at w
   refine q7<|q7<|qg [(some [],[]),(some [],[]),(some [0],[]),(some [],[]),(some [],[]),(some [],[]),(some [0],[]),(some [],[]),(some [],[]),(some [],[]),(some [],[]),(some [],[]),(some [],[]),(some [],[])] (by kernel_rfl)<|mv_ ee<|mv_ ee<|v_ (.d (.bool (decide (ae≤c.2.1)))) ee ?_
   obtain ⟨fj,o,w⟩:=bindE w
   refine qo 11 (fun A st=>∃ (co cp cq cr cs ct cu cv cw cx : V),st = A [(112,db_ fj),(111,cx),(110,cw),(109,cv),(108,cu),(107,ct),(106,cs),(105,cr),(104,cq),(103,cp),(102,co)]) ?_ ?_
   ·refine qs ee ee o (fun o=>?_) (fun o=>?_)
    ·refine mv_ ee<|mv_ ee ?_
     obtain ⟨an,cy,o⟩:=bindE o
     refine qi cy ee ee ee ee ee ee ee<|qp (di_ an) cy ee ee ee ee ee ee<|mv_ ee<|mv_ ee ?_
     obtain ⟨ao,cz,o⟩:=bindE o
     refine qi cz ee ee ee ee ee ee ee<|qp (di_ ao) cz ee ee ee ee ee ee ?_
     obtain ⟨da,fk,o⟩:=bindE o
     refine qu [di_ an,di_ ao] (q34 an ao da fk) ee ee ee (.inl ee)<|v_ (db_ da) ee<|q6 ?_
     obtain rfl:=someE o
     exact ⟨_,_,_,_,_,_,_,_,_,_,ee⟩
    refine q8 ee<|q8 ee<|q8 ee<|q8 ee<|q8 ee<|q8 ee<|q8 ee<|q8 ee<|q8 ee<|v_ (db_ false) ee<|q6 ?_
    obtain rfl:=someE o
    exact ⟨_,_,_,_,_,_,_,_,_,_,ee⟩
   rintro _ ⟨co,cp,cq,cr,cs,ct,cu,cv,cw,cx,rfl⟩
   refine q6 ?_
   refine qb ee w (fun _ w=>?_) (fun _ w=>?_)
   ·refine qd<|qh<|q0<|mv_ ee<|v_ (.d (i_ (w64 (ae + 1)))) ee<|as_ ee<|q6<|qc<|qr<|qc ?_
    exact ⟨_,(Option.some.inj w).symm,wkA [] [] []⟩
   refine qm ?_
   refine ⟨_,(Option.some.inj w).symm,fun hm=>?_⟩
   subst hm
   exact ⟨_,ee,wkA [] [] []⟩
  intro q hb
  subst hb
  refine q7 ?_
  obtain ⟨dc,fl,f⟩:=bindE f
  refine qk (fun z=>z = dc) (fun (z : Int)=>⟨[(0,.hs 0 1 0 c.2.2.length),(1,di_ b),(10,di_ q),(11,di_ z)],[(0,.dat 1 (c.2.2.map (eI .i64)))],1⟩) (by simp) ?_ ?_
  ·refine qn (q2s q c b) (fun (af : Int)=>⟨[(0,.hs 0 1 0 c.2.2.length),(1,di_ b),(10,di_ q),(11,di_ af)],[(0,.dat 1 (c.2.2.map (eI .i64)))],1⟩) c.2.1 dc fl (wkA [] [] []) ?_
   intro af fz x
   unfold q2s at x
   refine q7<|q7<|qg [(some [],[]),(some [],[]),(some [],[]),(some [0],[]),(some [],[]),(some [],[]),(some [],[]),(some [0],[]),(some [],[]),(some [],[]),(some [],[]),(some [],[]),(some [],[]),(some [],[]),(some [],[])] (by kernel_rfl)<|mv_ ee<|mv_ ee<|v_ (.d (.bool (decide (q≤af)))) ee ?_
   obtain ⟨fm,p,x⟩:=bindE x
   refine qo 12 (fun A st=>∃ (dd de df dg dh dj dk dl dm dn dp : V),st = A [(129,db_ fm),(128,dp),(127,dn),(126,dm),(125,dl),(124,dk),(123,dj),(122,dh),(121,dg),(120,df),(119,de),(118,dd)]) ?_ ?_
   ·refine qs ee ee p (fun p=>?_) (fun p=>?_)
    ·refine mv_ ee<|mv_ ee ?_
     obtain ⟨ap,dq,p⟩:=bindE p
     refine qi dq ee ee ee ee ee ee ee<|qp (di_ ap) dq ee ee ee ee ee ee<|mv_ ee<|mv_ ee ?_
     obtain ⟨aq,dr,p⟩:=bindE p
     refine qi dr ee ee ee ee ee ee ee<|qp (di_ aq) dr ee ee ee ee ee ee ?_
     obtain ⟨ar,fn,p⟩:=bindE p
     refine qu [di_ ap,di_ aq] (q34 ap aq ar fn) ee ee ee (.inl ee)<|v_ (db_ (!ar)) ee<|v_ (db_ (!ar)) ee<|q6 ?_
     obtain rfl:=someE p
     exact ⟨_,_,_,_,_,_,_,_,_,_,_,ee⟩
    refine q8 ee<|q8 ee<|q8 ee<|q8 ee<|q8 ee<|q8 ee<|q8 ee<|q8 ee<|q8 ee<|q8 ee<|v_ (db_ false) ee<|q6 ?_
    obtain rfl:=someE p
    exact ⟨_,_,_,_,_,_,_,_,_,_,_,ee⟩
   rintro _ ⟨dd,de,df,dg,dh,dj,dk,dl,dm,dn,dp,rfl⟩
   refine q6 ?_
   refine qb ee x (fun _ x=>?_) (fun _ x=>?_)
   ·refine qd<|qh<|q0<|mv_ ee<|v_ (.d (i_ (w64 (af - 1)))) ee<|as_ ee<|q6<|qc<|qr<|qc ?_
    exact ⟨_,(Option.some.inj x).symm,wkA [] [] []⟩
   refine qm ?_
   refine ⟨_,(Option.some.inj x).symm,fun hm=>?_⟩
   subst hm
   exact ⟨_,ee,wkA [] [] []⟩
  intro z hb
  subst hb
  refine q7<|q7<|q0<|mv_ ee<|mv_ ee<|v_ (.d (.bool (decide (q > z)))) ee<|q6 ?_
  refine qb ee f (fun _ f=>?_) (fun _ f=>?_)
  ·refine qm ?_
   refine ⟨_,(Option.some.inj f).symm,fun hm=>?_⟩
   subst hm
   exact ⟨_,ee,wkA [] [] []⟩
  refine qd<|q7<|qg [(some [0],[0]),(some [],[]),(some [0],[0]),(some [],[]),(some [0],[]),(some [],[]),(some [],[]),(some [],[]),(some [0],[]),(some [],[]),(some [],[]),(some [],[]),(some [],[]),(some [],[]),(some [],[]),(some [],[])] (by kernel_rfl)<|mv_ ee<|mv_ ee<|mv_ ee<|mv_ ee<|mv_ ee<|mv_ ee ?_
  obtain ⟨as,dt,f⟩:=bindE f
  refine qi dt ee ee ee ee ee ee ee<|qp (di_ as) dt ee ee ee ee ee ee<|mv_ ee<|mv_ ee ?_
  obtain ⟨au,du,f⟩:=bindE f
  refine qi du ee ee ee ee ee ee ee<|qp (di_ au) du ee ee ee ee ee ee ?_
  obtain ⟨ga,dv,f⟩:=bindE f
  refine qi dv ee ee ee ee ee ee ee<|q12 (ds:=[i_ as]) as dv ee ee ee ee ee ee ee ee (leb ee) ee ?_
  obtain ⟨gb,dw,f⟩:=bindE f
  refine qi dw (by simp) ee ee ee ee ee ee<|q12 (ds:=[i_ au]) au dw ee ee ee ee ee ee ee ee (leb ee) ee<|q6<|q7<|q0<|mv_ ee<|v_ (.d (i_ (w64 (q + 1)))) ee<|as_ ee<|q6<|q0<|mv_ ee<|v_ (.d (i_ (w64 (z - 1)))) ee<|as_ ee<|q6<|qc<|qr<|qc ?_
  exact ⟨_,(Option.some.inj f).symm,wkE [] [] [] ee ⟨⟨_,ee,q10 (by simp) ee (by decide) (ltd ee)⟩,⟨_,ee,.d (.refl _)⟩,⟨_,ee,.d (.refl _)⟩,⟨_,ee,.d (.refl _)⟩,trivial⟩ ⟨⟨ltd ee,.inr ⟨by decide,_,ee,.dat _ _⟩⟩,trivial⟩⟩
 intro y hb
 subst hb
 refine q7<|qg [(some [0],[0]),(some [],[]),(some [0],[0]),(some [],[]),(some [0],[]),(some [],[]),(some [],[]),(some [],[]),(some [0],[]),(some [],[]),(some [],[]),(some [],[]),(some [],[]),(some [],[]),(some [],[]),(some [],[])] (by kernel_rfl)<|mv_ ee<|mv_ ee<|mv_ ee<|mv_ ee<|mv_ ee<|mv_ ee ?_
 obtain ⟨av,dx,a⟩:=bindE a
 refine qi dx ee ee ee ee ee ee ee<|qp (di_ av) dx ee ee ee ee ee ee<|mv_ ee<|mv_ ee ?_
 obtain ⟨aw,dy,a⟩:=bindE a
 refine qi dy ee ee ee ee ee ee ee<|qp (di_ aw) dy ee ee ee ee ee ee ?_
 obtain ⟨gc,dz,a⟩:=bindE a
 refine qi dz ee ee ee ee ee ee ee<|q12 (ds:=[i_ av]) av dz ee ee ee ee ee ee ee ee (leb ee) ee ?_
 obtain ⟨gd,fa,a⟩:=bindE a
 refine qi fa (by simp) ee ee ee ee ee ee<|q12 (ds:=[i_ aw]) aw fa ee ee ee ee ee ee ee ee (leb ee) ee<|q6<|q7<|q0<|mv_ ee<|as_ ee<|as_ ee<|q6<|qj ?_
 obtain rfl:=someE a
 exact ⟨.inr ee,_,ee,wkA [] [] []⟩
theorem q8r (b : Int) (r : Int) (a : q3j b = some r) : Pure Tryz.prog tab 159 [i_ b] (.int .u64 r):=by
 unfold q3j at a
 refine ql Tryz.func159 ee (by kernel_rfl) (by kernel_rfl) ee<|q7<|q0<|as_ ee<|q6<|q7<|q0<|mv_ ee<|v_ (.d (.int .u64 (IntKind.wrap .u64 b))) ee ?_
 obtain ⟨c,f,a⟩:=bindE a
 refine qu [.d (.int .u64 (IntKind.wrap .u64 b))] (q9h (IntKind.wrap .u64 b) c f) ee ee ee (.inl ee) ?_
 obtain ⟨g,h,a⟩:=bindE a
 refine qu7 h ee ee ee<|as_ ee<|q6<|qj ?_
 obtain rfl:=someE a
 exact finD (.inr ee) (v:=.d (.int .u64 g)) ee ee (.refl _)
theorem q7b (a : Int) (r : Int) (b : q2v  a = some r) : EvCall Tryz.prog tab 160 [.ref 0 1 0 0] [(0,.dat 1 [[.int .u64 a]])] 1 (.d (.int .u64 r)) [(0,.dat 1 [[.int .u64 r]])] 1:=by
 unfold q2v at b
 refine q14 Tryz.func160 ee (by kernel_rfl) (by kernel_rfl) ee<|q7<|q0<|as_ ee<|q6<|q7<|qg [(some [0],[0]),(some [],[]),(some [],[]),(some [],[]),(some [0],[]),(some [],[]),(some [],[]),(some [0],[]),(some [],[]),(some [],[])] (by kernel_rfl)<|mv_ ee<|v_ (.ref 0 1 0 0) ee<|v_ (.d (.int .u64 a)) ee<|mv_ ee<|v_ (.ref 0 1 0 0) ee<|v_ (.d (.int .u64 a)) ee<|v_ (.d (.int .u64 (IntKind.wrap .u64 (a * (2 ^ 13))))) ee<|v_ (.d (.int .u64 (xorI .u64 a (IntKind.wrap .u64 (a * (2 ^ 13)))))) ee<|v_ (.ref 0 1 0 0) ee<|q3r 0 (.dat 1 [[.int .u64 (xorI .u64 a (IntKind.wrap .u64 (a * (2 ^ 13))))]]) ee<|q6<|q7<|qg [(some [0],[0]),(some [],[]),(some [],[]),(some [],[]),(some [0],[]),(some [],[]),(some [],[]),(some [0],[]),(some [],[]),(some [],[])] (by kernel_rfl)<|mv_ ee<|v_ (.ref 0 1 0 0) ee<|v_ (.d (.int .u64 (xorI .u64 a (IntKind.wrap .u64 (a * (2 ^ 13)))))) ee<|mv_ ee<|v_ (.ref 0 1 0 0) ee<|v_ (.d (.int .u64 (xorI .u64 a (IntKind.wrap .u64 (a * (2 ^ 13)))))) ee<|v_ (.d (.int .u64 (Int.fdiv (xorI .u64 a (IntKind.wrap .u64 (a * (2 ^ 13)))) (2 ^ 7)))) ee<|v_ (.d (.int .u64 (xorI .u64 (xorI .u64 a (IntKind.wrap .u64 (a * (2 ^ 13)))) (Int.fdiv (xorI .u64 a (IntKind.wrap .u64 (a * (2 ^ 13)))) (2 ^ 7))))) ee<|v_ (.ref 0 1 0 0) ee<|q3r 0 (.dat 1 [[.int .u64 (xorI .u64 (xorI .u64 a (IntKind.wrap .u64 (a * (2 ^ 13)))) (Int.fdiv (xorI .u64 a (IntKind.wrap .u64 (a * (2 ^ 13)))) (2 ^ 7)))]]) ee<|q6<|q7<|qg [(some [0],[0]),(some [],[]),(some [],[]),(some [],[]),(some [0],[]),(some [],[]),(some [],[]),(some [0],[]),(some [],[]),(some [],[])] (by kernel_rfl)<|mv_ ee<|v_ (.ref 0 1 0 0) ee<|v_ (.d (.int .u64 (xorI .u64 (xorI .u64 a (IntKind.wrap .u64 (a * (2 ^ 13)))) (Int.fdiv (xorI .u64 a (IntKind.wrap .u64 (a * (2 ^ 13)))) (2 ^ 7))))) ee<|mv_ ee<|v_ (.ref 0 1 0 0) ee<|v_ (.d (.int .u64 (xorI .u64 (xorI .u64 a (IntKind.wrap .u64 (a * (2 ^ 13)))) (Int.fdiv (xorI .u64 a (IntKind.wrap .u64 (a * (2 ^ 13)))) (2 ^ 7))))) ee<|v_ (.d (.int .u64 (IntKind.wrap .u64 ((xorI .u64 (xorI .u64 a (IntKind.wrap .u64 (a * (2 ^ 13)))) (Int.fdiv (xorI .u64 a (IntKind.wrap .u64 (a * (2 ^ 13)))) (2 ^ 7))) * (2 ^ 17))))) ee ?_
 refine v_ (.d (.int .u64 (xorI .u64 (xorI .u64 (xorI .u64 a (IntKind.wrap .u64 (a * (2 ^ 13)))) (Int.fdiv (xorI .u64 a (IntKind.wrap .u64 (a * (2 ^ 13)))) (2 ^ 7))) (IntKind.wrap .u64 ((xorI .u64 (xorI .u64 a (IntKind.wrap .u64 (a * (2 ^ 13)))) (Int.fdiv (xorI .u64 a (IntKind.wrap .u64 (a * (2 ^ 13)))) (2 ^ 7))) * (2 ^ 17)))))) ee<|v_ (.ref 0 1 0 0) ee<|q3r 0 (.dat 1 [[.int .u64 (xorI .u64 (xorI .u64 (xorI .u64 a (IntKind.wrap .u64 (a * (2 ^ 13)))) (Int.fdiv (xorI .u64 a (IntKind.wrap .u64 (a * (2 ^ 13)))) (2 ^ 7))) (IntKind.wrap .u64 ((xorI .u64 (xorI .u64 a (IntKind.wrap .u64 (a * (2 ^ 13)))) (Int.fdiv (xorI .u64 a (IntKind.wrap .u64 (a * (2 ^ 13)))) (2 ^ 7))) * (2 ^ 17))))]]) ee<|q6<|q7<|q0<|mv_ ee<|v_ (.ref 0 1 0 0) ee<|v_ (.d (.int .u64 (xorI .u64 (xorI .u64 (xorI .u64 a (IntKind.wrap .u64 (a * (2 ^ 13)))) (Int.fdiv (xorI .u64 a (IntKind.wrap .u64 (a * (2 ^ 13)))) (2 ^ 7))) (IntKind.wrap .u64 ((xorI .u64 (xorI .u64 a (IntKind.wrap .u64 (a * (2 ^ 13)))) (Int.fdiv (xorI .u64 a (IntKind.wrap .u64 (a * (2 ^ 13)))) (2 ^ 7))) * (2 ^ 17)))))) ee<|as_ ee<|q6<|qj ?_
 obtain rfl:=someE b
 exact ⟨.inr ee,_,ee,wkA [] [] []⟩
theorem q81 (m : List Int) (a : Int) (b : Int) (r : List Int) (g : q2h  m a b = some r) : EvCall Tryz.prog tab 146 [.hs 0 1 0 m.length,di_ a,di_ b] [(0,.dat 1 (m.map (eI .i64)))] 1 (.d (.tup [])) [(0,.dat 1 (r.map (eI .i64)))] 1:=by
 unfold q2h at g
 refine q14 Tryz.func146 ee (by kernel_rfl) (by kernel_rfl) ee<|q7<|q0<|mv_ ee<|mv_ ee<|v_ (.d (i_ (w64 (b - a)))) ee<|as_ ee<|q6<|q7<|q0<|mv_ ee<|v_ (.d (.bool (decide ((w64 (b - a)) ≥ 8)))) ee<|q6 ?_
 refine qb ee g (fun _ g=>?_) (fun _ g=>?_)
 ·refine q7<|q0<|mv_ ee<|v_ (.d (.int .u64 (IntKind.wrap .u64 (w64 (b - a))))) ee<|q2d ee ee<|q3r 1 (.dat 1 [[.int .u64 (IntKind.wrap .u64 (w64 (b - a)))]]) ee<|q6<|q7<|q0<|mv_ ee ?_
  obtain ⟨h,u,g⟩:=bindE g
  refine qu [.d (i_ (w64 (b - a)))] (q8r (w64 (b - a)) h u) ee ee ee (.inl ee)<|as_ ee<|q6<|q7<|q0<|mv_ ee<|mv_ ee<|v_ (.d (i_ (w64 (Int.tdiv (w64 (b - a)) 4)))) ee<|v_ (.d (i_ (w64 ((w64 (Int.tdiv (w64 (b - a)) 4)) * 2)))) ee<|v_ (.d (i_ (w64 (a + (w64 ((w64 (Int.tdiv (w64 (b - a)) 4)) * 2)))))) ee<|v_ (.d (i_ (w64 ((w64 (a + (w64 ((w64 (Int.tdiv (w64 (b - a)) 4)) * 2)))) - 1)))) ee<|as_ ee<|q6 ?_
  obtain ⟨v,w,g⟩:=bindE g
  refine qh<|qn (q1w a b h) (fun (f : Int × List Int × Int)=>⟨[(0,.hs 0 1 0 f.2.1.length),(1,di_ a),(6,.d (i_ (w64 (b - a)))),(7,.ref 1 1 0 0),(8,.d (.int .u64 h)),(9,di_ f.1)],[(0,.dat 1 (f.2.1.map (eI .i64))),(1,.dat 1 [[.int .u64 f.2.2]])],2⟩) (w64 ((w64 (a + (w64 ((w64 (Int.tdiv (w64 (b - a)) 4)) * 2)))) - 1),m,IntKind.wrap .u64 (w64 (b - a))) v w (wkA [(1,1)] [] []) ?_
  intro f z c
  unfold q1w at c
  refine q7<|q7<|q0<|mv_ ee<|mv_ ee<|mv_ ee<|v_ (.d (i_ (w64 (Int.tdiv (w64 (b - a)) 4)))) ee<|v_ (.d (i_ (w64 ((w64 (Int.tdiv (w64 (b - a)) 4)) * 2)))) ee<|v_ (.d (i_ (w64 (a + (w64 ((w64 (Int.tdiv (w64 (b - a)) 4)) * 2)))))) ee<|v_ (.d (i_ (w64 ((w64 (a + (w64 ((w64 (Int.tdiv (w64 (b - a)) 4)) * 2)))) + 1)))) ee<|v_ (.d (.bool (decide (f.1≤(w64 ((w64 (a + (w64 ((w64 (Int.tdiv (w64 (b - a)) 4)) * 2)))) + 1)))))) ee<|q6 ?_
  refine qb ee c (fun _ c=>?_) (fun _ c=>?_)
  ·refine qd<|q7<|qh<|q7<|q0 ?_
   obtain ⟨j,x,c⟩:=bindE c
   refine callG [(0,1)] [(0,1),(1,0)] [.ref 1 1 0 0] (.d (.int .u64 j)) 1 [(1,.dat 1 [[.int .u64 j]]),(0,.dat 1 (f.2.1.map (eI .i64)))] 2 (q7b f.2.2 j x)<|mv_ ee<|v_ (.d (.int .u64 (IntKind.wrap .u64 (h - 1)))) ee<|v_ (.d (.int .u64 (andI .u64 j (IntKind.wrap .u64 (h - 1))))) ee<|v_ (.d (i_ (w64 (andI .u64 j (IntKind.wrap .u64 (h - 1)))))) ee<|as_ ee<|q6<|q7<|q7<|q0<|mv_ ee<|mv_ ee<|v_ (.d (.bool (decide ((w64 (andI .u64 j (IntKind.wrap .u64 (h - 1)))) ≥ (w64 (b - a)))))) ee<|q6 ?_
   obtain ⟨y,l,c⟩:=bindE c
   refine q57 (fun k=>k = y) (fun (k : Int)=>⟨[(0,.hs 0 1 0 f.2.1.length),(1,di_ a),(6,.d (i_ (w64 (b - a)))),(7,.ref 1 1 0 0),(8,.d (.int .u64 h)),(9,di_ f.1),(10,di_ k)],[(0,.dat 1 (f.2.1.map (eI .i64))),(1,.dat 1 [[.int .u64 j]])],2⟩) (by simp) ?_ ?_
   ·refine qb ee l (fun _ l=>?_) (fun _ l=>?_)
    ·refine q0<|mv_ ee<|mv_ ee<|v_ (.d (i_ (w64 ((w64 (andI .u64 j (IntKind.wrap .u64 (h - 1)))) - (w64 (b - a)))))) ee<|as_ ee<|q6<|qc ?_
     obtain rfl:=someE l
     exact ⟨_,ee,wkA [(1,1)] [] []⟩
    refine qd<|qc ?_
    obtain rfl:=someE l
    exact ⟨_,ee,wkA [(1,1)] [] []⟩
   intro k hb
   subst hb
   refine qg [(some [0],[0]),(some [],[]),(some [0],[0]),(some [],[]),(some [0],[]),(some [],[]),(some [],[]),(some [],[]),(some [0],[]),(some [],[]),(some [],[]),(some [],[]),(some [],[]),(some [],[]),(some [],[]),(some [],[]),(some [],[]),(some [],[]),(some [],[]),(some [],[])] (by kernel_rfl)<|mv_ ee<|mv_ ee<|mv_ ee<|mv_ ee<|mv_ ee<|v_ (.d (i_ (w64 (a + k)))) ee<|mv_ ee<|mv_ ee<|mv_ ee<|v_ (.d (i_ (w64 (a + k)))) ee ?_
   obtain ⟨n,p,c⟩:=bindE c
   refine qi p ee ee ee ee ee ee ee<|qp (di_ n) p ee ee ee ee ee ee<|mv_ ee<|mv_ ee ?_
   obtain ⟨o,q,c⟩:=bindE c
   refine qi q ee ee ee ee ee ee ee<|qp (di_ o) q ee ee ee ee ee ee ?_
   obtain ⟨aa,s,c⟩:=bindE c
   refine qi s ee ee ee ee ee ee ee<|q12 (ds:=[i_ n]) n s ee ee ee ee ee ee ee ee (leb ee) ee ?_
   obtain ⟨ab,t,c⟩:=bindE c
   refine qi t (by simp) ee ee ee ee ee ee<|q12 (ds:=[i_ o]) o t ee ee ee ee ee ee ee ee (leb ee) ee<|q6<|qc<|qr<|q0<|mv_ ee<|v_ (.d (i_ (w64 (f.1 + 1)))) ee<|as_ ee<|q6<|qc ?_
   exact ⟨_,(Option.some.inj c).symm,wkE [(1,1)] [] [] ee ⟨⟨_,ee,q10 (by simp) ee (by decide) (ltd ee)⟩,⟨_,ee,.d (.refl _)⟩,⟨_,ee,.d (.refl _)⟩,⟨_,ee,.ref ee (by decide) (ltd ee)⟩,⟨_,ee,.d (.refl _)⟩,⟨_,ee,.d (.refl _)⟩,trivial⟩ ⟨⟨ltd ee,.inr ⟨by decide,_,ee,.dat _ _⟩⟩,⟨ltd ee,.inr ⟨by decide,_,ee,.dat _ _⟩⟩,trivial⟩⟩
  refine qm ?_
  refine ⟨_,(Option.some.inj c).symm,fun hm=>?_⟩
  subst hm
  obtain rfl:=someE g
  exact ⟨.inl ee,_,ee,wkA [] [] []⟩
 refine qd<|qc ?_
 obtain rfl:=someE g
 exact ⟨.inl ee,_,ee,wkA [] [] []⟩
theorem q97 (rec : List Int→Int→Int→Int→Option (List Int)) (hrec : ∀ (n : List Int) (o : Int) (p : Int) (q : Int) (r : List Int),rec n o p q = some r→EvCall Tryz.prog tab 132 [.hs 0 1 0 n.length,di_ o,di_ p,di_ q] [(0,.dat 1 (n.map (eI .i64)))] 1 (.d (.tup [])) [(0,.dat 1 (r.map (eI .i64)))] 1) (n : List Int) (o : Int) (p : Int) (q : Int) (r : List Int) (s : q2e rec  n o p q = some r) : EvCall Tryz.prog tab 132 [.hs 0 1 0 n.length,di_ o,di_ p,di_ q] [(0,.dat 1 (n.map (eI .i64)))] 1 (.d (.tup [])) [(0,.dat 1 (r.map (eI .i64)))] 1:=by
 unfold q2e at s
 refine q14 Tryz.func132 ee (by kernel_rfl) (by kernel_rfl) ee<|q7<|q0<|as_ ee<|q6<|q7<|q0<|as_ ee<|q6 ?_
 obtain ⟨bc,bd,s⟩:=bindE s
 refine qh<|qn (q27 rec) (fun (a : Int × Int × Int × Bool × Bool × List Int)=>⟨[(0,.hs 0 1 0 a.2.2.2.2.2.length),(1,di_ a.1),(2,di_ a.2.1),(3,di_ a.2.2.1),(8,db_ a.2.2.2.1),(9,db_ a.2.2.2.2.1)],[(0,.dat 1 (a.2.2.2.2.2.map (eI .i64)))],1⟩) (o,p,q,true,true,n) bc bd (wkA [] [] []) ?_
 intro a cl b
 unfold q27 at b
 refine qh<|q7<|q0<|mv_ ee<|mv_ ee<|v_ (.d (i_ (w64 (a.2.1 - a.1)))) ee<|as_ ee<|q6<|q7<|q7<|q0<|mv_ ee<|v_ (.d (.bool (decide ((w64 (a.2.1 - a.1))≤12)))) ee<|q6 ?_
 refine qb ee b (fun _ b=>?_) (fun _ b=>?_)
 ·refine q7<|q0<|mv_ ee<|mv_ ee<|mv_ ee ?_
  obtain ⟨ae,be,b⟩:=bindE b
  obtain ⟨cm,bf,b⟩:=bindE b
  have cn:=q1a bf
  refine callG [(0,0)] [(0,0)] [.hs 0 1 0 a.2.2.2.2.2.length,di_ a.1,di_ a.2.1] (.d (.tup [])) 1 [(0,.dat 1 (ae.map (eI .i64)))] 1 (q80 a.2.2.2.2.2 a.1 a.2.1 ae be)<|q6<|qj ?_
  refine ⟨_,(Option.some.inj b).symm,fun hm=>?_⟩
  subst hm
  obtain rfl:=someE s
  exact ⟨.inr ee,_,ee,wkA [] [] []⟩
 refine qd<|q7<|q7<|q0<|mv_ ee<|v_ (db_ (a.2.2.1 == 0)) ee<|q6 ?_
 refine qb ee b (fun _ b=>?_) (fun _ b=>?_)
 ·refine q7<|q0<|mv_ ee<|mv_ ee<|mv_ ee ?_
  obtain ⟨af,bg,b⟩:=bindE b
  obtain ⟨co,bh,b⟩:=bindE b
  have cp:=q1a bh
  refine callG [(0,0)] [(0,0)] [.hs 0 1 0 a.2.2.2.2.2.length,di_ a.1,di_ a.2.1] (.d (.tup [])) 1 [(0,.dat 1 (af.map (eI .i64)))] 1 (q9e a.2.2.2.2.2 a.1 a.2.1 af bg)<|q6<|qj ?_
  refine ⟨_,(Option.some.inj b).symm,fun hm=>?_⟩
  subst hm
  obtain rfl:=someE s
  exact ⟨.inr ee,_,ee,wkA [] [] []⟩
 refine qd<|q7<|q7<|q0<|mv_ ee<|v_ (db_ (!a.2.2.2.1)) ee<|q6 ?_
 obtain ⟨bi,l,b⟩:=bindE b
 refine q57 (fun f=>f = bi) (fun (f : Int × List Int)=>⟨[(0,.hs 0 1 0 f.2.length),(1,di_ a.1),(2,di_ a.2.1),(3,di_ f.1),(8,db_ a.2.2.2.1),(9,db_ a.2.2.2.2.1),(10,.d (i_ (w64 (a.2.1 - a.1))))],[(0,.dat 1 (f.2.map (eI .i64)))],1⟩) (by simp) ?_ ?_
 ·refine qb ee l (fun _ l=>?_) (fun _ l=>?_)
  ·refine q7<|q0<|mv_ ee<|mv_ ee<|mv_ ee ?_
   obtain ⟨ag,bj,l⟩:=bindE l
   obtain ⟨cq,bk,l⟩:=bindE l
   have bl:=q1a bk
   refine callG [(0,0)] [(0,0)] [.hs 0 1 0 a.2.2.2.2.2.length,di_ a.1,di_ a.2.1] (.d (.tup [])) 1 [(0,.dat 1 (ag.map (eI .i64)))] 1 (q81 a.2.2.2.2.2 a.1 a.2.1 ag bj)<|q6<|q0<|mv_ ee<|v_ (.d (i_ (w64 (a.2.2.1 - 1)))) ee<|as_ ee<|q6<|qc ?_
   obtain rfl:=someE l
   exact ⟨_,ee,wkE [] [] [] ee ⟨⟨_,ee,q10 (by simp [bl]) ee (by decide) (ltd ee)⟩,⟨_,ee,.d (.refl _)⟩,⟨_,ee,.d (.refl _)⟩,⟨_,ee,.d (.refl _)⟩,⟨_,ee,.d (.refl _)⟩,⟨_,ee,.d (.refl _)⟩,⟨_,ee,.d (.refl _)⟩,trivial⟩ ⟨⟨ltd ee,.inr ⟨by decide,_,ee,.dat _ _⟩⟩,trivial⟩⟩
  refine qd<|qc ?_
  obtain rfl:=someE l
  exact ⟨_,ee,wkA [] [] []⟩
 intro f hb
 subst hb
 refine q7<|q0<|mv_ ee<|mv_ ee<|mv_ ee ?_
 obtain ⟨t,bm,b⟩:=bindE b
 refine qu [.hs 0 1 0 f.2.length,di_ a.1,di_ a.2.1] (q9i f.2 a.1 a.2.1 t bm) ee ee (q8v (qa1 ee ee) (q8v ee (q8v ee ee))) (.inr ee)<|mv_ ee<|v_ (di_ t.1) ee<|v_ (di_ t.2) ee<|as_ ee<|as_ ee<|q6<|q7<|q7<|q0<|mv_ ee<|v_ (db_ (t.2 == 2)) ee<|q6 ?_
 obtain ⟨bn,m,b⟩:=bindE b
 refine q57 (fun g=>g = bn) (fun (g : Int × Int × List Int)=>⟨[(0,.hs 0 1 0 g.2.2.length),(1,di_ a.1),(2,di_ a.2.1),(3,di_ f.1),(8,db_ a.2.2.2.1),(9,db_ a.2.2.2.2.1),(10,.d (i_ (w64 (a.2.1 - a.1)))),(11,di_ g.1),(12,di_ g.2.1)],[(0,.dat 1 (g.2.2.map (eI .i64)))],1⟩) (by simp) ?_ ?_
 ·refine qb ee m (fun _ m=>?_) (fun _ m=>?_)
  ·refine q7<|q0<|mv_ ee<|mv_ ee<|mv_ ee ?_
   obtain ⟨ah,bo,m⟩:=bindE m
   obtain ⟨cr,bp,m⟩:=bindE m
   have bq:=q1a bp
   refine callG [(0,0)] [(0,0)] [.hs 0 1 0 f.2.length,di_ a.1,di_ a.2.1] (.d (.tup [])) 1 [(0,.dat 1 (ah.map (eI .i64)))] 1 (q86 f.2 a.1 a.2.1 ah bo)<|q6<|q7<|q0<|mv_ ee<|v_ (.d (i_ (w64 (a.2.1 - 1)))) ee<|mv_ ee<|mv_ ee<|v_ (.d (i_ (w64 (t.1 - a.1)))) ee<|v_ (.d (i_ (w64 ((w64 (a.2.1 - 1)) - (w64 (t.1 - a.1)))))) ee<|as_ ee<|q6<|q0<|as_ ee<|q6<|qc ?_
   obtain rfl:=someE m
   exact ⟨_,ee,wkE [] [] [] ee ⟨⟨_,ee,q10 (by simp [bq]) ee (by decide) (ltd ee)⟩,⟨_,ee,.d (.refl _)⟩,⟨_,ee,.d (.refl _)⟩,⟨_,ee,.d (.refl _)⟩,⟨_,ee,.d (.refl _)⟩,⟨_,ee,.d (.refl _)⟩,⟨_,ee,.d (.refl _)⟩,⟨_,ee,.d (.refl _)⟩,⟨_,ee,.d (.refl _)⟩,trivial⟩ ⟨⟨ltd ee,.inr ⟨by decide,_,ee,.dat _ _⟩⟩,trivial⟩⟩
  refine qd<|qc ?_
  obtain rfl:=someE m
  exact ⟨_,ee,wkA [] [] []⟩
 intro g hb
 subst hb
 refine q7<|q7<|q0<|mv_ ee ?_
 obtain ⟨br,u,b⟩:=bindE b
 refine qo 3 (fun A st=>∃ (ai aj : V),st = A [(64,db_ br),(63,aj),(62,ai)]) ?_ ?_
 ·refine qs ee ee u (fun u=>?_) (fun u=>?_)
  ·refine mv_ ee<|v_ (db_ a.2.2.2.2.1) ee<|q6 ?_
   obtain rfl:=someE u
   exact ⟨_,_,ee⟩
  refine q8 ee<|v_ (db_ false) ee<|q6 ?_
  obtain rfl:=someE u
  exact ⟨_,_,ee⟩
 rintro _ ⟨ai,aj,rfl⟩
 obtain ⟨bs,v,b⟩:=bindE b
 refine qo 4 (fun A st=>∃ (ak al am : V),st = A [(68,db_ bs),(67,am),(66,al),(65,ak)]) ?_ ?_
 ·refine qs ee ee v (fun v=>?_) (fun v=>?_)
  ·refine mv_ ee<|v_ (db_ (g.2.1 == 1)) ee<|v_ (db_ (g.2.1 == 1)) ee<|q6 ?_
   obtain rfl:=someE v
   exact ⟨_,_,_,ee⟩
  refine q8 ee<|q8 ee<|v_ (db_ false) ee<|q6 ?_
  obtain rfl:=someE v
  exact ⟨_,_,_,ee⟩
 rintro _ ⟨ak,al,am,rfl⟩
 refine q6 ?_
 obtain ⟨bt,h,b⟩:=bindE b
 refine q57 (fun j=>.inl j = bt) (fun (j : List Int)=>⟨[(0,.hs 0 1 0 j.length),(1,di_ a.1),(2,di_ a.2.1),(3,di_ f.1),(8,db_ a.2.2.2.1),(9,db_ a.2.2.2.2.1),(10,.d (i_ (w64 (a.2.1 - a.1)))),(11,di_ g.1)],[(0,.dat 1 (j.map (eI .i64)))],1⟩) (by simp) ?_ ?_
 ·refine qb ee h (fun _ h=>?_) (fun _ h=>?_)
  ·refine q7<|q0<|mv_ ee<|mv_ ee<|mv_ ee ?_
   obtain ⟨x,bu,h⟩:=bindE h
   obtain ⟨cs,bv,h⟩:=bindE h
   have bw:=q1a bv
   refine callG [(0,0)] [(0,0)] [.hs 0 1 0 g.2.2.length,di_ a.1,di_ a.2.1] (db_ x.1) 1 [(0,.dat 1 (x.2.map (eI .i64)))] 1 (q6u g.2.2 a.1 a.2.1 x bu)<|q6 ?_
   refine qb ee h (fun _ h=>?_) (fun _ h=>?_)
   ·refine qj ?_
    obtain rfl:=someE h
    refine ⟨_,(Option.some.inj b).symm,fun hm=>?_⟩
    subst hm
    obtain rfl:=someE s
    exact ⟨.inr ee,_,ee,wkA [] [] []⟩
   refine qd<|qc ?_
   obtain rfl:=someE h
   exact ⟨_,ee,wkE [] [] [] ee ⟨⟨_,ee,q10 (by simp [bw]) ee (by decide) (ltd ee)⟩,⟨_,ee,.d (.refl _)⟩,⟨_,ee,.d (.refl _)⟩,⟨_,ee,.d (.refl _)⟩,⟨_,ee,.d (.refl _)⟩,⟨_,ee,.d (.refl _)⟩,⟨_,ee,.d (.refl _)⟩,⟨_,ee,.d (.refl _)⟩,trivial⟩ ⟨⟨ltd ee,.inr ⟨by decide,_,ee,.dat _ _⟩⟩,trivial⟩⟩
  refine qd<|qc ?_
  obtain rfl:=someE h
  exact ⟨_,ee,wkA [] [] []⟩
 intro j hb
 subst hb
 refine q7<|q7<|qg [(some [],[]),(some [],[]),(some [],[]),(some [0],[]),(some [],[]),(some [],[]),(some [],[]),(some [0],[]),(some [],[]),(some [],[]),(some [],[]),(some [],[]),(some [],[]),(some [],[]),(some [],[])] (by kernel_rfl)<|mv_ ee<|v_ (.d (.bool (decide (a.1 > 0)))) ee ?_
 obtain ⟨bx,k,b⟩:=bindE b
 refine qo 13 (fun A st=>∃ (an ao ap aq ar as au av aw ax ay az : V),st = A [(87,db_ bx),(86,az),(85,ay),(84,ax),(83,aw),(82,av),(81,au),(80,as),(79,ar),(78,aq),(77,ap),(76,ao),(75,an)]) ?_ ?_
 ·refine qs ee ee k (fun k=>?_) (fun k=>?_)
  ·refine mv_ ee<|mv_ ee<|v_ (.d (i_ (w64 (a.1 - 1)))) ee ?_
   obtain ⟨y,ba,k⟩:=bindE k
   refine qi ba ee ee ee ee ee ee ee<|qp (di_ y) ba ee ee ee ee ee ee<|mv_ ee<|mv_ ee ?_
   obtain ⟨z,bb,k⟩:=bindE k
   refine qi bb ee ee ee ee ee ee ee<|qp (di_ z) bb ee ee ee ee ee ee ?_
   obtain ⟨aa,bz,k⟩:=bindE k
   refine qu [di_ y,di_ z] (q34 y z aa bz) ee ee ee (.inl ee)<|v_ (db_ (!aa)) ee<|v_ (db_ (!aa)) ee<|q6 ?_
   obtain rfl:=someE k
   exact ⟨_,_,_,_,_,_,_,_,_,_,_,_,ee⟩
  refine q8 ee<|q8 ee<|q8 ee<|q8 ee<|q8 ee<|q8 ee<|q8 ee<|q8 ee<|q8 ee<|q8 ee<|q8 ee<|v_ (db_ false) ee<|q6 ?_
  obtain rfl:=someE k
  exact ⟨_,_,_,_,_,_,_,_,_,_,_,_,ee⟩
 rintro _ ⟨an,ao,ap,aq,ar,as,au,av,aw,ax,ay,az,rfl⟩
 refine q6 ?_
 refine qb ee b (fun _ b=>?_) (fun _ b=>?_)
 ·refine q7<|q0<|mv_ ee<|mv_ ee<|mv_ ee<|mv_ ee ?_
  obtain ⟨ab,ca,b⟩:=bindE b
  obtain ⟨ct,cb,b⟩:=bindE b
  have cc:=q1a cb
  refine callG [(0,0)] [(0,0)] [.hs 0 1 0 j.length,di_ a.1,di_ a.2.1,di_ g.1] (di_ ab.1) 1 [(0,.dat 1 (ab.2.map (eI .i64)))] 1 (q7o j a.1 a.2.1 g.1 ab ca)<|as_ ee<|q6<|q7<|q0<|mv_ ee<|as_ ee<|q6<|qm<|qbs<|qc ?_
  exact ⟨_,(Option.some.inj b).symm,wkE [] [] [] ee ⟨⟨_,ee,q10 (by simp [cc]) ee (by decide) (ltd ee)⟩,⟨_,ee,.d (.refl _)⟩,⟨_,ee,.d (.refl _)⟩,⟨_,ee,.d (.refl _)⟩,⟨_,ee,.d (.refl _)⟩,⟨_,ee,.d (.refl _)⟩,trivial⟩ ⟨⟨ltd ee,.inr ⟨by decide,_,ee,.dat _ _⟩⟩,trivial⟩⟩
 refine qd<|q7<|q0<|mv_ ee<|mv_ ee<|mv_ ee<|mv_ ee ?_
 obtain ⟨c,cd,b⟩:=bindE b
 obtain ⟨cu,ce,b⟩:=bindE b
 have w:=q1a ce
 refine callG [(0,0)] [(0,0)] [.hs 0 1 0 j.length,di_ a.1,di_ a.2.1,di_ g.1] (.d (.tup [i_ c.1,.bool c.2.1])) 1 [(0,.dat 1 (c.2.2.map (eI .i64)))] 1 (q96 j a.1 a.2.1 g.1 c cd)<|mv_ ee<|v_ (di_ c.1) ee<|v_ (db_ c.2.1) ee<|as_ ee<|as_ ee<|q6<|q7<|q0<|mv_ ee<|as_ ee<|q6<|q7<|q0<|mv_ ee<|mv_ ee<|v_ (.d (i_ (w64 (c.1 - a.1)))) ee<|mv_ ee<|mv_ ee<|v_ (.d (i_ (w64 (a.2.1 - c.1)))) ee<|as_ ee<|as_ ee<|q6<|q7<|q0<|mv_ ee<|v_ (.d (i_ (w64 (Int.tdiv (w64 (a.2.1 - a.1)) 8)))) ee<|as_ ee<|q6<|q7<|q0<|mv_ ee<|mv_ ee<|v_ (.d (.bool (decide ((w64 (c.1 - a.1)) < (w64 (a.2.1 - c.1)))))) ee<|q6 ?_
 refine qb ee b (fun _ b=>?_) (fun _ b=>?_)
 ·refine q7<|q0<|mv_ ee<|mv_ ee<|v_ (.d (.bool (decide ((w64 (c.1 - a.1)) ≥ (w64 (Int.tdiv (w64 (a.2.1 - a.1)) 8)))))) ee<|as_ ee<|q6<|q7<|q0<|mv_ ee<|mv_ ee<|mv_ ee<|mv_ ee ?_
  obtain ⟨ac,cf,b⟩:=bindE b
  obtain ⟨cv,cg,b⟩:=bindE b
  have ch:=q1a cg
  refine q6w [(0,0)] [(0,0)] [.hs 0 1 0 j.length,di_ a.1,di_ c.1,di_ f.1] (.d (.tup [])) [(0,.dat 1 (ac.map (eI .i64)))] [(0,.dat 1 (ac.map (eI .i64)))] 1 (hrec c.2.2 a.1 c.1 f.1 ac cf) ee ee ee (q5q [(0,0)] [] [] ee ⟨⟨_,ee,q10 (by simp [w]) ee (by decide) (ltd ee)⟩,⟨_,ee,.d (.refl _)⟩,⟨_,ee,.d (.refl _)⟩,⟨_,ee,.d (.refl _)⟩,trivial⟩ ⟨⟨ltd ee,.inr ⟨by decide,_,ee,.dat _ _⟩⟩,trivial⟩) (q5q [(0,0)] [] [] ee ⟨⟨_,ee,.d (.refl _)⟩,trivial⟩ ⟨⟨ltd ee,.inr ⟨by decide,_,ee,.dat _ _⟩⟩,trivial⟩) ee ⟨.inl ee,trivial⟩<|q6<|q0<|mv_ ee<|v_ (.d (i_ (w64 (c.1 + 1)))) ee<|as_ ee<|q6<|qc<|qr<|qc ?_
  exact ⟨_,(Option.some.inj b).symm,wkE [] [] [] ee ⟨⟨_,ee,q10 (by simp [w,ch]) ee (by decide) (ltd ee)⟩,⟨_,ee,.d (.refl _)⟩,⟨_,ee,.d (.refl _)⟩,⟨_,ee,.d (.refl _)⟩,⟨_,ee,.d (.refl _)⟩,⟨_,ee,.d (.refl _)⟩,trivial⟩ ⟨⟨ltd ee,.inr ⟨by decide,_,ee,.dat _ _⟩⟩,trivial⟩⟩
 refine q7<|q0<|mv_ ee<|mv_ ee<|v_ (.d (.bool (decide ((w64 (a.2.1 - c.1)) ≥ (w64 (Int.tdiv (w64 (a.2.1 - a.1)) 8)))))) ee<|as_ ee<|q6<|q7<|q0<|mv_ ee<|mv_ ee<|v_ (.d (i_ (w64 (c.1 + 1)))) ee<|mv_ ee<|mv_ ee ?_
 obtain ⟨ad,ci,b⟩:=bindE b
 obtain ⟨cw,cj,b⟩:=bindE b
 have ck:=q1a cj
 refine q6w [(0,0)] [(0,0)] [.hs 0 1 0 j.length,.d (i_ (w64 (c.1 + 1))),di_ a.2.1,di_ f.1] (.d (.tup [])) [(0,.dat 1 (ad.map (eI .i64)))] [(0,.dat 1 (ad.map (eI .i64)))] 1 (hrec c.2.2 (w64 (c.1 + 1)) a.2.1 f.1 ad ci) ee ee ee (q5q [(0,0)] [] [] ee ⟨⟨_,ee,q10 (by simp [w]) ee (by decide) (ltd ee)⟩,⟨_,ee,.d (.refl _)⟩,⟨_,ee,.d (.refl _)⟩,⟨_,ee,.d (.refl _)⟩,trivial⟩ ⟨⟨ltd ee,.inr ⟨by decide,_,ee,.dat _ _⟩⟩,trivial⟩) (q5q [(0,0)] [] [] ee ⟨⟨_,ee,.d (.refl _)⟩,trivial⟩ ⟨⟨ltd ee,.inr ⟨by decide,_,ee,.dat _ _⟩⟩,trivial⟩) ee ⟨.inl ee,trivial⟩<|q6<|q0<|mv_ ee<|as_ ee<|q6<|qc<|qr<|qc ?_
 exact ⟨_,(Option.some.inj b).symm,wkE [] [] [] ee ⟨⟨_,ee,q10 (by simp [w,ck]) ee (by decide) (ltd ee)⟩,⟨_,ee,.d (.refl _)⟩,⟨_,ee,.d (.refl _)⟩,⟨_,ee,.d (.refl _)⟩,⟨_,ee,.d (.refl _)⟩,⟨_,ee,.d (.refl _)⟩,trivial⟩ ⟨⟨ltd ee,.inr ⟨by decide,_,ee,.dat _ _⟩⟩,trivial⟩⟩
theorem q9j (n : Nat) : ∀ (a : List Int) (b : Int) (c : Int) (f : Int) (r : List Int),q3t n  a b c f = some r→EvCall Tryz.prog tab 132 [.hs 0 1 0 a.length,di_ b,di_ c,di_ f] [(0,.dat 1 (a.map (eI .i64)))] 1 (.d (.tup [])) [(0,.dat 1 (r.map (eI .i64)))] 1:=by
 induction n with
 | zero=>intro a b c f r g;cases g
 | succ n ih=>intro a b c f r g;exact q97 (q3t n )   ih a b c f r g
theorem q7p (a : List Int) (r : List Int) (b : q2c  a = some r) : EvCall Tryz.prog tab 110 [.hs 0 1 0 a.length] [(0,.dat 1 (a.map (eI .i64)))] 1 (.d (.tup [])) [(0,.dat 1 (r.map (eI .i64)))] 1:=by
 unfold q2c at b
 refine q14 Tryz.func110 ee (by kernel_rfl) (by kernel_rfl) ee<|q7<|q0<|mv_ ee<|v_ (di_ (a.length : Int)) ee<|as_ ee<|q6<|q0<|mv_ ee<|mv_ ee<|mv_ ee<|v_ (.d (.int .u64 (IntKind.wrap .u64 (a.length : Int)))) ee ?_
 obtain ⟨c,h,b⟩:=bindE b
 refine qu [.d (.int .u64 (IntKind.wrap .u64 (a.length : Int)))] (q9h (IntKind.wrap .u64 (a.length : Int)) c h) ee ee ee (.inl ee) ?_
 obtain ⟨g,f,b⟩:=bindE b
 obtain ⟨l,j,b⟩:=bindE b
 have m:=q1a j
 obtain ⟨k,f⟩:=qhp f
 refine callG [(0,0)] [(0,0)] [.hs 0 1 0 a.length,di_ 0,di_ (a.length : Int),di_ c] (.d (.tup [])) 1 [(0,.dat 1 (g.map (eI .i64)))] 1 (q9j k a 0 (a.length : Int) c g f)<|q6<|qc ?_
 obtain rfl:=someE b
 exact ⟨.inl ee,_,ee,wkA [] [] []⟩
theorem q71 (c : List Int) (r : (Nat × Nat) × List Int) (g : q33  c = some r) : EvCall Tryz.prog tab 111 [.hs 0 1 0 c.length] [(0,.dat 1 (c.map (eI .i64)))] 1 (.hs 0 1 r.1.1 r.1.2) [(0,.dat 1 (r.2.map (eI .i64)))] 1:=by
 unfold q33 at g
 refine q14 Tryz.func111 ee (by kernel_rfl) (by kernel_rfl) ee<|q7<|q0<|as_ ee<|q6<|q7<|q7<|q0<|mv_ ee<|v_ (di_ (c.length : Int)) ee<|v_ (.d (.bool (decide ((c.length : Int) < 2)))) ee<|q6 ?_
 refine qb ee g (fun _ g=>?_) (fun _ g=>?_)
 ·refine q7<|q0<|mv_ ee<|as_ ee<|q6<|qj ?_
  obtain rfl:=someE g
  exact ⟨.inr ee,_,ee,wkA [] [] []⟩
 refine qd<|q7<|q7<|q0<|as_ ee<|q6 ?_
 obtain ⟨p,ae,g⟩:=bindE g
 refine qk (fun m=>.inl m = p) (fun (m : Unit)=>⟨[(0,.hs 0 1 0 c.length)],[(0,.dat 1 (c.map (eI .i64)))],1⟩) (by simp) ?_ ?_
 ·refine qn (qy c) (fun (l : Int)=>⟨[(0,.hs 0 1 0 c.length),(3,di_ l)],[(0,.dat 1 (c.map (eI .i64)))],1⟩) 1 p ae (wkA [] [] []) ?_
  intro l ak a
  unfold qy at a
  refine q7<|q7<|q0<|mv_ ee<|mv_ ee<|v_ (di_ (c.length : Int)) ee<|v_ (.d (.bool (decide (l < (c.length : Int))))) ee<|q6 ?_
  refine qb ee a (fun _ a=>?_) (fun _ a=>?_)
  ·refine qd<|q7<|qh<|q7<|qg [(some [],[]),(some [0],[]),(some [],[]),(some [],[]),(some [],[]),(some [],[]),(some [0],[]),(some [],[]),(some [],[]),(some [],[])] (by kernel_rfl)<|mv_ ee<|mv_ ee ?_
   obtain ⟨q,s,a⟩:=bindE a
   refine qi s ee ee ee ee ee ee ee<|qp (di_ q) s ee ee ee ee ee ee<|mv_ ee<|mv_ ee<|v_ (.d (i_ (w64 (l - 1)))) ee ?_
   obtain ⟨t,u,a⟩:=bindE a
   refine qi u ee ee ee ee ee ee ee<|qp (di_ t) u ee ee ee ee ee ee<|v_ (db_ (q == t)) ee<|q6 ?_
   refine qb ee a (fun _ a=>?_) (fun _ a=>?_)
   ·refine q7<|q0<|mv_ ee<|mv_ ee ?_
    obtain ⟨af,ag,a⟩:=bindE a
    refine qew ag ee ee ee ee ee (qcy ee) (fun _=>ee)<|as_ ee<|q6<|q7<|q7<|q0<|as_ ee<|q6 ?_
    obtain ⟨v,ah,a⟩:=bindE a
    refine qk (fun h=>h = v) (fun (h : Int × List Int)=>⟨[(0,.hs 0 1 0 h.2.length),(3,di_ h.1)],[(0,.dat 1 (h.2.map (eI .i64)))],1⟩) (by simp) ?_ ?_
    ·refine qn (q1p) (fun (b : Int × (Nat × Nat) × Int × List Int)=>⟨[(0,.hs 0 1 0 b.2.2.2.length),(3,di_ b.1),(4,.hs 0 1 b.2.1.1 b.2.1.2),(5,di_ b.2.2.1)],[(0,.dat 1 (b.2.2.2.map (eI .i64)))],1⟩) (l,af,1,c) v ah (wkA [] [] []) ?_
     intro b al j
     unfold q1p at j
     refine q7<|q7<|q0<|mv_ ee<|mv_ ee<|v_ (di_ (b.2.1.2 : Int)) ee<|v_ (.d (.bool (decide (b.2.2.1 < (b.2.1.2 : Int))))) ee<|q6 ?_
     refine qb ee j (fun _ j=>?_) (fun _ j=>?_)
     ·refine qd<|q7 ?_
      obtain ⟨ai,f,j⟩:=bindE j
      refine qk (fun k=>k = ai) (fun (k : Int × (Nat × Nat) × List Int)=>⟨[(0,.hs 0 1 0 k.2.2.length),(3,di_ k.1),(4,.hs 0 1 k.2.1.1 k.2.1.2),(5,di_ b.2.2.1)],[(0,.dat 1 (k.2.2.map (eI .i64)))],1⟩) (by simp) ?_ ?_
      ·refine q7<|qg [(some [],[]),(some [0],[]),(some [],[]),(some [],[]),(some [],[]),(some [],[]),(some [0],[]),(some [],[]),(some [],[]),(some [],[])] (by kernel_rfl)<|mv_ ee<|mv_ ee ?_
       obtain ⟨x,y,f⟩:=bindE f
       refine qml y ee ee ee ee ee ee<|qp (di_ x) (qhq y) ee ee ee ee ee ee<|mv_ ee<|mv_ ee<|v_ (.d (i_ (w64 (b.2.2.1 - 1)))) ee ?_
       obtain ⟨z,aa,f⟩:=bindE f
       refine qml aa ee ee ee ee ee ee<|qp (di_ z) (qhq aa) ee ee ee ee ee ee<|v_ (db_ (x != z)) ee<|q6 ?_
       refine qb ee f (fun _ f=>?_) (fun _ f=>?_)
       ·refine q7<|q0<|mv_ ee<|mv_ ee<|mv_ ee<|mv_ ee ?_
        obtain ⟨n,ab,f⟩:=bindE f
        refine qml ab ee ee ee ee ee ee<|qp (di_ n) (qhq ab) ee ee ee ee ee ee ?_
        obtain ⟨am,ac,f⟩:=bindE f
        refine qi ac ee ee ee ee ee ee ee<|q12 (ds:=[i_ n]) n ac ee ee ee ee ee ee ee ee (leb ee) ee<|q6<|q0<|mv_ ee<|v_ (.d (i_ (w64 (b.1 + 1)))) ee<|as_ ee<|q6<|qc ?_
        obtain rfl:=someE f
        exact ⟨_,ee,wkE [] [] [] ee ⟨⟨_,ee,q10 (by simp) ee (by decide) (ltd ee)⟩,⟨_,ee,.d (.refl _)⟩,⟨_,ee,.hs ee (by decide) (ltd ee)⟩,⟨_,ee,.d (.refl _)⟩,trivial⟩ ⟨⟨ltd ee,.inr ⟨by decide,_,ee,.dat _ _⟩⟩,trivial⟩⟩
       refine qd<|qc ?_
       obtain rfl:=someE f
       exact ⟨_,ee,wkA [] [] []⟩
      intro k hb
      subst hb
      refine q0<|mv_ ee<|v_ (.d (i_ (w64 (b.2.2.1 + 1)))) ee<|as_ ee<|q6<|qc ?_
      exact ⟨_,(Option.some.inj j).symm,wkA [] [] []⟩
     refine qm ?_
     refine ⟨_,(Option.some.inj j).symm,fun hm=>?_⟩
     subst hm
     exact ⟨_,ee,wkA [] [] []⟩
    intro h hb
    subst hb
    refine q7<|q0<|mv_ ee<|mv_ ee ?_
    obtain ⟨ad,o,a⟩:=bindE a
    refine qew o ee ee ee ee ee (qcy ee) (fun _=>ee)<|qv6 (w:=ad) (xs:=h.2) (enc:=(eI .i64)) 0 (qb2 o) ee ee ee ee ee ee ee ?_
    have an:=@qmk _ h.2 ad 0 (qb2 o)
    refine q6<|q7<|q0<|mv_ ee<|mv_ ee ?_
    obtain ⟨ao,aj,a⟩:=bindE a
    refine qew aj ee ee ee ee ee (fun _=>ee) (qcy ee)<|as_ ee<|q6<|qj ?_
    refine ⟨_,(Option.some.inj a).symm,fun hm=>?_⟩
    subst hm
    obtain rfl:=someE g
    exact ⟨.inr ee,_,ee,wkA [] [] []⟩
   refine qd<|qc<|qr<|q0<|mv_ ee<|v_ (.d (i_ (w64 (l + 1)))) ee<|as_ ee<|q6<|qc ?_
   exact ⟨_,(Option.some.inj a).symm,wkA [] [] []⟩
  refine qm ?_
  refine ⟨_,(Option.some.inj a).symm,fun hm=>?_⟩
  subst hm
  exact ⟨_,ee,wkA [] [] []⟩
 intro m hb
 subst hb
 refine q7<|q0<|mv_ ee<|as_ ee<|q6<|qj ?_
 obtain rfl:=someE g
 exact ⟨.inr ee,_,ee,wkA [] [] []⟩
theorem q87 (c : List api_Rect) (j : api_Rect→Option Bool) (p1F : FuncId) (p1C : List DV) (p1Ok : ∀ (f : api_Rect) (r : Bool),j f = some r→Pure Tryz.prog tab p1F ([.agg [i_ f.X0,i_ f.Y0,i_ f.X1,i_ f.Y1]] ++ p1C) (.bool r)) (r : Int) (g : q46 c j = some r) : Pure Tryz.prog tab 134 [.sl 4 (c.map q9),.fn p1F p1C] (i_ r):=by
 unfold q46 at g
 refine ql Tryz.func134 ee (by kernel_rfl) (by kernel_rfl) ee<|q7<|q0<|as_ ee<|q6<|q7<|q7<|q0<|mv_ ee<|q15 ee ee ee ee<|mv_ ee<|q6 ?_
 obtain ⟨l,m,g⟩:=bindE g
 refine qk (fun k=>.inl k = l) (fun (k : Unit)=>⟨[],[],0⟩) (by simp) ?_ ?_
 ·refine qn (q1j c j) (fun (h : Int)=>⟨[(0,.d (.sl 4 (c.map q9))),(1,.d (.fn p1F p1C)),(7,di_ (c.length : Int)),(8,di_ h)],[],0⟩) 0 l m (wkA [] [] []) ?_
  intro h q a
  unfold q1j at a
  refine q7<|q0<|v_ (.d (.bool (decide (h < (c.length : Int))))) ee<|q6<|q7 ?_
  refine qb ee a (fun _ a=>?_) (fun _ a=>?_)
  ·refine qd<|q7<|qh<|q7<|q0<|mv_ ee<|as_ ee<|q6<|q7<|q0<|mv_ ee<|mv_ ee<|mv_ ee ?_
   obtain ⟨b,n,a⟩:=bindE a
   refine qv (enc:=q9) n ee ee ee ee ee ee<|v_ (.d (.agg [i_ b.X0,i_ b.Y0,i_ b.X1,i_ b.Y1])) ee ?_
   obtain ⟨o,p,a⟩:=bindE a
   refine q66 [.d (.agg [i_ b.X0,i_ b.Y0,i_ b.X1,i_ b.Y1])] (p1Ok b o p) ee ee ee (.inl ee)<|q6 ?_
   refine qb ee a (fun _ a=>?_) (fun _ a=>?_)
   ·refine q7<|q0<|mv_ ee<|as_ ee<|q6<|qj ?_
    refine ⟨_,(Option.some.inj a).symm,fun hm=>?_⟩
    subst hm
    obtain rfl:=someE g
    exact finD (.inr ee) (v:=(di_ h)) ee ee (.refl _)
   refine qd<|qc<|qr<|q0<|v_ (.d (i_ (w64 (h + 1)))) ee<|mv_ ee<|q6<|qc ?_
   exact ⟨_,(Option.some.inj a).symm,wkA [] [] []⟩
  refine qm ?_
  refine ⟨_,(Option.some.inj a).symm,fun hm=>?_⟩
  subst hm
  exact ⟨_,ee,wkA [] [] []⟩
 intro k hb
 subst hb
 refine q7<|q0<|as_ ee<|q6<|qj ?_
 obtain rfl:=someE g
 exact finD (.inr ee) (v:=(di_ (-1))) ee ee (.refl _)
theorem q7g (b : List api_Rect) (f : api_Rect→Option Bool) (p1F : FuncId) (p1C : List DV) (p1Ok : ∀ (a : api_Rect) (r : Bool),f a = some r→Pure Tryz.prog tab p1F ([.agg [i_ a.X0,i_ a.Y0,i_ a.X1,i_ a.Y1]] ++ p1C) (.bool r)) (r : Bool) (c : q39 b f = some r) : Pure Tryz.prog tab 113 [.sl 4 (b.map q9),.fn p1F p1C] (.bool r):=by
 unfold q39 at c
 refine ql Tryz.func113 ee (by kernel_rfl) (by kernel_rfl) ee<|q7<|q0<|as_ ee<|q6<|q7<|q0<|mv_ ee<|mv_ ee ?_
 obtain ⟨g,h,c⟩:=bindE c
 refine qu [.d (.sl 4 (b.map q9)),.d (.fn p1F p1C)] (q87 b f p1F p1C p1Ok g h) ee ee ee (.inl ee)<|v_ (.d (.bool (decide (g ≥ 0)))) ee<|as_ ee<|q6<|qj ?_
 obtain rfl:=someE c
 exact finD (.inr ee) (v:=.d (.bool (decide (g ≥ 0)))) ee ee (.refl _)
theorem q93 (a : Int) (r : Bool) (c : q68 a = some r) : Pure Tryz.prog tab 129 [i_ a] (.bool r):=by
 unfold q68 at c
 refine ql Tryz.func129 ee (by kernel_rfl) (by kernel_rfl) ee<|q7<|q0<|as_ ee<|q6<|q7<|q0<|mv_ ee<|v_ (.d (.bool (decide (a ≥ (-1000000))))) ee ?_
 obtain ⟨f,b,c⟩:=bindE c
 refine qo 4 (fun A st=>∃ (g h j : V),st = A [(8,db_ f),(7,j),(6,h),(5,g)]) ?_ ?_
 ·refine qs ee ee b (fun b=>?_) (fun b=>?_)
  ·refine mv_ ee<|v_ (.d (.bool (decide (a≤1000000)))) ee<|v_ (.d (.bool (decide (a≤1000000)))) ee<|q6 ?_
   obtain rfl:=someE b
   exact ⟨_,_,_,ee⟩
  refine q8 ee<|q8 ee<|v_ (db_ false) ee<|q6 ?_
  obtain rfl:=someE b
  exact ⟨_,_,_,ee⟩
 rintro _ ⟨g,h,j,rfl⟩
 refine as_ ee<|q6<|qj ?_
 obtain rfl:=someE c
 exact finD (.inr ee) (v:=(db_ f)) ee ee (.refl _)
theorem qj9 (a : api_Rect) (r : Bool) (b : q8e a = some r) : Pure Tryz.prog tab 107 [.agg [i_ a.X0,i_ a.Y0,i_ a.X1,i_ a.Y1]] (.bool r):=by
 unfold q8e at b
 refine ql Tryz.func107 ee (by kernel_rfl) (by kernel_rfl) ee<|q7<|q0<|q3s (.ref 0 4 0 0) (.dat 4 [[i_ a.X0,i_ a.Y0,i_ a.X1,i_ a.Y1]]) ee<|as_ ee<|q6<|q7<|q0<|v_ (.ref 0 4 0 0) ee<|v_ (di_ a.X0) ee<|v_ (.ref 0 4 0 2) ee<|v_ (di_ a.X1) ee<|v_ (.d (.bool (decide (a.X0 < a.X1)))) ee ?_
 obtain ⟨c1,j,b⟩:=bindE b
 refine qo 7 (fun A st=>∃ (k l m n o p : V),st = A [(14,db_ c1),(13,p),(12,o),(11,n),(10,m),(9,l),(8,k)]) ?_ ?_
 ·refine qs ee ee j (fun j=>?_) (fun j=>?_)
  ·refine v_ (.ref 0 4 0 1) ee<|v_ (di_ a.Y0) ee<|v_ (.ref 0 4 0 3) ee<|v_ (di_ a.Y1) ee<|v_ (.d (.bool (decide (a.Y0 < a.Y1)))) ee<|v_ (.d (.bool (decide (a.Y0 < a.Y1)))) ee<|q6 ?_
   obtain rfl:=someE j
   exact ⟨_,_,_,_,_,_,ee⟩
  refine q8 ee<|q8 ee<|q8 ee<|q8 ee<|q8 ee<|v_ (db_ false) ee<|q6 ?_
  obtain rfl:=someE j
  exact ⟨_,_,_,_,_,_,ee⟩
 rintro _ ⟨k,l,m,n,o,p,rfl⟩
 obtain ⟨ao,c,b⟩:=bindE b
 refine qo 5 (fun A st=>∃ (q s t u : V),st = A [(19,db_ ao),(18,u),(17,t),(16,s),(15,q)]) ?_ ?_
 ·refine qs ee ee c (fun c=>?_) (fun c=>?_)
  ·refine v_ (.ref 0 4 0 0) ee<|v_ (di_ a.X0) ee ?_
   obtain ⟨w,ap,c⟩:=bindE c
   refine qu [di_ a.X0] (q93 a.X0 w ap) ee ee ee (.inl ee)<|v_ (db_ w) ee<|q6 ?_
   obtain rfl:=someE c
   exact ⟨_,_,_,_,ee⟩
  refine q8 ee<|q8 ee<|q8 ee<|v_ (db_ false) ee<|q6 ?_
  obtain rfl:=someE c
  exact ⟨_,_,_,_,ee⟩
 rintro _ ⟨q,s,t,u,rfl⟩
 obtain ⟨aq,f,b⟩:=bindE b
 refine qo 5 (fun A st=>∃ (x y z aa : V),st = A [(24,db_ aq),(23,aa),(22,z),(21,y),(20,x)]) ?_ ?_
 ·refine qs ee ee f (fun f=>?_) (fun f=>?_)
  ·refine v_ (.ref 0 4 0 2) ee<|v_ (di_ a.X1) ee ?_
   obtain ⟨ab,ar,f⟩:=bindE f
   refine qu [di_ a.X1] (q93 a.X1 ab ar) ee ee ee (.inl ee)<|v_ (db_ ab) ee<|q6 ?_
   obtain rfl:=someE f
   exact ⟨_,_,_,_,ee⟩
  refine q8 ee<|q8 ee<|q8 ee<|v_ (db_ false) ee<|q6 ?_
  obtain rfl:=someE f
  exact ⟨_,_,_,_,ee⟩
 rintro _ ⟨x,y,z,aa,rfl⟩
 obtain ⟨as,g,b⟩:=bindE b
 refine qo 5 (fun A st=>∃ (ac ad ae af : V),st = A [(29,db_ as),(28,af),(27,ae),(26,ad),(25,ac)]) ?_ ?_
 ·refine qs ee ee g (fun g=>?_) (fun g=>?_)
  ·refine v_ (.ref 0 4 0 1) ee<|v_ (di_ a.Y0) ee ?_
   obtain ⟨ag,au,g⟩:=bindE g
   refine qu [di_ a.Y0] (q93 a.Y0 ag au) ee ee ee (.inl ee)<|v_ (db_ ag) ee<|q6 ?_
   obtain rfl:=someE g
   exact ⟨_,_,_,_,ee⟩
  refine q8 ee<|q8 ee<|q8 ee<|v_ (db_ false) ee<|q6 ?_
  obtain rfl:=someE g
  exact ⟨_,_,_,_,ee⟩
 rintro _ ⟨ac,ad,ae,af,rfl⟩
 obtain ⟨ah,h,b⟩:=bindE b
 refine qo 5 (fun A st=>∃ (ai aj ak al : V),st = A [(34,db_ ah),(33,al),(32,ak),(31,aj),(30,ai)]) ?_ ?_
 ·refine qs ee ee h (fun h=>?_) (fun h=>?_)
  ·refine v_ (.ref 0 4 0 3) ee<|v_ (di_ a.Y1) ee ?_
   obtain ⟨am,av,h⟩:=bindE h
   refine qu [di_ a.Y1] (q93 a.Y1 am av) ee ee ee (.inl ee)<|v_ (db_ am) ee<|q6 ?_
   obtain rfl:=someE h
   exact ⟨_,_,_,_,ee⟩
  refine q8 ee<|q8 ee<|q8 ee<|v_ (db_ false) ee<|q6 ?_
  obtain rfl:=someE h
  exact ⟨_,_,_,_,ee⟩
 rintro _ ⟨ai,aj,ak,al,rfl⟩
 refine as_ ee<|q6<|qj ?_
 obtain rfl:=someE b
 exact finD (.inr ee) (v:=(db_ ah)) ee ee (.refl _)
theorem qi9 (a : api_Rect) (r : Bool) (b : q5d a = some r) : Pure Tryz.prog tab 114 [.agg [i_ a.X0,i_ a.Y0,i_ a.X1,i_ a.Y1]] (.bool r):=by
 unfold q5d at b
 refine ql Tryz.func114 ee (by kernel_rfl) (by kernel_rfl) ee<|q7<|q0<|q3s (.ref 0 4 0 0) (.dat 4 [[i_ a.X0,i_ a.Y0,i_ a.X1,i_ a.Y1]]) ee<|as_ ee<|q6<|q7<|q0<|v_ (.d (.agg [i_ a.X0,i_ a.Y0,i_ a.X1,i_ a.Y1])) ee ?_
 obtain ⟨c,f,b⟩:=bindE b
 refine qu [.d (.agg [i_ a.X0,i_ a.Y0,i_ a.X1,i_ a.Y1])] (qj9 a c f) ee ee ee (.inl ee)<|v_ (db_ (!c)) ee<|as_ ee<|q6<|qj ?_
 obtain rfl:=someE b
 exact finD (.inr ee) (v:=(db_ (!c))) ee ee (.refl _)
theorem q88 (b : List api_Span) (h : api_Span→Option Bool) (p1F : FuncId) (p1C : List DV) (p1Ok : ∀ (j : api_Span) (r : Bool),h j = some r→Pure Tryz.prog tab p1F ([.agg [i_ j.Lo,i_ j.Hi]] ++ p1C) (.bool r)) (r : Int) (c : q3l b h = some r) : Pure Tryz.prog tab 157 [.sl 2 (b.map qf),.fn p1F p1C] (i_ r):=by
 unfold q3l at c
 refine ql Tryz.func157 ee (by kernel_rfl) (by kernel_rfl) ee<|q7<|q0<|as_ ee<|q6<|q7<|q7<|q0<|mv_ ee<|q15 ee ee ee ee<|mv_ ee<|q6 ?_
 obtain ⟨l,m,c⟩:=bindE c
 refine qk (fun k=>.inl k = l) (fun (k : Unit)=>⟨[],[],0⟩) (by simp) ?_ ?_
 ·refine qn (q17 b h) (fun (f : Int)=>⟨[(0,.d (.sl 2 (b.map qf))),(1,.d (.fn p1F p1C)),(7,di_ (b.length : Int)),(8,di_ f)],[],0⟩) 0 l m (wkA [] [] []) ?_
  intro f q a
  unfold q17 at a
  refine q7<|q0<|v_ (.d (.bool (decide (f < (b.length : Int))))) ee<|q6<|q7 ?_
  refine qb ee a (fun _ a=>?_) (fun _ a=>?_)
  ·refine qd<|q7<|qh<|q7<|q0<|mv_ ee<|as_ ee<|q6<|q7<|q0<|mv_ ee<|mv_ ee<|mv_ ee ?_
   obtain ⟨g,n,a⟩:=bindE a
   refine qv (enc:=qf) n ee ee ee ee ee ee<|v_ (.d (.agg [i_ g.Lo,i_ g.Hi])) ee ?_
   obtain ⟨o,p,a⟩:=bindE a
   refine q66 [.d (.agg [i_ g.Lo,i_ g.Hi])] (p1Ok g o p) ee ee ee (.inl ee)<|q6 ?_
   refine qb ee a (fun _ a=>?_) (fun _ a=>?_)
   ·refine q7<|q0<|mv_ ee<|as_ ee<|q6<|qj ?_
    refine ⟨_,(Option.some.inj a).symm,fun hm=>?_⟩
    subst hm
    obtain rfl:=someE c
    exact finD (.inr ee) (v:=(di_ f)) ee ee (.refl _)
   refine qd<|qc<|qr<|q0<|v_ (.d (i_ (w64 (f + 1)))) ee<|mv_ ee<|q6<|qc ?_
   exact ⟨_,(Option.some.inj a).symm,wkA [] [] []⟩
  refine qm ?_
  refine ⟨_,(Option.some.inj a).symm,fun hm=>?_⟩
  subst hm
  exact ⟨_,ee,wkA [] [] []⟩
 intro k hb
 subst hb
 refine q7<|q0<|as_ ee<|q6<|qj ?_
 obtain rfl:=someE c
 exact finD (.inr ee) (v:=(di_ (-1))) ee ee (.refl _)
theorem q7h (a : List api_Span) (c : api_Span→Option Bool) (p1F : FuncId) (p1C : List DV) (p1Ok : ∀ (f : api_Span) (r : Bool),c f = some r→Pure Tryz.prog tab p1F ([.agg [i_ f.Lo,i_ f.Hi]] ++ p1C) (.bool r)) (r : Bool) (b : q3a a c = some r) : Pure Tryz.prog tab 140 [.sl 2 (a.map qf),.fn p1F p1C] (.bool r):=by
 unfold q3a at b
 refine ql Tryz.func140 ee (by kernel_rfl) (by kernel_rfl) ee<|q7<|q0<|as_ ee<|q6<|q7<|q0<|mv_ ee<|mv_ ee ?_
 obtain ⟨g,h,b⟩:=bindE b
 refine qu [.d (.sl 2 (a.map qf)),.d (.fn p1F p1C)] (q88 a c p1F p1C p1Ok g h) ee ee ee (.inl ee)<|v_ (.d (.bool (decide (g ≥ 0)))) ee<|as_ ee<|q6<|qj ?_
 obtain rfl:=someE b
 exact finD (.inr ee) (v:=.d (.bool (decide (g ≥ 0)))) ee ee (.refl _)
theorem qlg (a : api_Span) (r : Bool) (b : span_valid a = some r) : Pure Tryz.prog tab 142 [.agg [i_ a.Lo,i_ a.Hi]] (.bool r):=by
 unfold span_valid at b
 refine ql Tryz.func142 ee (by kernel_rfl) (by kernel_rfl) ee<|q7<|q0<|q3s (.ref 0 2 0 0) (.dat 2 [[i_ a.Lo,i_ a.Hi]]) ee<|as_ ee<|q6<|q7<|q0<|v_ (.ref 0 2 0 0) ee<|v_ (di_ a.Lo) ee<|v_ (.ref 0 2 0 1) ee<|v_ (di_ a.Hi) ee<|v_ (.d (.bool (decide (a.Lo < a.Hi)))) ee ?_
 obtain ⟨q,c,b⟩:=bindE b
 refine qo 5 (fun A st=>∃ (g h j k : V),st = A [(12,db_ q),(11,k),(10,j),(9,h),(8,g)]) ?_ ?_
 ·refine qs ee ee c (fun c=>?_) (fun c=>?_)
  ·refine v_ (.ref 0 2 0 0) ee<|v_ (di_ a.Lo) ee<|v_ (.d (.bool (decide (a.Lo ≥ (-1000000))))) ee<|v_ (.d (.bool (decide (a.Lo ≥ (-1000000))))) ee<|q6 ?_
   obtain rfl:=someE c
   exact ⟨_,_,_,_,ee⟩
  refine q8 ee<|q8 ee<|q8 ee<|v_ (db_ false) ee<|q6 ?_
  obtain rfl:=someE c
  exact ⟨_,_,_,_,ee⟩
 rintro _ ⟨g,h,j,k,rfl⟩
 obtain ⟨l,f,b⟩:=bindE b
 refine qo 5 (fun A st=>∃ (m n o p : V),st = A [(17,db_ l),(16,p),(15,o),(14,n),(13,m)]) ?_ ?_
 ·refine qs ee ee f (fun f=>?_) (fun f=>?_)
  ·refine v_ (.ref 0 2 0 1) ee<|v_ (di_ a.Hi) ee<|v_ (.d (.bool (decide (a.Hi≤1000000)))) ee<|v_ (.d (.bool (decide (a.Hi≤1000000)))) ee<|q6 ?_
   obtain rfl:=someE f
   exact ⟨_,_,_,_,ee⟩
  refine q8 ee<|q8 ee<|q8 ee<|v_ (db_ false) ee<|q6 ?_
  obtain rfl:=someE f
  exact ⟨_,_,_,_,ee⟩
 rintro _ ⟨m,n,o,p,rfl⟩
 refine as_ ee<|q6<|qj ?_
 obtain rfl:=someE b
 exact finD (.inr ee) (v:=(db_ l)) ee ee (.refl _)
theorem qjv (a : api_Span) (r : Bool) (b : qay a = some r) : Pure Tryz.prog tab 141 [.agg [i_ a.Lo,i_ a.Hi]] (.bool r):=by
 unfold qay at b
 refine ql Tryz.func141 ee (by kernel_rfl) (by kernel_rfl) ee<|q7<|q0<|q3s (.ref 0 2 0 0) (.dat 2 [[i_ a.Lo,i_ a.Hi]]) ee<|as_ ee<|q6<|q7<|q0<|v_ (.d (.agg [i_ a.Lo,i_ a.Hi])) ee ?_
 obtain ⟨c,f,b⟩:=bindE b
 refine qu [.d (.agg [i_ a.Lo,i_ a.Hi])] (qlg a c f) ee ee ee (.inl ee)<|v_ (db_ (!c)) ee<|as_ ee<|q6<|qj ?_
 obtain rfl:=someE b
 exact finD (.inr ee) (v:=(db_ (!c))) ee ee (.refl _)
theorem qjw (a : span_end) (b : span_end) (r : Int) (c : q98 a b = some r) : Pure Tryz.prog tab 165 [.agg [i_ a.at_,i_ a.list_,i_ a.by_],.agg [i_ b.at_,i_ b.list_,i_ b.by_]] (i_ r):=by
 unfold q98 at c
 refine ql Tryz.func165 ee (by kernel_rfl) (by kernel_rfl) ee<|q7<|q0<|q3s (.ref 0 3 0 0) (.dat 3 [[i_ a.at_,i_ a.list_,i_ a.by_]]) ee<|q3s (.ref 1 3 0 0) (.dat 3 [[i_ b.at_,i_ b.list_,i_ b.by_]]) ee<|as_ ee<|q6<|q7<|q0<|v_ (.ref 0 3 0 0) ee<|v_ (di_ a.at_) ee<|v_ (.ref 1 3 0 0) ee<|v_ (di_ b.at_) ee<|v_ (.d (i_ (w64 (a.at_ - b.at_)))) ee<|as_ ee<|q6<|qj ?_
 obtain rfl:=someE c
 exact finD (.inr ee) (v:=.d (i_ (w64 (a.at_ - b.at_)))) ee ee (.refl _)
theorem q72 (p : span_end→span_end→Option Int) (q1F : FuncId) (q1C : List DV) (q1Ok : ∀ (q : span_end) (s : span_end) (r : Int),p q s = some r→Pure Tryz.prog tab q1F ([.agg [i_ q.at_,i_ q.list_,i_ q.by_],.agg [i_ s.at_,i_ s.list_,i_ s.by_]] ++ q1C) (i_ r)) (t : List span_end) (c : Int) (j : Int) (r : List span_end) (u : q2k p t c j = some r) : EvCall Tryz.prog tab 170 [.hs 0 3 0 t.length,di_ c,di_ j,.d (.fn q1F q1C)] [(0,.dat 3 (t.map qe))] 1 (.d (.tup [])) [(0,.dat 3 (r.map qe))] 1:=by
 unfold q2k at u
 refine q14 Tryz.func170 ee (by kernel_rfl) (by kernel_rfl) ee<|q7<|q0<|mv_ ee<|v_ (.d (i_ (w64 (c + 1)))) ee<|as_ ee<|q6 ?_
 obtain ⟨aq,ar,u⟩:=bindE u
 refine qh<|qn (q23 j c p) (fun (f : Int × List span_end)=>⟨[(0,.hs 0 3 0 f.2.length),(1,di_ c),(2,di_ j),(3,.d (.fn q1F q1C)),(8,di_ f.1)],[(0,.dat 3 (f.2.map qe))],1⟩) (w64 (c + 1),t) aq ar (wkA [] [] []) ?_
 intro f ay h
 unfold q23 at h
 refine q7<|q7<|q0<|mv_ ee<|mv_ ee<|v_ (.d (.bool (decide (f.1 < j)))) ee<|q6 ?_
 refine qb ee h (fun _ h=>?_) (fun _ h=>?_)
 ·refine qd<|q7 ?_
  obtain ⟨as,v,h⟩:=bindE h
  refine qk (fun o=>o = as) (fun (o : List span_end)=>⟨[(0,.hs 0 3 0 o.length),(1,di_ c),(2,di_ j),(3,.d (.fn q1F q1C)),(8,di_ f.1)],[(0,.dat 3 (o.map qe))],1⟩) (by simp) ?_ ?_
  ·refine q7<|q0<|mv_ ee<|as_ ee<|q6 ?_
   obtain ⟨au,av,v⟩:=bindE v
   refine qh<|qn (q22 c p) (fun (g : Int × List span_end)=>⟨[(0,.hs 0 3 0 g.2.length),(1,di_ c),(2,di_ j),(3,.d (.fn q1F q1C)),(8,di_ f.1),(9,di_ g.1)],[(0,.dat 3 (g.2.map qe))],1⟩) (f.1,f.2) au av (wkA [] [] []) ?_
   intro g az a
   unfold q22 at a
   refine q7<|q7<|qg [(some [],[]),(some [],[]),(some [],[]),(some [0],[]),(some [],[]),(some [],[]),(some [],[]),(some [],[]),(some [0],[]),(some [],[]),(some [],[]),(some [],[]),(some [],[]),(some [],[]),(some [],[]),(some [],[]),(some [],[])] (by kernel_rfl)<|mv_ ee<|mv_ ee<|v_ (.d (.bool (decide (g.1 > c)))) ee ?_
   obtain ⟨aw,b,a⟩:=bindE a
   refine qo 14 (fun A st=>∃ (x y z aa ab ac ad ae af ag ah ai aj : V),st = A [(34,db_ aw),(33,aj),(32,ai),(31,ah),(30,ag),(29,af),(28,ae),(27,ad),(26,ac),(25,ab),(24,aa),(23,z),(22,y),(21,x)]) ?_ ?_
   ·refine qs ee ee b (fun b=>?_) (fun b=>?_)
    ·refine mv_ ee<|mv_ ee<|mv_ ee ?_
     obtain ⟨k,ak,b⟩:=bindE b
     refine qi ak ee ee ee ee ee ee ee<|qp (.d (.agg [i_ k.at_,i_ k.list_,i_ k.by_])) ak ee ee ee ee ee ee<|mv_ ee<|mv_ ee<|v_ (.d (i_ (w64 (g.1 - 1)))) ee ?_
     obtain ⟨l,al,b⟩:=bindE b
     refine qi al ee ee ee ee ee ee ee<|qp (.d (.agg [i_ l.at_,i_ l.list_,i_ l.by_])) al ee ee ee ee ee ee ?_
     obtain ⟨w,ax,b⟩:=bindE b
     refine q66 [.d (.agg [i_ k.at_,i_ k.list_,i_ k.by_]),.d (.agg [i_ l.at_,i_ l.list_,i_ l.by_])] (q1Ok k l w ax) ee ee ee (.inl ee)<|v_ (.d (.bool (decide (w < 0)))) ee<|v_ (.d (.bool (decide (w < 0)))) ee<|q6 ?_
     obtain rfl:=someE b
     exact ⟨_,_,_,_,_,_,_,_,_,_,_,_,_,ee⟩
    refine q8 ee<|q8 ee<|q8 ee<|q8 ee<|q8 ee<|q8 ee<|q8 ee<|q8 ee<|q8 ee<|q8 ee<|q8 ee<|q8 ee<|v_ (db_ false) ee<|q6 ?_
    obtain rfl:=someE b
    exact ⟨_,_,_,_,_,_,_,_,_,_,_,_,_,ee⟩
   rintro _ ⟨x,y,z,aa,ab,ac,ad,ae,af,ag,ah,ai,aj,rfl⟩
   refine q6 ?_
   refine qb ee a (fun _ a=>?_) (fun _ a=>?_)
   ·refine qd<|q7<|qh<|qg [(some [0],[0]),(some [],[]),(some [0],[0]),(some [],[]),(some [0],[]),(some [],[]),(some [],[]),(some [],[]),(some [0],[]),(some [],[]),(some [],[]),(some [],[]),(some [],[]),(some [],[]),(some [],[]),(some [],[]),(some [],[]),(some [],[])] (by kernel_rfl)<|mv_ ee<|mv_ ee<|mv_ ee<|mv_ ee<|v_ (.d (i_ (w64 (g.1 - 1)))) ee<|mv_ ee<|mv_ ee<|v_ (.d (i_ (w64 (g.1 - 1)))) ee ?_
    obtain ⟨m,am,a⟩:=bindE a
    refine qi am ee ee ee ee ee ee ee<|qp (.d (.agg [i_ m.at_,i_ m.list_,i_ m.by_])) am ee ee ee ee ee ee<|mv_ ee<|mv_ ee ?_
    obtain ⟨n,an,a⟩:=bindE a
    refine qi an ee ee ee ee ee ee ee<|qp (.d (.agg [i_ n.at_,i_ n.list_,i_ n.by_])) an ee ee ee ee ee ee ?_
    obtain ⟨ba,ao,a⟩:=bindE a
    refine qi ao ee ee ee ee ee ee ee<|q12 (ds:=[i_ m.at_,i_ m.list_,i_ m.by_]) m ao ee ee ee ee ee ee ee ee (leb ee) ee ?_
    obtain ⟨bb,ap,a⟩:=bindE a
    refine qi ap (by simp) ee ee ee ee ee ee<|q12 (ds:=[i_ n.at_,i_ n.list_,i_ n.by_]) n ap ee ee ee ee ee ee ee ee (leb ee) ee<|q6<|qc<|qr<|q0<|mv_ ee<|v_ (.d (i_ (w64 (g.1 - 1)))) ee<|as_ ee<|q6<|qc ?_
    exact ⟨_,(Option.some.inj a).symm,wkE [] [] [] ee ⟨⟨_,ee,q10 (by simp) ee (by decide) (ltd ee)⟩,⟨_,ee,.d (.refl _)⟩,⟨_,ee,.d (.refl _)⟩,⟨_,ee,.d (.refl _)⟩,⟨_,ee,.d (.refl _)⟩,⟨_,ee,.d (.refl _)⟩,trivial⟩ ⟨⟨ltd ee,.inr ⟨by decide,_,ee,.dat _ _⟩⟩,trivial⟩⟩
   refine qm ?_
   refine ⟨_,(Option.some.inj a).symm,fun hm=>?_⟩
   subst hm
   obtain rfl:=someE v
   exact ⟨_,ee,wkA [] [] []⟩
  intro o hb
  subst hb
  refine q0<|mv_ ee<|v_ (.d (i_ (w64 (f.1 + 1)))) ee<|as_ ee<|q6<|qc ?_
  exact ⟨_,(Option.some.inj h).symm,wkA [] [] []⟩
 refine qm ?_
 refine ⟨_,(Option.some.inj h).symm,fun hm=>?_⟩
 subst hm
 obtain rfl:=someE u
 exact ⟨.inl ee,_,ee,wkA [] [] []⟩
theorem q5i (v : span_end→span_end→Option Int) (q1F : FuncId) (q1C : List DV) (q1Ok : ∀ (s : span_end) (t : span_end) (r : Int),v s t = some r→Pure Tryz.prog tab q1F ([.agg [i_ s.at_,i_ s.list_,i_ s.by_],.agg [i_ t.at_,i_ t.list_,i_ t.by_]] ++ q1C) (i_ r)) (u : List span_end) (w : Int) (g : Int) (c : Int) (r : List span_end) (p : q2i v u w g c = some r) : EvCall Tryz.prog tab 178 [.hs 0 3 0 u.length,di_ w,di_ g,di_ c,.d (.fn q1F q1C)] [(0,.dat 3 (u.map qe))] 1 (.d (.tup [])) [(0,.dat 3 (r.map qe))] 1:=by
 unfold q2i at p
 refine q14 Tryz.func178 ee (by kernel_rfl) (by kernel_rfl) ee<|q7<|q0<|mv_ ee<|as_ ee<|q6 ?_
 obtain ⟨az,ba,p⟩:=bindE p
 refine qh<|qn (q3b g c v) (fun (b : Int × List span_end)=>⟨[(0,.hs 0 3 0 b.2.length),(2,di_ g),(3,di_ c),(4,.d (.fn q1F q1C)),(10,di_ b.1)],[(0,.dat 3 (b.2.map qe))],1⟩) (w,u) az ba (wkA [] [] []) ?_
 intro b bf a
 unfold q3b at a
 refine qh<|q7<|q0<|mv_ ee<|v_ (.d (i_ (w64 (2 * b.1)))) ee<|v_ (.d (i_ (w64 ((w64 (2 * b.1)) + 1)))) ee<|as_ ee<|q6<|q7<|q7<|q0<|mv_ ee<|mv_ ee<|v_ (.d (.bool (decide ((w64 ((w64 (2 * b.1)) + 1)) ≥ g)))) ee<|q6 ?_
 refine qb ee a (fun _ a=>?_) (fun _ a=>?_)
 ·refine qm ?_
  refine ⟨_,(Option.some.inj a).symm,fun hm=>?_⟩
  subst hm
  obtain rfl:=someE p
  exact ⟨.inl ee,_,ee,wkA [] [] []⟩
 refine qd<|q7<|q7<|qg [(some [],[]),(some [],[]),(some [],[]),(some [0],[]),(some [],[]),(some [],[]),(some [],[]),(some [],[]),(some [],[]),(some [],[]),(some [0],[]),(some [],[]),(some [],[]),(some [],[]),(some [],[]),(some [],[]),(some [],[]),(some [],[]),(some [],[]),(some [],[]),(some [],[]),(some [],[])] (by kernel_rfl)<|mv_ ee<|v_ (.d (i_ (w64 ((w64 ((w64 (2 * b.1)) + 1)) + 1)))) ee<|mv_ ee<|v_ (.d (.bool (decide ((w64 ((w64 ((w64 (2 * b.1)) + 1)) + 1)) < g)))) ee ?_
 obtain ⟨bb,f,a⟩:=bindE a
 refine qo 18 (fun A st=>∃ (z aa ab ac ad ae af ag ah ai aj ak al am an ao ap : V),st = A [(40,db_ bb),(39,ap),(38,ao),(37,an),(36,am),(35,al),(34,ak),(33,aj),(32,ai),(31,ah),(30,ag),(29,af),(28,ae),(27,ad),(26,ac),(25,ab),(24,aa),(23,z)]) ?_ ?_
 ·refine qs ee ee f (fun f=>?_) (fun f=>?_)
  ·refine mv_ ee<|mv_ ee<|mv_ ee<|mv_ ee<|v_ (.d (i_ (w64 (c + (w64 ((w64 (2 * b.1)) + 1)))))) ee ?_
   obtain ⟨h,aq,f⟩:=bindE f
   refine qi aq ee ee ee ee ee ee ee<|qp (.d (.agg [i_ h.at_,i_ h.list_,i_ h.by_])) aq ee ee ee ee ee ee<|mv_ ee<|mv_ ee<|mv_ ee<|v_ (.d (i_ (w64 (c + (w64 ((w64 (2 * b.1)) + 1)))))) ee<|v_ (.d (i_ (w64 ((w64 (c + (w64 ((w64 (2 * b.1)) + 1)))) + 1)))) ee ?_
   obtain ⟨j,ar,f⟩:=bindE f
   refine qi ar ee ee ee ee ee ee ee<|qp (.d (.agg [i_ j.at_,i_ j.list_,i_ j.by_])) ar ee ee ee ee ee ee ?_
   obtain ⟨x,bc,f⟩:=bindE f
   refine q66 [.d (.agg [i_ h.at_,i_ h.list_,i_ h.by_]),.d (.agg [i_ j.at_,i_ j.list_,i_ j.by_])] (q1Ok h j x bc) ee ee ee (.inl ee)<|v_ (.d (.bool (decide (x < 0)))) ee<|v_ (.d (.bool (decide (x < 0)))) ee<|q6 ?_
   obtain rfl:=someE f
   exact ⟨_,_,_,_,_,_,_,_,_,_,_,_,_,_,_,_,_,ee⟩
  refine q8 ee<|q8 ee<|q8 ee<|q8 ee<|q8 ee<|q8 ee<|q8 ee<|q8 ee<|q8 ee<|q8 ee<|q8 ee<|q8 ee<|q8 ee<|q8 ee<|q8 ee<|q8 ee<|v_ (db_ false) ee<|q6 ?_
  obtain rfl:=someE f
  exact ⟨_,_,_,_,_,_,_,_,_,_,_,_,_,_,_,_,_,ee⟩
 rintro _ ⟨z,aa,ab,ac,ad,ae,af,ag,ah,ai,aj,ak,al,am,an,ao,ap,rfl⟩
 refine q6 ?_
 obtain ⟨bd,q,a⟩:=bindE a
 refine q57 (fun k=>k = bd) (fun (k : Int)=>⟨[(0,.hs 0 3 0 b.2.length),(2,di_ g),(3,di_ c),(4,.d (.fn q1F q1C)),(10,di_ b.1),(11,di_ k)],[(0,.dat 3 (b.2.map qe))],1⟩) (by simp) ?_ ?_
 ·refine qb ee q (fun _ q=>?_) (fun _ q=>?_)
  ·refine q0<|mv_ ee<|v_ (.d (i_ (w64 ((w64 ((w64 (2 * b.1)) + 1)) + 1)))) ee<|as_ ee<|q6<|qc ?_
   obtain rfl:=someE q
   exact ⟨_,ee,wkA [] [] []⟩
  refine qd<|qc ?_
  obtain rfl:=someE q
  exact ⟨_,ee,wkA [] [] []⟩
 intro k hb
 subst hb
 refine q7<|q7<|qg [(some [],[]),(some [],[]),(some [],[]),(some [0],[]),(some [],[]),(some [],[]),(some [],[]),(some [],[]),(some [],[]),(some [0],[]),(some [],[]),(some [],[]),(some [],[]),(some [],[]),(some [],[]),(some [],[])] (by kernel_rfl)<|mv_ ee<|mv_ ee<|mv_ ee<|mv_ ee<|v_ (.d (i_ (w64 (c + b.1)))) ee ?_
 obtain ⟨l,as,a⟩:=bindE a
 refine qi as ee ee ee ee ee ee ee<|qp (.d (.agg [i_ l.at_,i_ l.list_,i_ l.by_])) as ee ee ee ee ee ee<|mv_ ee<|mv_ ee<|mv_ ee<|v_ (.d (i_ (w64 (c + k)))) ee ?_
 obtain ⟨m,au,a⟩:=bindE a
 refine qi au ee ee ee ee ee ee ee<|qp (.d (.agg [i_ m.at_,i_ m.list_,i_ m.by_])) au ee ee ee ee ee ee ?_
 obtain ⟨y,be,a⟩:=bindE a
 refine q66 [.d (.agg [i_ l.at_,i_ l.list_,i_ l.by_]),.d (.agg [i_ m.at_,i_ m.list_,i_ m.by_])] (q1Ok l m y be) ee ee ee (.inl ee)<|v_ (.d (.bool (decide (y < 0)))) ee<|v_ (.d (.bool (!(decide (y < 0))))) ee<|q6 ?_
 refine qb ee a (fun _ a=>?_) (fun _ a=>?_)
 ·refine qj ?_
  refine ⟨_,(Option.some.inj a).symm,fun hm=>?_⟩
  subst hm
  obtain rfl:=someE p
  exact ⟨.inr ee,_,ee,wkA [] [] []⟩
 refine qd<|q7<|qg [(some [0],[0]),(some [],[]),(some [0],[0]),(some [],[]),(some [0],[]),(some [],[]),(some [],[]),(some [],[]),(some [],[]),(some [],[]),(some [0],[]),(some [],[]),(some [],[]),(some [],[]),(some [],[]),(some [],[]),(some [],[]),(some [],[]),(some [],[]),(some [],[]),(some [],[]),(some [],[]),(some [],[]),(some [],[])] (by kernel_rfl)<|mv_ ee<|mv_ ee<|mv_ ee<|v_ (.d (i_ (w64 (c + b.1)))) ee<|mv_ ee<|mv_ ee<|mv_ ee<|v_ (.d (i_ (w64 (c + k)))) ee<|mv_ ee<|mv_ ee<|mv_ ee<|v_ (.d (i_ (w64 (c + k)))) ee ?_
 obtain ⟨n,av,a⟩:=bindE a
 refine qi av ee ee ee ee ee ee ee<|qp (.d (.agg [i_ n.at_,i_ n.list_,i_ n.by_])) av ee ee ee ee ee ee<|mv_ ee<|mv_ ee<|mv_ ee<|v_ (.d (i_ (w64 (c + b.1)))) ee ?_
 obtain ⟨o,aw,a⟩:=bindE a
 refine qi aw ee ee ee ee ee ee ee<|qp (.d (.agg [i_ o.at_,i_ o.list_,i_ o.by_])) aw ee ee ee ee ee ee ?_
 obtain ⟨bg,ax,a⟩:=bindE a
 refine qi ax ee ee ee ee ee ee ee<|q12 (ds:=[i_ n.at_,i_ n.list_,i_ n.by_]) n ax ee ee ee ee ee ee ee ee (leb ee) ee ?_
 obtain ⟨bh,ay,a⟩:=bindE a
 refine qi ay (by simp) ee ee ee ee ee ee<|q12 (ds:=[i_ o.at_,i_ o.list_,i_ o.by_]) o ay ee ee ee ee ee ee ee ee (leb ee) ee<|q6<|q0<|mv_ ee<|as_ ee<|q6<|qc<|qr<|qc ?_
 exact ⟨_,(Option.some.inj a).symm,wkE [] [] [] ee ⟨⟨_,ee,q10 (by simp) ee (by decide) (ltd ee)⟩,⟨_,ee,.d (.refl _)⟩,⟨_,ee,.d (.refl _)⟩,⟨_,ee,.d (.refl _)⟩,⟨_,ee,.d (.refl _)⟩,trivial⟩ ⟨⟨ltd ee,.inr ⟨by decide,_,ee,.dat _ _⟩⟩,trivial⟩⟩
theorem q82 (l : span_end→span_end→Option Int) (q1F : FuncId) (q1C : List DV) (q1Ok : ∀ (o : span_end) (p : span_end) (r : Int),l o p = some r→Pure Tryz.prog tab q1F ([.agg [i_ o.at_,i_ o.list_,i_ o.by_],.agg [i_ p.at_,i_ p.list_,i_ p.by_]] ++ q1C) (i_ r)) (q : List span_end) (a : Int) (c : Int) (r : List span_end) (m : q3m l q a c = some r) : EvCall Tryz.prog tab 171 [.hs 0 3 0 q.length,di_ a,di_ c,.d (.fn q1F q1C)] [(0,.dat 3 (q.map qe))] 1 (.d (.tup [])) [(0,.dat 3 (r.map qe))] 1:=by
 unfold q3m at m
 refine q14 Tryz.func171 ee (by kernel_rfl) (by kernel_rfl) ee<|q7<|q0<|mv_ ee<|as_ ee<|q6<|q7<|q0<|as_ ee<|q6<|q7<|q0<|mv_ ee<|mv_ ee<|v_ (.d (i_ (w64 (c - a)))) ee<|as_ ee<|q6<|q7<|q7<|q0<|mv_ ee<|v_ (.d (i_ (w64 ((w64 (c - a)) - 1)))) ee<|v_ (.d (i_ (w64 (Int.tdiv (w64 ((w64 (c - a)) - 1)) 2)))) ee<|as_ ee<|q6 ?_
 obtain ⟨t,z,m⟩:=bindE m
 refine qk (fun n=>n = t) (fun (n : List span_end)=>⟨[(0,.hs 0 3 0 n.length),(3,.d (.fn q1F q1C)),(8,di_ a),(9,di_ 0),(10,.d (i_ (w64 (c - a))))],[(0,.dat 3 (n.map qe))],1⟩) (by simp) ?_ ?_
 ·refine qn (q3c l c a) (fun (g : Int × List span_end)=>⟨[(0,.hs 0 3 0 g.2.length),(3,.d (.fn q1F q1C)),(8,di_ a),(9,di_ 0),(10,.d (i_ (w64 (c - a)))),(11,di_ g.1)],[(0,.dat 3 (g.2.map qe))],1⟩) (w64 (Int.tdiv (w64 ((w64 (c - a)) - 1)) 2),q) t z (wkA [] [] []) ?_
  intro g ai h
  unfold q3c at h
  refine q7<|q7<|q0<|mv_ ee<|v_ (.d (.bool (decide (g.1 ≥ 0)))) ee<|q6 ?_
  refine qb ee h (fun _ h=>?_) (fun _ h=>?_)
  ·refine qd<|q7<|qh<|q0<|mv_ ee<|mv_ ee<|mv_ ee<|mv_ ee<|mv_ ee ?_
   obtain ⟨u,aa,h⟩:=bindE h
   obtain ⟨aj,ab,h⟩:=bindE h
   have ac:=q1a ab
   refine callG [(0,0)] [(0,0)] [.hs 0 3 0 g.2.length,di_ g.1,.d (i_ (w64 (c - a))),di_ a,.d (.fn q1F q1C)] (.d (.tup [])) 1 [(0,.dat 3 (u.map qe))] 1 (q5i l q1F q1C q1Ok g.2 g.1 (w64 (c - a)) a u aa)<|q6<|qc<|qr<|q0<|mv_ ee<|v_ (.d (i_ (w64 (g.1 - 1)))) ee<|as_ ee<|q6<|qc ?_
   exact ⟨_,(Option.some.inj h).symm,wkE [] [] [] ee ⟨⟨_,ee,q10 (by simp [ac]) ee (by decide) (ltd ee)⟩,⟨_,ee,.d (.refl _)⟩,⟨_,ee,.d (.refl _)⟩,⟨_,ee,.d (.refl _)⟩,⟨_,ee,.d (.refl _)⟩,⟨_,ee,.d (.refl _)⟩,trivial⟩ ⟨⟨ltd ee,.inr ⟨by decide,_,ee,.dat _ _⟩⟩,trivial⟩⟩
  refine qm ?_
  refine ⟨_,(Option.some.inj h).symm,fun hm=>?_⟩
  subst hm
  exact ⟨_,ee,wkA [] [] []⟩
 intro n hb
 subst hb
 refine q7<|q0<|mv_ ee<|v_ (.d (i_ (w64 ((w64 (c - a)) - 1)))) ee<|as_ ee<|q6 ?_
 obtain ⟨ad,ae,m⟩:=bindE m
 refine qh<|qn (q3d a l) (fun (f : Int × List span_end)=>⟨[(0,.hs 0 3 0 f.2.length),(3,.d (.fn q1F q1C)),(8,di_ a),(9,di_ 0),(12,di_ f.1)],[(0,.dat 3 (f.2.map qe))],1⟩) (w64 ((w64 (c - a)) - 1),n) ad ae (wkA [] [] []) ?_
 intro f ak b
 unfold q3d at b
 refine q7<|q7<|q0<|mv_ ee<|v_ (.d (.bool (decide (f.1 ≥ 0)))) ee<|q6 ?_
 refine qb ee b (fun _ b=>?_) (fun _ b=>?_)
 ·refine qd<|q7<|qh<|q7<|qg [(some [0],[0]),(some [],[]),(some [0],[0]),(some [],[]),(some [0],[]),(some [],[]),(some [],[]),(some [],[]),(some [0],[]),(some [],[]),(some [],[]),(some [],[]),(some [],[]),(some [],[]),(some [],[]),(some [],[]),(some [],[]),(some [],[]),(some [],[]),(some [],[])] (by kernel_rfl)<|mv_ ee<|mv_ ee<|mv_ ee<|mv_ ee<|mv_ ee<|v_ (.d (i_ (w64 (a + f.1)))) ee<|mv_ ee<|mv_ ee<|mv_ ee<|v_ (.d (i_ (w64 (a + f.1)))) ee ?_
  obtain ⟨j,v,b⟩:=bindE b
  refine qi v ee ee ee ee ee ee ee<|qp (.d (.agg [i_ j.at_,i_ j.list_,i_ j.by_])) v ee ee ee ee ee ee<|mv_ ee<|mv_ ee ?_
  obtain ⟨k,w,b⟩:=bindE b
  refine qi w ee ee ee ee ee ee ee<|qp (.d (.agg [i_ k.at_,i_ k.list_,i_ k.by_])) w ee ee ee ee ee ee ?_
  obtain ⟨al,x,b⟩:=bindE b
  refine qi x ee ee ee ee ee ee ee<|q12 (ds:=[i_ j.at_,i_ j.list_,i_ j.by_]) j x ee ee ee ee ee ee ee ee (leb ee) ee ?_
  obtain ⟨am,y,b⟩:=bindE b
  refine qi y (by simp) ee ee ee ee ee ee<|q12 (ds:=[i_ k.at_,i_ k.list_,i_ k.by_]) k y ee ee ee ee ee ee ee ee (leb ee) ee<|q6<|q0<|mv_ ee<|mv_ ee<|mv_ ee<|mv_ ee<|mv_ ee ?_
  obtain ⟨s,af,b⟩:=bindE b
  obtain ⟨an,ag,b⟩:=bindE b
  have ah:=q1a ag
  refine q6w [(0,0)] [(0,0)] [.hs 0 3 0 f.2.length,di_ 0,di_ f.1,di_ a,.d (.fn q1F q1C)] (.d (.tup [])) [(0,.dat 3 (s.map qe))] [(0,.dat 3 (s.map qe))] 1 (q5i l q1F q1C q1Ok ((f.2.set a.toNat j).set (w64 (a + f.1)).toNat k) 0 f.1 a s af) ee ee ee (q5q [(0,0)] [] [] ee ⟨⟨_,ee,q10 (by simp) ee (by decide) (ltd ee)⟩,⟨_,ee,.d (.refl _)⟩,⟨_,ee,.d (.refl _)⟩,⟨_,ee,.d (.refl _)⟩,⟨_,ee,.d (.refl _)⟩,trivial⟩ ⟨⟨ltd ee,.inr ⟨by decide,_,ee,.dat _ _⟩⟩,trivial⟩) (q5q [(0,0)] [] [] ee ⟨⟨_,ee,.d (.refl _)⟩,trivial⟩ ⟨⟨ltd ee,.inr ⟨by decide,_,ee,.dat _ _⟩⟩,trivial⟩) ee ⟨.inl ee,trivial⟩<|q6<|qc<|qr<|q0<|mv_ ee<|v_ (.d (i_ (w64 (f.1 - 1)))) ee<|as_ ee<|q6<|qc ?_
  exact ⟨_,(Option.some.inj b).symm,wkE [] [] [] ee ⟨⟨_,ee,q10 (by simp [ah]) ee (by decide) (ltd ee)⟩,⟨_,ee,.d (.refl _)⟩,⟨_,ee,.d (.refl _)⟩,⟨_,ee,.d (.refl _)⟩,⟨_,ee,.d (.refl _)⟩,trivial⟩ ⟨⟨ltd ee,.inr ⟨by decide,_,ee,.dat _ _⟩⟩,trivial⟩⟩
 refine qm ?_
 refine ⟨_,(Option.some.inj b).symm,fun hm=>?_⟩
 subst hm
 obtain rfl:=someE m
 exact ⟨.inl ee,_,ee,wkA [] [] []⟩
theorem q4p (j : span_end→span_end→Option Int) (q1F : FuncId) (q1C : List DV) (q1Ok : ∀ (g : span_end) (h : span_end) (r : Int),j g h = some r→Pure Tryz.prog tab q1F ([.agg [i_ g.at_,i_ g.list_,i_ g.by_],.agg [i_ h.at_,i_ h.list_,i_ h.by_]] ++ q1C) (i_ r)) (k : List span_end) (l : Int) (m : Int) (f : Int) (r : Int × Int × Int) (a : q21 j k l m f = some r) : EvCall Tryz.prog tab 181 [.d (.sl 3 (k.map qe)),di_ l,di_ m,.ref 0 1 0 0,.d (.fn q1F q1C)] [(0,.dat 1 [[i_ f]])] 1 (.d (.tup [i_ r.1,i_ r.2.1])) [(0,.dat 1 [[i_ r.2.2]])] 1:=by
 unfold q21 at a
 refine q14 Tryz.func181 ee (by kernel_rfl) (by kernel_rfl) ee<|q7<|q0<|as_ ee<|as_ ee<|q6<|q7<|q7<|qg [(some [],[]),(some [],[]),(some [],[]),(some [],[]),(some [],[]),(some [],[]),(some [],[]),(some [],[]),(some [],[]),(some [],[]),(some [],[])] (by kernel_rfl)<|mv_ ee<|mv_ ee<|mv_ ee ?_
 obtain ⟨b,o,a⟩:=bindE a
 refine qv (enc:=qe) o ee ee ee ee ee ee<|v_ (.d (.agg [i_ b.at_,i_ b.list_,i_ b.by_])) ee<|mv_ ee<|mv_ ee ?_
 obtain ⟨c,p,a⟩:=bindE a
 refine qv (enc:=qe) p ee ee ee ee ee ee<|v_ (.d (.agg [i_ c.at_,i_ c.list_,i_ c.by_])) ee ?_
 obtain ⟨n,q,a⟩:=bindE a
 refine q66 [.d (.agg [i_ b.at_,i_ b.list_,i_ b.by_]),.d (.agg [i_ c.at_,i_ c.list_,i_ c.by_])] (q1Ok b c n q) ee ee ee (.inl ee)<|v_ (.d (.bool (decide (n < 0)))) ee<|q6 ?_
 refine qb ee a (fun _ a=>?_) (fun _ a=>?_)
 ·refine q7<|q0<|mv_ ee<|v_ (.ref 0 1 0 0) ee<|v_ (di_ f) ee<|v_ (.d (i_ (w64 (f + 1)))) ee<|v_ (.ref 0 1 0 0) ee<|q3r 0 (.dat 1 [[i_ (w64 (f + 1))]]) ee<|q6<|q7<|q0<|mv_ ee<|mv_ ee<|as_ ee<|as_ ee<|q6<|qj ?_
  obtain rfl:=someE a
  exact ⟨.inr ee,_,ee,wkA [] [] []⟩
 refine qd<|q7<|q0<|mv_ ee<|mv_ ee<|as_ ee<|as_ ee<|q6<|qj ?_
 obtain rfl:=someE a
 exact ⟨.inr ee,_,ee,wkA [] [] []⟩
theorem q5p (h : span_end→span_end→Option Int) (q1F : FuncId) (q1C : List DV) (q1Ok : ∀ (j : span_end) (k : span_end) (r : Int),h j k = some r→Pure Tryz.prog tab q1F ([.agg [i_ j.at_,i_ j.list_,i_ j.by_],.agg [i_ k.at_,i_ k.list_,i_ k.by_]] ++ q1C) (i_ r)) (c : List span_end) (l : Int) (m : Int) (n : Int) (o : Int) (r : Int × Int) (f : q38 h c l m n o = some r) : EvCall Tryz.prog tab 180 [.d (.sl 3 (c.map qe)),di_ l,di_ m,di_ n,.ref 0 1 0 0,.d (.fn q1F q1C)] [(0,.dat 1 [[i_ o]])] 1 (di_ r.1) [(0,.dat 1 [[i_ r.2]])] 1:=by
 unfold q38 at f
 refine q14 Tryz.func180 ee (by kernel_rfl) (by kernel_rfl) ee<|q7<|q0<|as_ ee<|q6<|q7<|q0<|mv_ ee<|mv_ ee<|mv_ ee<|mv_ ee<|mv_ ee ?_
 obtain ⟨a,p,f⟩:=bindE f
 refine callG [(0,0)] [(0,0)] [.d (.sl 3 (c.map qe)),di_ l,di_ m,.ref 0 1 0 0,.d (.fn q1F q1C)] (.d (.tup [i_ a.1,i_ a.2.1])) 1 [(0,.dat 1 [[i_ a.2.2]])] 1 (q4p h q1F q1C q1Ok c l m o a p)<|mv_ ee<|v_ (di_ a.1) ee<|v_ (di_ a.2.1) ee<|as_ ee<|as_ ee<|q6<|q7<|q0<|mv_ ee<|mv_ ee<|mv_ ee<|mv_ ee<|mv_ ee ?_
 obtain ⟨b,q,f⟩:=bindE f
 refine callG [(0,0)] [(0,0)] [.d (.sl 3 (c.map qe)),di_ a.2.1,di_ n,.ref 0 1 0 0,.d (.fn q1F q1C)] (.d (.tup [i_ b.1,i_ b.2.1])) 1 [(0,.dat 1 [[i_ b.2.2]])] 1 (q4p h q1F q1C q1Ok c a.2.1 n a.2.2 b q)<|mv_ ee<|v_ (di_ b.1) ee<|v_ (di_ b.2.1) ee<|as_ ee<|as_ ee<|q6<|q7<|q0<|mv_ ee<|mv_ ee<|mv_ ee<|mv_ ee<|mv_ ee ?_
 obtain ⟨g,s,f⟩:=bindE f
 refine callG [(0,0)] [(0,0)] [.d (.sl 3 (c.map qe)),di_ a.1,di_ b.1,.ref 0 1 0 0,.d (.fn q1F q1C)] (.d (.tup [i_ g.1,i_ g.2.1])) 1 [(0,.dat 1 [[i_ g.2.2]])] 1 (q4p h q1F q1C q1Ok c a.1 b.1 b.2.2 g s)<|mv_ ee<|v_ (di_ g.1) ee<|v_ (di_ g.2.1) ee<|as_ ee<|as_ ee<|q6<|q7<|q0<|mv_ ee<|as_ ee<|q6<|qj ?_
 obtain rfl:=someE f
 exact ⟨.inr ee,_,ee,wkA [] [] []⟩
theorem q41 (h : span_end→span_end→Option Int) (q1F : FuncId) (q1C : List DV) (q1Ok : ∀ (b : span_end) (c : span_end) (r : Int),h b c = some r→Pure Tryz.prog tab q1F ([.agg [i_ b.at_,i_ b.list_,i_ b.by_],.agg [i_ c.at_,i_ c.list_,i_ c.by_]] ++ q1C) (i_ r)) (f : List span_end) (a : Int) (j : Int) (r : Int × Int) (g : q1b h f a j = some r) : EvCall Tryz.prog tab 179 [.d (.sl 3 (f.map qe)),di_ a,.ref 0 1 0 0,.d (.fn q1F q1C)] [(0,.dat 1 [[i_ j]])] 1 (di_ r.1) [(0,.dat 1 [[i_ r.2]])] 1:=by
 unfold q1b at g
 refine q14 Tryz.func179 ee (by kernel_rfl) (by kernel_rfl) ee<|q7<|q0<|as_ ee<|q6<|q7<|q0<|mv_ ee<|mv_ ee<|v_ (.d (i_ (w64 (a - 1)))) ee<|mv_ ee<|mv_ ee<|v_ (.d (i_ (w64 (a + 1)))) ee<|mv_ ee<|mv_ ee ?_
 obtain ⟨k,l,g⟩:=bindE g
 refine callG [(0,0)] [(0,0)] [.d (.sl 3 (f.map qe)),.d (i_ (w64 (a - 1))),di_ a,.d (i_ (w64 (a + 1))),.ref 0 1 0 0,.d (.fn q1F q1C)] (di_ k.1) 1 [(0,.dat 1 [[i_ k.2]])] 1 (q5p h q1F q1C q1Ok f (w64 (a - 1)) a (w64 (a + 1)) j k l)<|as_ ee<|q6<|qj ?_
 obtain rfl:=someE g
 exact ⟨.inr ee,_,ee,wkA [] [] []⟩
theorem q89 (g : List span_end) (a : Int) (b : Int) (l : span_end→span_end→Option Int) (p3F : FuncId) (p3C : List DV) (p3Ok : ∀ (m : span_end) (n : span_end) (r : Int),l m n = some r→Pure Tryz.prog tab p3F ([.agg [i_ m.at_,i_ m.list_,i_ m.by_],.agg [i_ n.at_,i_ n.list_,i_ n.by_]] ++ p3C) (i_ r)) (r : Int × Int) (f : q3n g a b l = some r) : Pure Tryz.prog tab 173 [.sl 3 (g.map qe),i_ a,i_ b,.fn p3F p3C] (.tup [i_ r.1,i_ r.2]):=by
 unfold q3n at f
 refine ql Tryz.func173 ee (by kernel_rfl) (by kernel_rfl) ee<|q7<|q0<|as_ ee<|as_ ee<|q6<|q7<|q0<|mv_ ee<|mv_ ee<|v_ (.d (i_ (w64 (b - a)))) ee<|as_ ee<|q6<|q7<|q0<|q2d ee ee<|q6<|q7<|q0<|mv_ ee<|mv_ ee<|v_ (.d (i_ (w64 (Int.tdiv (w64 (b - a)) 4)))) ee<|v_ (.d (i_ (w64 ((w64 (Int.tdiv (w64 (b - a)) 4)) * 1)))) ee<|v_ (.d (i_ (w64 (a + (w64 ((w64 (Int.tdiv (w64 (b - a)) 4)) * 1)))))) ee<|as_ ee<|q6<|q7<|q0<|mv_ ee<|mv_ ee<|v_ (.d (i_ (w64 (Int.tdiv (w64 (b - a)) 4)))) ee<|v_ (.d (i_ (w64 ((w64 (Int.tdiv (w64 (b - a)) 4)) * 2)))) ee<|v_ (.d (i_ (w64 (a + (w64 ((w64 (Int.tdiv (w64 (b - a)) 4)) * 2)))))) ee<|as_ ee<|q6<|q7<|q0<|mv_ ee<|mv_ ee<|v_ (.d (i_ (w64 (Int.tdiv (w64 (b - a)) 4)))) ee ?_
 refine v_ (.d (i_ (w64 ((w64 (Int.tdiv (w64 (b - a)) 4)) * 3)))) ee<|v_ (.d (i_ (w64 (a + (w64 ((w64 (Int.tdiv (w64 (b - a)) 4)) * 3)))))) ee<|as_ ee<|q6<|q7<|q7<|q0<|mv_ ee<|v_ (.d (.bool (decide ((w64 (b - a)) ≥ 8)))) ee<|q6 ?_
 obtain ⟨t,k,f⟩:=bindE f
 refine q57 (fun h=>h = t) (fun (h : Int × Int)=>⟨[(11,.ref 0 1 0 0),(13,di_ h.1)],[(0,.dat 1 [[i_ h.2]])],1⟩) (by simp) ?_ ?_
 ·refine qb ee k (fun _ k=>?_) (fun _ k=>?_)
  ·refine q7<|q7<|q0<|mv_ ee<|v_ (.d (.bool (decide ((w64 (b - a)) ≥ 50)))) ee<|q6 ?_
   obtain ⟨u,j,k⟩:=bindE k
   refine q57 (fun c=>c = u) (fun (c : Int × Int × Int × Int)=>⟨[(0,.d (.sl 3 (g.map qe))),(3,.d (.fn p3F p3C)),(11,.ref 0 1 0 0),(12,di_ c.1),(13,di_ c.2.1),(14,di_ c.2.2.1)],[(0,.dat 1 [[i_ c.2.2.2]])],1⟩) (by simp) ?_ ?_
   ·refine qb ee j (fun _ j=>?_) (fun _ j=>?_)
    ·refine q7<|q0<|mv_ ee<|mv_ ee<|mv_ ee ?_
     obtain ⟨o,w,j⟩:=bindE j
     refine callG [(0,0)] [(0,0)] [.d (.sl 3 (g.map qe)),.d (i_ (w64 (a + (w64 ((w64 (Int.tdiv (w64 (b - a)) 4)) * 1))))),.ref 0 1 0 0,.d (.fn p3F p3C)] (di_ o.1) 1 [(0,.dat 1 [[i_ o.2]])] 1 (q41 l p3F p3C p3Ok g (w64 (a + (w64 ((w64 (Int.tdiv (w64 (b - a)) 4)) * 1)))) 0 o w)<|as_ ee<|q6<|q7<|q0<|mv_ ee<|mv_ ee<|mv_ ee ?_
     obtain ⟨p,x,j⟩:=bindE j
     refine callG [(0,0)] [(0,0)] [.d (.sl 3 (g.map qe)),.d (i_ (w64 (a + (w64 ((w64 (Int.tdiv (w64 (b - a)) 4)) * 2))))),.ref 0 1 0 0,.d (.fn p3F p3C)] (di_ p.1) 1 [(0,.dat 1 [[i_ p.2]])] 1 (q41 l p3F p3C p3Ok g (w64 (a + (w64 ((w64 (Int.tdiv (w64 (b - a)) 4)) * 2)))) o.2 p x)<|as_ ee<|q6<|q0<|mv_ ee<|mv_ ee<|mv_ ee ?_
     obtain ⟨q,y,j⟩:=bindE j
     refine callG [(0,0)] [(0,0)] [.d (.sl 3 (g.map qe)),.d (i_ (w64 (a + (w64 ((w64 (Int.tdiv (w64 (b - a)) 4)) * 3))))),.ref 0 1 0 0,.d (.fn p3F p3C)] (di_ q.1) 1 [(0,.dat 1 [[i_ q.2]])] 1 (q41 l p3F p3C p3Ok g (w64 (a + (w64 ((w64 (Int.tdiv (w64 (b - a)) 4)) * 3)))) p.2 q y)<|as_ ee<|q6<|qc ?_
     obtain rfl:=someE j
     exact ⟨_,ee,wkA [(0,0)] [] []⟩
    refine qd<|qc ?_
    obtain rfl:=someE j
    exact ⟨_,ee,wkA [(0,0)] [] []⟩
   intro c hb
   subst hb
   refine q0<|mv_ ee<|mv_ ee<|mv_ ee<|mv_ ee<|mv_ ee ?_
   obtain ⟨s,z,k⟩:=bindE k
   refine callG [(0,0)] [(0,0)] [.d (.sl 3 (g.map qe)),di_ c.1,di_ c.2.1,di_ c.2.2.1,.ref 0 1 0 0,.d (.fn p3F p3C)] (di_ s.1) 1 [(0,.dat 1 [[i_ s.2]])] 1 (q5p l p3F p3C p3Ok g c.1 c.2.1 c.2.2.1 c.2.2.2 s z)<|as_ ee<|q6<|qc ?_
   obtain rfl:=someE k
   exact ⟨_,ee,wkA [(0,0)] [] []⟩
  refine qd<|qc ?_
  obtain rfl:=someE k
  exact ⟨_,ee,wkA [(0,0)] [] []⟩
 intro h hb
 subst hb
 refine q7<|q0<|v_ (di_ h.2) ee<|q6<|qh<|q7<|q0<|v_ (db_ (h.2 == 0)) ee<|as_ ee<|q6 ?_
 refine qb ee f (fun _ f=>?_) (fun _ f=>?_)
 ·refine q7<|q0<|mv_ ee<|as_ ee<|as_ ee<|q6<|qj ?_
  obtain rfl:=someE f
  exact finD (.inr ee) (v:=.d (.tup [i_ h.1,i_ 1])) ee ee (.refl _)
 refine q7<|q0<|v_ (db_ (h.2 == 12)) ee<|as_ ee<|q6 ?_
 refine qb ee f (fun _ f=>?_) (fun _ f=>?_)
 ·refine q7<|q0<|mv_ ee<|as_ ee<|as_ ee<|q6<|qj ?_
  obtain rfl:=someE f
  exact finD (.inr ee) (v:=.d (.tup [i_ h.1,i_ 2])) ee ee (.refl _)
 refine q7<|q0<|mv_ ee<|as_ ee<|as_ ee<|q6<|qj ?_
 obtain rfl:=someE f
 exact finD (.inr ee) (v:=.d (.tup [i_ h.1,i_ 0])) ee ee (.refl _)
theorem q79 (n : span_end→span_end→Option Int) (q1F : FuncId) (q1C : List DV) (_q1Ok : ∀ (g : span_end) (h : span_end) (r : Int),n g h = some r→Pure Tryz.prog tab q1F ([.agg [i_ g.at_,i_ g.list_,i_ g.by_],.agg [i_ h.at_,i_ h.list_,i_ h.by_]] ++ q1C) (i_ r)) (j : List span_end) (m : Int) (k : Int) (r : List span_end) (l : q2x n j m k = some r) : EvCall Tryz.prog tab 174 [.hs 0 3 0 j.length,di_ m,di_ k,.d (.fn q1F q1C)] [(0,.dat 3 (j.map qe))] 1 (.d (.tup [])) [(0,.dat 3 (r.map qe))] 1:=by
 unfold q2x at l
 refine q14 Tryz.func174 ee (by kernel_rfl) (by kernel_rfl) ee<|q7<|q0<|mv_ ee<|as_ ee<|q6<|q7<|q0<|mv_ ee<|v_ (.d (i_ (w64 (k - 1)))) ee<|as_ ee<|q6 ?_
 obtain ⟨t,u,l⟩:=bindE l
 refine qh<|qn (q28) (fun (b : Int × Int × List span_end)=>⟨[(0,.hs 0 3 0 b.2.2.length),(8,di_ b.1),(9,di_ b.2.1)],[(0,.dat 3 (b.2.2.map qe))],1⟩) (m,w64 (k - 1),j) t u (wkA [] [] []) ?_
 intro b v a
 unfold q28 at a
 refine q7<|q7<|q0<|mv_ ee<|mv_ ee<|v_ (.d (.bool (decide (b.1 < b.2.1)))) ee<|q6 ?_
 refine qb ee a (fun _ a=>?_) (fun _ a=>?_)
 ·refine qd<|qh<|q7<|qg [(some [0],[0]),(some [],[]),(some [0],[0]),(some [],[]),(some [0],[]),(some [],[]),(some [],[]),(some [],[]),(some [0],[]),(some [],[]),(some [],[]),(some [],[]),(some [],[]),(some [],[]),(some [],[]),(some [],[])] (by kernel_rfl)<|mv_ ee<|mv_ ee<|mv_ ee<|mv_ ee<|mv_ ee<|mv_ ee ?_
  obtain ⟨c,o,a⟩:=bindE a
  refine qi o ee ee ee ee ee ee ee<|qp (.d (.agg [i_ c.at_,i_ c.list_,i_ c.by_])) o ee ee ee ee ee ee<|mv_ ee<|mv_ ee ?_
  obtain ⟨f,p,a⟩:=bindE a
  refine qi p ee ee ee ee ee ee ee<|qp (.d (.agg [i_ f.at_,i_ f.list_,i_ f.by_])) p ee ee ee ee ee ee ?_
  obtain ⟨w,q,a⟩:=bindE a
  refine qi q ee ee ee ee ee ee ee<|q12 (ds:=[i_ c.at_,i_ c.list_,i_ c.by_]) c q ee ee ee ee ee ee ee ee (leb ee) ee ?_
  obtain ⟨x,s,a⟩:=bindE a
  refine qi s (by simp) ee ee ee ee ee ee<|q12 (ds:=[i_ f.at_,i_ f.list_,i_ f.by_]) f s ee ee ee ee ee ee ee ee (leb ee) ee<|q6<|q7<|q0<|mv_ ee<|v_ (.d (i_ (w64 (b.1 + 1)))) ee<|as_ ee<|q6<|q0<|mv_ ee<|v_ (.d (i_ (w64 (b.2.1 - 1)))) ee<|as_ ee<|q6<|qc<|qr<|qc ?_
  exact ⟨_,(Option.some.inj a).symm,wkE [] [] [] ee ⟨⟨_,ee,q10 (by simp) ee (by decide) (ltd ee)⟩,⟨_,ee,.d (.refl _)⟩,⟨_,ee,.d (.refl _)⟩,trivial⟩ ⟨⟨ltd ee,.inr ⟨by decide,_,ee,.dat _ _⟩⟩,trivial⟩⟩
 refine qm ?_
 refine ⟨_,(Option.some.inj a).symm,fun hm=>?_⟩
 subst hm
 obtain rfl:=someE l
 exact ⟨.inl ee,_,ee,wkA [] [] []⟩
end Go.Proofs.YtjjmcdlnadkjbaaGreat
