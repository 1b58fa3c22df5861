/- W_All -/
import Derived.Test.YtlchefooafpdlaaGreatK18
namespace Go.Proofs.YtlchefooafpdlaaGreat
open Go Go.Am Go.Sh
set_option maxHeartbeats 8000000
set_option maxRecDepth 100000
theorem qm6 (b : List qm) (c : List qm) (f : Bool→Bool→Option Bool) (p2F : FuncId) (p2C : List DV) (p2Ok : ∀ (k : Bool) (l : Bool) (r : Bool),f k l = some r→Pure Tryz.prog tab p2F ([.bool k,.bool l] ++ p2C) (.bool r)) (r : List qm × Int) (a : q6w b c f = some r) : Pure Tryz.prog tab 150 [.sl 2 (b.map Q3),.sl 2 (c.map Q3),.fn p2F p2C] (.tup [.sl 2 (r.1.map Q3),G r.2]):=by
 unfold q6w at a
 refine Qi Tryz.func150 J qj qj J<|qc<|qb J<|qb J<|qa<|qh<|qc<|q0 J ?_
 obtain ⟨g,m,a⟩:=q9 a
 refine Q5 (qm3 b g m) J<|qb J<|qs<|q0 J<|O (qg (g != 0)) J<|qa ?_
 refine qp J a (fun _ a=>?_) (fun _ a=>?_)
 ·refine qc<|q0 J<|qb J<|qb J<|qv ?_
  obtain rfl:=qe a
  exact finD (.inr J) (v:=.d (.tup [.nilsl,G g])) J J (Yc (.cons (.nil _) (.cons (.refl _) .nil)))
 refine qo<|qh<|qc<|q0 J ?_
 obtain ⟨h,n,a⟩:=q9 a
 refine Q5 (qm3 c h n) J<|qb J<|qs<|q0 J<|O (qg (h != 0)) J<|qa ?_
 refine qp J a (fun _ a=>?_) (fun _ a=>?_)
 ·refine qc<|q0 J<|qb J<|qb J<|qv ?_
  obtain rfl:=qe a
  exact finD (.inr J) (v:=.d (.tup [.nilsl,G h])) J J (Yc (.cons (.nil _) (.cons (.refl _) .nil)))
 refine qo<|qc<|q0 J<|q0 J<|q0 J ?_
 obtain ⟨j,o,a⟩:=q9 a
 refine Q5 (qm7 b c f p2F p2C p2Ok j o) J<|qb J<|qa<|qh<|qc<|q0 J<|Qy J<|O (.d (.bool (decide ((j.length : Int) > 400)))) J<|qa ?_
 refine qp J a (fun _ a=>?_) (fun _ a=>?_)
 ·refine qc<|qb J<|qb J<|qv ?_
  obtain rfl:=qe a
  exact finD (.inr J) (v:=.d (.tup [.nilsl,G 4])) J J (Yc (.cons (.nil _) (.cons (.refl _) .nil)))
 refine qo<|qc<|q0 J<|qb J<|qb J<|qv ?_
 obtain rfl:=qe a
 exact Q4 (.d (.tup [.sl 2 (j.map Q3),G 0])) J
theorem qzc (d : Bool) (c : Bool) (r : Bool) (b : qc5 d c = some r) : Pure Tryz.prog tab 159 [.bool d,.bool c] (.bool r):=by
 unfold qc5 at b
 refine Qi Tryz.func159 J qj qj J<|qc<|qb J<|qs<|q0 J ?_
 obtain ⟨f,a,b⟩:=q9 b
 refine Q9 3 (fun A st=>∃ (g h : V),st = A [(8,qg f),(7,h),(6,g)]) ?_ ?_
 ·refine Q8 J J a (fun a=>?_) (fun a=>?_)
  ·refine q0 J<|O (qg c) J<|qa ?_
   obtain rfl:=qe a
   exact ⟨_,_,J⟩
  refine qd J<|O (qg false) J<|qa ?_
  obtain rfl:=qe a
  exact ⟨_,_,J⟩
 rintro _ ⟨g,h,rfl⟩
 refine qb J<|qv ?_
 obtain rfl:=qe b
 exact Q4 (qg f) J
theorem qzd (c : List qm) (f : List qm) (r : List qm × Int) (b : q6u c f = some r) : Pure Tryz.prog tab 134 [.sl 2 (c.map Q3),.sl 2 (f.map Q3)] (.tup [.sl 2 (r.1.map Q3),G r.2]):=by
 unfold q6u at b
 refine Qi Tryz.func134 J qj qj J<|qc<|qb J<|qb J<|qs<|q0 J<|q0 J ?_
 obtain ⟨a,j,b⟩:=q9 b
 refine Q5 (qm6 c f (fun g h=>qc5 g h) 159 [] (fun g h r hr=>qzc g h r hr) a j) J<|O (.d (.sl 2 (a.1.map Q3))) J<|O (q6 a.2) J<|qb J<|qb J<|qv ?_
 obtain rfl:=qe b
 exact Q4 (.d (.tup [.sl 2 (a.1.map Q3),G a.2])) J
theorem qtt (c : List ql) (f : List ql) (r : List ql × Int) (b : q5c c f = some r) : Pure Tryz.prog tab 92 [.sl 4 (c.map qu),.sl 4 (f.map qu)] (.tup [.sl 4 (r.1.map qu),G r.2]):=by
 unfold q5c at b
 refine Qi Tryz.func92 J qj qj J<|qc<|qb J<|qb J<|qs<|q0 J<|q0 J ?_
 obtain ⟨a,j,b⟩:=q9 b
 refine Q5 (qky c f (fun g h=>q6u g h) 134 [] (fun g h r hr=>qzd g h r hr) a j) J<|O (.d (.sl 4 (a.1.map qu))) J<|O (q6 a.2) J<|qb J<|qb J<|qv ?_
 obtain rfl:=qe b
 exact Q4 (.d (.tup [.sl 4 (a.1.map qu),G a.2])) J
theorem qyv (c : List qk) (f : List qk) (r : List qk × Int) (b : q6k c f = some r) : Pure Tryz.prog tab 47 [.sl 6 (c.map Q6),.sl 6 (f.map Q6)] (.tup [.sl 6 (r.1.map Q6),G r.2]):=by
 unfold q6k at b
 refine Qi Tryz.func47 J qj qj J<|qc<|qb J<|qb J<|qs<|q0 J<|q0 J<|O (.d (.agg [.fn 92 []])) J ?_
 obtain ⟨a,j,b⟩:=q9 b
 refine Q5 (qlx c f (fun g h=>q5c g h) 92 [] (fun g h r hr=>qtt g h r hr) a j) J<|O (.d (.sl 6 (a.1.map Q6))) J<|O (q6 a.2) J<|qb J<|qb J<|qv ?_
 obtain rfl:=qe b
 exact Q4 (.d (.tup [.sl 6 (a.1.map Q6),G a.2])) J
theorem qze (d : Bool) (c : Bool) (r : Bool) (b : qc6 d c = some r) : Pure Tryz.prog tab 160 [.bool d,.bool c] (.bool r):=by
 unfold qc6 at b
 refine Qi Tryz.func160 J qj qj J<|qc<|qb J<|qs<|q0 J ?_
 obtain ⟨f,a,b⟩:=q9 b
 refine Q9 3 (fun A st=>∃ (g h : V),st = A [(8,qg f),(7,h),(6,g)]) ?_ ?_
 ·refine Q8 J J a (fun a=>?_) (fun a=>?_)
  ·refine qd J<|O (qg true) J<|qa ?_
   obtain rfl:=qe a
   exact ⟨_,_,J⟩
  refine q0 J<|O (qg c) J<|qa ?_
  obtain rfl:=qe a
  exact ⟨_,_,J⟩
 rintro _ ⟨g,h,rfl⟩
 refine qb J<|qv ?_
 obtain rfl:=qe b
 exact Q4 (qg f) J
theorem qzf (c : List qm) (f : List qm) (r : List qm × Int) (b : q6v c f = some r) : Pure Tryz.prog tab 135 [.sl 2 (c.map Q3),.sl 2 (f.map Q3)] (.tup [.sl 2 (r.1.map Q3),G r.2]):=by
 unfold q6v at b
 refine Qi Tryz.func135 J qj qj J<|qc<|qb J<|qb J<|qs<|q0 J<|q0 J ?_
 obtain ⟨a,j,b⟩:=q9 b
 refine Q5 (qm6 c f (fun g h=>qc6 g h) 160 [] (fun g h r hr=>qze g h r hr) a j) J<|O (.d (.sl 2 (a.1.map Q3))) J<|O (q6 a.2) J<|qb J<|qb J<|qv ?_
 obtain rfl:=qe b
 exact Q4 (.d (.tup [.sl 2 (a.1.map Q3),G a.2])) J
theorem qtv (c : List ql) (f : List ql) (r : List ql × Int) (b : q5d c f = some r) : Pure Tryz.prog tab 93 [.sl 4 (c.map qu),.sl 4 (f.map qu)] (.tup [.sl 4 (r.1.map qu),G r.2]):=by
 unfold q5d at b
 refine Qi Tryz.func93 J qj qj J<|qc<|qb J<|qb J<|qs<|q0 J<|q0 J ?_
 obtain ⟨a,j,b⟩:=q9 b
 refine Q5 (qky c f (fun g h=>q6v g h) 135 [] (fun g h r hr=>qzf g h r hr) a j) J<|O (.d (.sl 4 (a.1.map qu))) J<|O (q6 a.2) J<|qb J<|qb J<|qv ?_
 obtain rfl:=qe b
 exact Q4 (.d (.tup [.sl 4 (a.1.map qu),G a.2])) J
theorem qyx (c : List qk) (f : List qk) (r : List qk × Int) (b : q6l c f = some r) : Pure Tryz.prog tab 48 [.sl 6 (c.map Q6),.sl 6 (f.map Q6)] (.tup [.sl 6 (r.1.map Q6),G r.2]):=by
 unfold q6l at b
 refine Qi Tryz.func48 J qj qj J<|qc<|qb J<|qb J<|qs<|q0 J<|q0 J<|O (.d (.agg [.fn 93 []])) J ?_
 obtain ⟨a,j,b⟩:=q9 b
 refine Q5 (qlx c f (fun g h=>q5d g h) 93 [] (fun g h r hr=>qtv g h r hr) a j) J<|O (.d (.sl 6 (a.1.map Q6))) J<|O (q6 a.2) J<|qb J<|qb J<|qv ?_
 obtain rfl:=qe b
 exact Q4 (.d (.tup [.sl 6 (a.1.map Q6),G a.2])) J
theorem q11b (a : Q2) (j : Int) (r : Bool) (b : qau a j = some r) : Pure Tryz.prog tab 9 [.agg [.int .u8 a.Frame.Turn,G a.Frame.At.X,G a.Frame.At.Y,G a.Frame.At.Z,G a.Size.X,G a.Size.Y,G a.Size.Z],G j] (.bool r):=by
 unfold qau at b
 refine Qi Tryz.func9 J qj qj J<|qc<|Ql (.ref 0 7 0 0) (.dat 7 [[.int .u8 a.Frame.Turn,G a.Frame.At.X,G a.Frame.At.Y,G a.Frame.At.Z,G a.Size.X,G a.Size.Y,G a.Size.Z]]) J<|qb J<|qs ?_
 obtain ⟨s,h2,b⟩:=q9 b
 refine Q5 (qqz s h2) J<|qb J<|qa<|qh<|qc<|O (.d (.agg [.int .u8 a.Frame.Turn,G a.Frame.At.X,G a.Frame.At.Y,G a.Frame.At.Z,G a.Size.X,G a.Size.Y,G a.Size.Z])) J ?_
 obtain ⟨r3,h4,b⟩:=q9 b
 refine Q5 (qtb a r3 h4) J<|O (qg (r3 != 0)) J ?_
 obtain ⟨c5,x,b⟩:=q9 b
 refine Q9 13 (fun A st=>∃ (j7 j8 j9 av aw ax ay az ba bb bc bd : V),st = A [(43,qg c5),(42,bd),(41,bc),(40,bb),(39,ba),(38,az),(37,ay),(36,ax),(35,aw),(34,av),(33,j9),(32,j8),(31,j7)]) ?_ ?_
 ·refine Q8 J J x (fun x=>?_) (fun x=>?_)
  ·refine qd J<|qd J<|qd J<|qd J<|qd J<|qd J<|qd J<|qd J<|qd J<|qd J<|qd J<|O (qg true) J<|qa ?_
   obtain rfl:=qe x
   exact ⟨_,_,_,_,_,_,_,_,_,_,_,_,J⟩
  refine O (.ref 0 7 0 4) J<|O (.ref 0 7 0 4) J<|O (q6 a.Size.X) J<|O (.ref 0 7 0 4) J<|O (.ref 0 7 0 5) J<|O (q6 a.Size.Y) J<|O (.ref 0 7 0 4) J<|O (.ref 0 7 0 6) J<|O (q6 a.Size.Z) J<|Uo (r:=min (min a.Size.X a.Size.Y) a.Size.Z) J J (by simp only [Um];rfl)<|O (.d (.bool (decide ((min (min a.Size.X a.Size.Y) a.Size.Z) < 1)))) J<|O (.d (.bool (decide ((min (min a.Size.X a.Size.Y) a.Size.Z) < 1)))) J<|qa ?_
  obtain rfl:=qe x
  exact ⟨_,_,_,_,_,_,_,_,_,_,_,_,J⟩
 rintro _ ⟨j7,j8,j9,av,aw,ax,ay,az,ba,bb,bc,bd,rfl⟩
 obtain ⟨gc,y,b⟩:=q9 b
 refine Q9 13 (fun A st=>∃ (be bf bg bh bi bj bk bl bm bn bo bp : V),st = A [(56,qg gc),(55,bp),(54,bo),(53,bn),(52,bm),(51,bl),(50,bk),(49,bj),(48,bi),(47,bh),(46,bg),(45,bf),(44,be)]) ?_ ?_
 ·refine Q8 J J y (fun y=>?_) (fun y=>?_)
  ·refine qd J<|qd J<|qd J<|qd J<|qd J<|qd J<|qd J<|qd J<|qd J<|qd J<|qd J<|O (qg true) J<|qa ?_
   obtain rfl:=qe y
   exact ⟨_,_,_,_,_,_,_,_,_,_,_,_,J⟩
  refine O (.ref 0 7 0 4) J<|O (.ref 0 7 0 4) J<|O (q6 a.Size.X) J<|O (.ref 0 7 0 4) J<|O (.ref 0 7 0 5) J<|O (q6 a.Size.Y) J<|O (.ref 0 7 0 4) J<|O (.ref 0 7 0 6) J<|O (q6 a.Size.Z) J<|Un (r:=max (max a.Size.X a.Size.Y) a.Size.Z) J J (by simp only [Ul];rfl)<|O (.d (.bool (decide ((max (max a.Size.X a.Size.Y) a.Size.Z) > 1000)))) J<|O (.d (.bool (decide ((max (max a.Size.X a.Size.Y) a.Size.Z) > 1000)))) J<|qa ?_
  obtain rfl:=qe y
  exact ⟨_,_,_,_,_,_,_,_,_,_,_,_,J⟩
 rintro _ ⟨be,bf,bg,bh,bi,bj,bk,bl,bm,bn,bo,bp,rfl⟩
 obtain ⟨gd,z,b⟩:=q9 b
 refine Q9 16 (fun A st=>∃ (bq br bs bt bu bv bw bz ca cb cc cd ce cf cg : V),st = A [(72,qg gd),(71,cg),(70,cf),(69,ce),(68,cd),(67,cc),(66,cb),(65,ca),(64,bz),(63,bw),(62,bv),(61,bu),(60,bt),(59,bs),(58,br),(57,bq)]) ?_ ?_
 ·refine Q8 J J z (fun z=>?_) (fun z=>?_)
  ·refine qd J<|qd J<|qd J<|qd J<|qd J<|qd J<|qd J<|qd J<|qd J<|qd J<|qd J<|qd J<|qd J<|qd J<|O (qg true) J<|qa ?_
   obtain rfl:=qe z
   exact ⟨_,_,_,_,_,_,_,_,_,_,_,_,_,_,_,J⟩
  refine O (.ref 0 7 0 0) J<|O (.ref 0 7 0 1) J<|O (.ref 0 7 0 1) J<|O (q6 a.Frame.At.X) J<|O (.ref 0 7 0 0) J<|O (.ref 0 7 0 1) J<|O (.ref 0 7 0 2) J<|O (q6 a.Frame.At.Y) J<|O (.ref 0 7 0 0) J<|O (.ref 0 7 0 1) J<|O (.ref 0 7 0 3) J<|O (q6 a.Frame.At.Z) J<|Un (r:=max (max a.Frame.At.X a.Frame.At.Y) a.Frame.At.Z) J J (by simp only [Ul];rfl)<|O (.d (.bool (decide ((max (max a.Frame.At.X a.Frame.At.Y) a.Frame.At.Z) > 1000)))) J<|O (.d (.bool (decide ((max (max a.Frame.At.X a.Frame.At.Y) a.Frame.At.Z) > 1000)))) J<|qa ?_
  obtain rfl:=qe z
  exact ⟨_,_,_,_,_,_,_,_,_,_,_,_,_,_,_,J⟩
 rintro _ ⟨bq,br,bs,bt,bu,bv,bw,bz,ca,cb,cc,cd,ce,cf,cg,rfl⟩
 obtain ⟨ge,aa,b⟩:=q9 b
 refine Q9 16 (fun A st=>∃ (ch ci cj ck cl cm cn co cp cq cr cs ct cu cv : V),st = A [(88,qg ge),(87,cv),(86,cu),(85,ct),(84,cs),(83,cr),(82,cq),(81,cp),(80,co),(79,cn),(78,cm),(77,cl),(76,ck),(75,cj),(74,ci),(73,ch)]) ?_ ?_
 ·refine Q8 J J aa (fun aa=>?_) (fun aa=>?_)
  ·refine qd J<|qd J<|qd J<|qd J<|qd J<|qd J<|qd J<|qd J<|qd J<|qd J<|qd J<|qd J<|qd J<|qd J<|O (qg true) J<|qa ?_
   obtain rfl:=qe aa
   exact ⟨_,_,_,_,_,_,_,_,_,_,_,_,_,_,_,J⟩
  refine O (.ref 0 7 0 0) J<|O (.ref 0 7 0 1) J<|O (.ref 0 7 0 1) J<|O (q6 a.Frame.At.X) J<|O (.ref 0 7 0 0) J<|O (.ref 0 7 0 1) J<|O (.ref 0 7 0 2) J<|O (q6 a.Frame.At.Y) J<|O (.ref 0 7 0 0) J<|O (.ref 0 7 0 1) J<|O (.ref 0 7 0 3) J<|O (q6 a.Frame.At.Z) J<|Uo (r:=min (min a.Frame.At.X a.Frame.At.Y) a.Frame.At.Z) J J (by simp only [Um];rfl)<|O (.d (.bool (decide ((min (min a.Frame.At.X a.Frame.At.Y) a.Frame.At.Z) < (-1000))))) J<|O (.d (.bool (decide ((min (min a.Frame.At.X a.Frame.At.Y) a.Frame.At.Z) < (-1000))))) J<|qa ?_
  obtain rfl:=qe aa
  exact ⟨_,_,_,_,_,_,_,_,_,_,_,_,_,_,_,J⟩
 rintro _ ⟨ch,ci,cj,ck,cl,cm,cn,co,cp,cq,cr,cs,ct,cu,cv,rfl⟩
 obtain ⟨gf,ab,b⟩:=q9 b
 refine Q9 4 (fun A st=>∃ (cw cx cy : V),st = A [(92,qg gf),(91,cy),(90,cx),(89,cw)]) ?_ ?_
 ·refine Q8 J J ab (fun ab=>?_) (fun ab=>?_)
  ·refine qd J<|qd J<|O (qg true) J<|qa ?_
   obtain rfl:=qe ab
   exact ⟨_,_,_,J⟩
  refine q0 J<|O (.d (.bool (decide (j < 0)))) J<|O (.d (.bool (decide (j < 0)))) J<|qa ?_
  obtain rfl:=qe ab
  exact ⟨_,_,_,J⟩
 rintro _ ⟨cw,cx,cy,rfl⟩
 obtain ⟨gg,ac,b⟩:=q9 b
 refine Q9 4 (fun A st=>∃ (cz da dc : V),st = A [(96,qg gg),(95,dc),(94,da),(93,cz)]) ?_ ?_
 ·refine Q8 J J ac (fun ac=>?_) (fun ac=>?_)
  ·refine qd J<|qd J<|O (qg true) J<|qa ?_
   obtain rfl:=qe ac
   exact ⟨_,_,_,J⟩
  refine q0 J<|O (.d (.bool (decide (j > 5)))) J<|O (.d (.bool (decide (j > 5)))) J<|qa ?_
  obtain rfl:=qe ac
  exact ⟨_,_,_,J⟩
 rintro _ ⟨cz,da,dc,rfl⟩
 obtain ⟨gh,ad,b⟩:=q9 b
 refine Q9 4 (fun A st=>∃ (dd de df : V),st = A [(100,qg gh),(99,df),(98,de),(97,dd)]) ?_ ?_
 ·refine Q8 J J ad (fun ad=>?_) (fun ad=>?_)
  ·refine qd J<|qd J<|O (qg true) J<|qa ?_
   obtain rfl:=qe ad
   exact ⟨_,_,_,J⟩
  refine q0 J<|O (qg (!s)) J<|O (qg (!s)) J<|qa ?_
  obtain rfl:=qe ad
  exact ⟨_,_,_,J⟩
 rintro _ ⟨dd,de,df,rfl⟩
 refine qa ?_
 refine qp J b (fun _ b=>?_) (fun _ b=>?_)
 ·refine qc<|q0 J<|qb J<|qv ?_
  obtain rfl:=qe b
  exact Q4 (qg s) J
 refine qo<|qc<|O (.d (.agg [.int .u8 a.Frame.Turn,G a.Frame.At.X,G a.Frame.At.Y,G a.Frame.At.Z,G a.Size.X,G a.Size.Y,G a.Size.Z])) J ?_
 obtain ⟨c,gi,b⟩:=q9 b
 refine Q5 (qkr a c gi) J<|q0 J<|O (.d (.agg [.int .u8 c.1.1.Frame.Turn,G c.1.1.Frame.At.X,G c.1.1.Frame.At.Y,G c.1.1.Frame.At.Z,G c.1.1.Size.X,G c.1.1.Size.Y,G c.1.1.Size.Z,.int .u8 c.1.2.1.Frame.Turn,G c.1.2.1.Frame.At.X,G c.1.2.1.Frame.At.Y,G c.1.2.1.Frame.At.Z,G c.1.2.1.Size.X,G c.1.2.1.Size.Y,G c.1.2.1.Size.Z,.int .u8 c.1.2.2.1.Frame.Turn,G c.1.2.2.1.Frame.At.X,G c.1.2.2.1.Frame.At.Y,G c.1.2.2.1.Frame.At.Z,G c.1.2.2.1.Size.X,G c.1.2.2.1.Size.Y,G c.1.2.2.1.Size.Z,.int .u8 c.1.2.2.2.1.Frame.Turn,G c.1.2.2.2.1.Frame.At.X,G c.1.2.2.2.1.Frame.At.Y,G c.1.2.2.2.1.Frame.At.Z,G c.1.2.2.2.1.Size.X,G c.1.2.2.2.1.Size.Y,G c.1.2.2.2.1.Size.Z,.int .u8 c.1.2.2.2.2.1.Frame.Turn,G c.1.2.2.2.2.1.Frame.At.X,G c.1.2.2.2.2.1.Frame.At.Y,G c.1.2.2.2.2.1.Frame.At.Z,G c.1.2.2.2.2.1.Size.X,G c.1.2.2.2.2.1.Size.Y,G c.1.2.2.2.2.1.Size.Z,.int .u8 c.1.2.2.2.2.2.Frame.Turn,G c.1.2.2.2.2.2.Frame.At.X,G c.1.2.2.2.2.2.Frame.At.Y,G c.1.2.2.2.2.2.Frame.At.Z,G c.1.2.2.2.2.2.Size.X,G c.1.2.2.2.2.2.Size.Y,G c.1.2.2.2.2.2.Size.Z])) J<|O (q6 c.2) J<|Qe J J<|qz 1 (.dat 42 [[c.1.1,c.1.2.1,c.1.2.2.1,c.1.2.2.2.1,c.1.2.2.2.2.1,c.1.2.2.2.2.2].flatMap Zi]) J<|qb J<|qs<|O (.d (.agg [.int .u8 a.Frame.Turn,G a.Frame.At.X,G a.Frame.At.Y,G a.Frame.At.Z,G a.Size.X,G a.Size.Y,G a.Size.Z])) J ?_
 obtain ⟨f,gj,b⟩:=q9 b
 refine Q5 (qic a f gj) J<|q0 J<|O (.d (.agg [G f.1.Lo.X,G f.1.Lo.Y,G f.1.Lo.Z,G f.1.Hi.X,G f.1.Hi.Y,G f.1.Hi.Z])) J<|O (q6 f.2) J<|Qe J J<|qz 2 (.dat 6 [[G f.1.Lo.X,G f.1.Lo.Y,G f.1.Lo.Z,G f.1.Hi.X,G f.1.Hi.Y,G f.1.Hi.Z]]) J<|qb J<|qa<|qh<|qc<|q0 J<|O (qg (c.2 != 0)) J ?_
 obtain ⟨gk,ae,b⟩:=q9 b
 refine Q9 4 (fun A st=>∃ (dg dh dj : V),st = A [(117,qg gk),(116,dj),(115,dh),(114,dg)]) ?_ ?_
 ·refine Q8 J J ae (fun ae=>?_) (fun ae=>?_)
  ·refine qd J<|qd J<|O (qg true) J<|qa ?_
   obtain rfl:=qe ae
   exact ⟨_,_,_,J⟩
  refine q0 J<|O (qg (f.2 != 0)) J<|O (qg (f.2 != 0)) J<|qa ?_
  obtain rfl:=qe ae
  exact ⟨_,_,_,J⟩
 rintro _ ⟨dg,dh,dj,rfl⟩
 refine qa ?_
 refine qp J b (fun _ b=>?_) (fun _ b=>?_)
 ·refine qc<|qb J<|qv ?_
  obtain rfl:=qe b
  exact Q4 (qg false) J
 refine qo<|qc<|qb J<|qa<|qh<|qc<|qb J<|qa ?_
 obtain ⟨dk,gl,b⟩:=q9 b
 refine Qm (fun t=>t = dk) (fun (t : Int)=>⟨[(1,q6 j),(5,qg s),(6,.ref 0 42 0 0),(8,.ref 1 6 0 0),(10,q6 t)],[(0,.dat 42 [[c.1.1,c.1.2.1,c.1.2.2.1,c.1.2.2.2.1,c.1.2.2.2.2.1,c.1.2.2.2.2.2].flatMap Zi]),(1,.dat 6 [[G f.1.Lo.X,G f.1.Lo.Y,G f.1.Lo.Z,G f.1.Hi.X,G f.1.Hi.Y,G f.1.Hi.Z]])],2⟩) qf ?_ ?_
 ·refine Qf (q3f c) (fun (k : Int × Int)=>⟨[(1,q6 j),(5,qg s),(6,.ref 0 42 0 0),(8,.ref 1 6 0 0),(10,q6 k.1),(11,q6 k.2)],[(0,.dat 42 [[c.1.1,c.1.2.1,c.1.2.2.1,c.1.2.2.2.1,c.1.2.2.2.2.1,c.1.2.2.2.2.2].flatMap Zi]),(1,.dat 6 [[G f.1.Lo.X,G f.1.Lo.Y,G f.1.Lo.Z,G f.1.Hi.X,G f.1.Hi.Y,G f.1.Hi.Z]])],2⟩) (0,0) dk gl (wkA [(0,1),(1,2)] [] []) ?_
  intro k hc l
  unfold q3f at l
  refine qh<|qc<|q0 J<|O (.d (.bool (decide (k.2 < 6)))) J<|qa ?_
  refine qp J l (fun _ l=>?_) (fun _ l=>?_)
  ·refine qo<|qh<|Q1<|Qd [q8,q8,q8,qr 0,q8,q8,q8,q8,qr 0,q8,q8,q8,q8,q8] qj<|q0 J<|q0 J ?_
   obtain ⟨an,dl,l⟩:=q9 l
   refine Z4 dl J J J J J<|O (.ref 0 42 0 (k.2.toNat * 7 + 4)) J<|O (.ref 0 42 0 (k.2.toNat * 7 + 4)) J<|q3h (enc:=Zi) (q6 an.Size.X) dl (fun _=>rfl) J J J J J J<|q0 J ?_
   obtain ⟨ao,dm,l⟩:=q9 l
   refine Z4 dm J J J J J<|O (.ref 0 42 0 (k.2.toNat * 7 + 4)) J<|O (.ref 0 42 0 (k.2.toNat * 7 + 5)) J<|q3h (enc:=Zi) (q6 ao.Size.Y) dm (fun _=>rfl) J J J J J J<|O (.d (G (w64 (an.Size.X * ao.Size.Y)))) J<|O (.d (G (w64 (k.1 + (w64 (an.Size.X * ao.Size.Y)))))) J<|qb J<|qx<|Qj<|qy<|q0 J<|O (.d (G (w64 (k.2 + 1)))) J<|qb J<|qx ?_
   exact ⟨_,(Option.some.inj l).symm,wkA [(0,0),(1,1)] [] []⟩
  refine Qb ?_
  refine ⟨_,(Option.some.inj l).symm,fun hm=>?_⟩
  subst hm
  exact ⟨_,J,wkA [(0,0),(1,1)] [] []⟩
 intro t hb
 subst hb
 refine qc<|O (.d (.agg [G f.1.Lo.X,G f.1.Lo.Y,G f.1.Lo.Z,G f.1.Hi.X,G f.1.Hi.Y,G f.1.Hi.Z])) J<|Ql (.hs 2 6 0 [f.1].length) (.dat 6 ([f.1].map Q6)) J ?_
 obtain ⟨m,gm,b⟩:=q9 b
 refine q4z [.hs 2 6 0 [f.1].length] (qff [f.1] m gm) J J (Ju (Jb J J) J) (.inr J)<|q0 J<|O (q6 m.1) J<|O (q6 m.2) J<|qb J<|qb J<|qa<|qh<|qc<|q0 J<|O (qg (m.2 != 0)) J ?_
 obtain ⟨gn,af,b⟩:=q9 b
 refine Q9 5 (fun A st=>∃ (dn dp dq dr : V),st = A [(147,qg gn),(146,dr),(145,dq),(144,dp),(143,dn)]) ?_ ?_
 ·refine Q8 J J af (fun af=>?_) (fun af=>?_)
  ·refine qd J<|qd J<|qd J<|O (qg true) J<|qa ?_
   obtain rfl:=qe af
   exact ⟨_,_,_,_,J⟩
  refine q0 J<|q0 J<|O (qg (m.1 != t)) J<|O (qg (m.1 != t)) J<|qa ?_
  obtain rfl:=qe af
  exact ⟨_,_,_,_,J⟩
 rintro _ ⟨dn,dp,dq,dr,rfl⟩
 refine qa ?_
 refine qp J b (fun _ b=>?_) (fun _ b=>?_)
 ·refine qc<|qb J<|qv ?_
  obtain rfl:=qe b
  exact Q4 (qg false) J
 refine qo<|qc<|q0 J ?_
 obtain ⟨o,ds,b⟩:=q9 b
 refine Z4 ds J J J J J<|q4x (enc:=Zi) (.d (.agg [.int .u8 o.Frame.Turn,G o.Frame.At.X,G o.Frame.At.Y,G o.Frame.At.Z,G o.Size.X,G o.Size.Y,G o.Size.Z])) ds (fun _=>rfl) J J J J J J ?_
 obtain ⟨h,go,b⟩:=q9 b
 refine Q5 (qti o 1 h go) J<|q0 J<|O (.d (.agg [.int .u8 h.1.Frame.Turn,G h.1.Frame.At.X,G h.1.Frame.At.Y,G h.1.Frame.At.Z,G h.1.Size.X,G h.1.Size.Y,G h.1.Size.Z])) J<|O (q6 h.2) J<|Qe J J<|qz 3 (.dat 7 [[.int .u8 h.1.Frame.Turn,G h.1.Frame.At.X,G h.1.Frame.At.Y,G h.1.Frame.At.Z,G h.1.Size.X,G h.1.Size.Y,G h.1.Size.Z]]) J<|qb J<|qs<|O (.d (.agg [.int .u8 h.1.Frame.Turn,G h.1.Frame.At.X,G h.1.Frame.At.Y,G h.1.Frame.At.Z,G h.1.Size.X,G h.1.Size.Y,G h.1.Size.Z])) J ?_
 obtain ⟨g,gp,b⟩:=q9 b
 refine Q5 (qic h.1 g gp) J<|q0 J<|O (.d (.agg [G g.1.Lo.X,G g.1.Lo.Y,G g.1.Lo.Z,G g.1.Hi.X,G g.1.Hi.Y,G g.1.Hi.Z])) J<|O (q6 g.2) J<|Qe J J<|qz 4 (.dat 6 [[G g.1.Lo.X,G g.1.Lo.Y,G g.1.Lo.Z,G g.1.Hi.X,G g.1.Hi.Y,G g.1.Hi.Z]]) J<|qb J<|qa<|qh<|qc<|q0 J<|O (qg (h.2 != 0)) J ?_
 obtain ⟨gq,ag,b⟩:=q9 b
 refine Q9 4 (fun A st=>∃ (dt du dv : V),st = A [(165,qg gq),(164,dv),(163,du),(162,dt)]) ?_ ?_
 ·refine Q8 J J ag (fun ag=>?_) (fun ag=>?_)
  ·refine qd J<|qd J<|O (qg true) J<|qa ?_
   obtain rfl:=qe ag
   exact ⟨_,_,_,J⟩
  refine q0 J<|O (qg (g.2 != 0)) J<|O (qg (g.2 != 0)) J<|qa ?_
  obtain rfl:=qe ag
  exact ⟨_,_,_,J⟩
 rintro _ ⟨dt,du,dv,rfl⟩
 refine qa ?_
 refine qp J b (fun _ b=>?_) (fun _ b=>?_)
 ·refine qc<|qb J<|qv ?_
  obtain rfl:=qe b
  exact Q4 (qg false) J
 refine qo<|qc<|O (.d (.agg [G f.1.Lo.X,G f.1.Lo.Y,G f.1.Lo.Z,G f.1.Hi.X,G f.1.Hi.Y,G f.1.Hi.Z])) J<|q3g (es:=6) ([f.1].map Q6) J J J J J<|O (.d (.agg [G g.1.Lo.X,G g.1.Lo.Y,G g.1.Lo.Z,G g.1.Hi.X,G g.1.Hi.Y,G g.1.Hi.Z])) J<|q3g (es:=6) ([g.1].map Q6) J J J J J ?_
 obtain ⟨p,gr,b⟩:=q9 b
 refine Q5 (qyv [f.1] [g.1] p gr) J<|q0 J<|O (.d (.sl 6 (p.1.map Q6))) J<|O (q6 p.2) J<|qb J<|qb J<|qs<|O (.d (.agg [G f.1.Lo.X,G f.1.Lo.Y,G f.1.Lo.Z,G f.1.Hi.X,G f.1.Hi.Y,G f.1.Hi.Z])) J<|q3g (es:=6) ([f.1].map Q6) J J J J J<|O (.d (.agg [G g.1.Lo.X,G g.1.Lo.Y,G g.1.Lo.Z,G g.1.Hi.X,G g.1.Hi.Y,G g.1.Hi.Z])) J<|q3g (es:=6) ([g.1].map Q6) J J J J J ?_
 obtain ⟨u,gs,b⟩:=q9 b
 refine Q5 (qyx [f.1] [g.1] u gs) J<|q0 J<|O (.d (.sl 6 (u.1.map Q6))) J<|O (q6 u.2) J<|qb J<|qb J<|qs<|q0 J ?_
 obtain ⟨q,gt,b⟩:=q9 b
 refine Q5 (qff u.1 q gt) J<|q0 J<|O (q6 q.1) J<|O (q6 q.2) J<|qb J<|qb J<|qs<|O (.d (.agg [G g.1.Lo.X,G g.1.Lo.Y,G g.1.Lo.Z,G g.1.Hi.X,G g.1.Hi.Y,G g.1.Hi.Z])) J<|Ql (.hs 9 6 0 [g.1].length) (.dat 6 ([g.1].map Q6)) J ?_
 obtain ⟨n,gu,b⟩:=q9 b
 refine q4z [.hs 9 6 0 [g.1].length] (qff [g.1] n gu) J J (Ju (Jb J J) J) (.inr J)<|q0 J<|O (q6 n.1) J<|O (q6 n.2) J<|qb J<|qb J<|qa<|qh<|Qd [q8,q8,qr 0,q8,q8,q8,q8,qr 0,q8,q8,q8,q8] qj<|q0 J ?_
 obtain ⟨v,dw,b⟩:=q9 b
 refine Z4 dw J J J J J<|O (.ref 0 42 0 (j.toNat * 7 + 4)) J<|O (.ref 0 42 0 (j.toNat * 7 + 4)) J<|q3h (enc:=Zi) (q6 v.Size.X) dw (fun _=>rfl) J J J J J J<|q0 J ?_
 obtain ⟨w,dx,b⟩:=q9 b
 refine Z4 dx J J J J J<|O (.ref 0 42 0 (j.toNat * 7 + 4)) J<|O (.ref 0 42 0 (j.toNat * 7 + 5)) J<|q3h (enc:=Zi) (q6 w.Size.Y) dx (fun _=>rfl) J J J J J J<|O (.d (G (w64 (v.Size.X * w.Size.Y)))) J<|qb J<|qs<|q0 J ?_
 obtain ⟨gv,ah,b⟩:=q9 b
 refine Q9 4 (fun A st=>∃ (dy dz fa : V),st = A [(208,qg gv),(207,fa),(206,dz),(205,dy)]) ?_ ?_
 ·refine Q8 J J ah (fun ah=>?_) (fun ah=>?_)
  ·refine q0 J<|O (qg (p.2 == 0)) J<|O (qg (p.2 == 0)) J<|qa ?_
   obtain rfl:=qe ah
   exact ⟨_,_,_,J⟩
  refine qd J<|qd J<|O (qg false) J<|qa ?_
  obtain rfl:=qe ah
  exact ⟨_,_,_,J⟩
 rintro _ ⟨dy,dz,fa,rfl⟩
 obtain ⟨gw,ai,b⟩:=q9 b
 refine Q9 5 (fun A st=>∃ (fb fc fd fe : V),st = A [(213,qg gw),(212,fe),(211,fd),(210,fc),(209,fb)]) ?_ ?_
 ·refine Q8 J J ai (fun ai=>?_) (fun ai=>?_)
  ·refine q0 J<|Qy J<|O (.d (.bool ((p.1.length : Int) == 0))) J<|O (.d (.bool ((p.1.length : Int) == 0))) J<|qa ?_
   obtain rfl:=qe ai
   exact ⟨_,_,_,_,J⟩
  refine qd J<|qd J<|qd J<|O (qg false) J<|qa ?_
  obtain rfl:=qe ai
  exact ⟨_,_,_,_,J⟩
 rintro _ ⟨fb,fc,fd,fe,rfl⟩
 obtain ⟨gy,aj,b⟩:=q9 b
 refine Q9 4 (fun A st=>∃ (ff fg fh : V),st = A [(217,qg gy),(216,fh),(215,fg),(214,ff)]) ?_ ?_
 ·refine Q8 J J aj (fun aj=>?_) (fun aj=>?_)
  ·refine q0 J<|O (qg (u.2 == 0)) J<|O (qg (u.2 == 0)) J<|qa ?_
   obtain rfl:=qe aj
   exact ⟨_,_,_,J⟩
  refine qd J<|qd J<|O (qg false) J<|qa ?_
  obtain rfl:=qe aj
  exact ⟨_,_,_,J⟩
 rintro _ ⟨ff,fg,fh,rfl⟩
 obtain ⟨gz,ak,b⟩:=q9 b
 refine Q9 4 (fun A st=>∃ (fi fj fk : V),st = A [(221,qg gz),(220,fk),(219,fj),(218,fi)]) ?_ ?_
 ·refine Q8 J J ak (fun ak=>?_) (fun ak=>?_)
  ·refine q0 J<|O (qg (q.2 == 0)) J<|O (qg (q.2 == 0)) J<|qa ?_
   obtain rfl:=qe ak
   exact ⟨_,_,_,J⟩
  refine qd J<|qd J<|O (qg false) J<|qa ?_
  obtain rfl:=qe ak
  exact ⟨_,_,_,J⟩
 rintro _ ⟨fi,fj,fk,rfl⟩
 obtain ⟨ha,al,b⟩:=q9 b
 refine Q9 4 (fun A st=>∃ (fl fm fn : V),st = A [(225,qg ha),(224,fn),(223,fm),(222,fl)]) ?_ ?_
 ·refine Q8 J J al (fun al=>?_) (fun al=>?_)
  ·refine q0 J<|O (qg (n.2 == 0)) J<|O (qg (n.2 == 0)) J<|qa ?_
   obtain rfl:=qe al
   exact ⟨_,_,_,J⟩
  refine qd J<|qd J<|O (qg false) J<|qa ?_
  obtain rfl:=qe al
  exact ⟨_,_,_,J⟩
 rintro _ ⟨fl,fm,fn,rfl⟩
 obtain ⟨fo,am,b⟩:=q9 b
 refine Q9 10 (fun A st=>∃ (fq fr fs ft fu fv fw fx fy : V),st = A [(235,qg fo),(234,fy),(233,fx),(232,fw),(231,fv),(230,fu),(229,ft),(228,fs),(227,fr),(226,fq)]) ?_ ?_
 ·refine Q8 J J am (fun am=>?_) (fun am=>?_)
  ·refine q0 J<|q0 J<|q0 J<|O (.d (G (w64 (m.1 + n.1)))) J<|q0 J<|O (.d (G (w64 (2 * (w64 (v.Size.X * w.Size.Y)))))) J<|O (.d (G (w64 ((w64 (m.1 + n.1)) - (w64 (2 * (w64 (v.Size.X * w.Size.Y)))))))) J<|O (.d (.bool (q.1 == (w64 ((w64 (m.1 + n.1)) - (w64 (2 * (w64 (v.Size.X * w.Size.Y))))))))) J<|O (.d (.bool (q.1 == (w64 ((w64 (m.1 + n.1)) - (w64 (2 * (w64 (v.Size.X * w.Size.Y))))))))) J<|qa ?_
   obtain rfl:=qe am
   exact ⟨_,_,_,_,_,_,_,_,_,J⟩
  refine qd J<|qd J<|qd J<|qd J<|qd J<|qd J<|qd J<|qd J<|O (qg false) J<|qa ?_
  obtain rfl:=qe am
  exact ⟨_,_,_,_,_,_,_,_,_,J⟩
 rintro _ ⟨fq,fr,fs,ft,fu,fv,fw,fx,fy,rfl⟩
 refine qb J<|qv ?_
 obtain rfl:=qe b
 exact Q4 (qg fo) J
end Go.Proofs.YtlchefooafpdlaaGreat
