/- W_All -/
import Derived.Test.YtbknppciefodiaaGreatK18
namespace Go.Proofs.YtbknppciefodiaaGreat
open Go Go.Am Go.Sh
set_option maxHeartbeats 8000000
set_option maxRecDepth 100000
theorem q11l (c : Bool) (d : Bool) (r : Bool) (b : qd6 c d = some r) : Pure Tryz.prog tab 114 [.bool c,.bool d] (.bool r):=by
 unfold qd6 at b
 refine Qf Tryz.func114 J qh qh J<|qc<|qb J<|qp<|O J ?_
 obtain ⟨h,a,b⟩:=q6 b
 refine Q2 3 (fun A st=>∃ f g,st = A [(8,qu h),(7,g),(6,f)]) ?_ ?_
 ·refine Q0 J J a (fun a=>?_) (fun a=>?_)
  ·refine O J<|G _ J<|qa ?_
   obtain rfl:=qd a
   exact ⟨_,_,J⟩
  refine q8 J<|G _ J<|qa ?_
  obtain rfl:=qd a
  exact ⟨_,_,J⟩
 rintro _ ⟨f,g,rfl⟩
 refine qb J<|qo ?_
 obtain rfl:=qd b
 exact qy _ J
theorem q11m (b : List qj) (c : List qj) (r : List qj × Int) (a : q7l b c = some r) : Pure Tryz.prog tab 86 [.sl 2 (b.map Q8),.sl 2 (c.map Q8)] (.tup [.sl 2 (r.1.map Q8),q9 r.2]):=by
 unfold q7l at a
 refine Qf Tryz.func86 J qh qh J<|qc<|qb J<|qb J<|qp<|O J<|O J ?_
 obtain ⟨g,h,a⟩:=q6 a
 refine qz (qng b c (fun d f=>qd6 d f) 114 [] (fun d f r hr=>q11l d f r hr) g h) J<|G _ J<|G _ J<|qb J<|qb J<|qo ?_
 obtain rfl:=qd a
 exact qy _ J
theorem qvy (b : List qi) (c : List qi) (r : List qi × Int) (a : q5z b c = some r) : Pure Tryz.prog tab 59 [.sl 4 (b.map qw),.sl 4 (c.map qw)] (.tup [.sl 4 (r.1.map qw),q9 r.2]):=by
 unfold q5z at a
 refine Qf Tryz.func59 J qh qh J<|qc<|qb J<|qb J<|qp<|O J<|O J ?_
 obtain ⟨g,h,a⟩:=q6 a
 refine qz (qly b c (fun d f=>q7l d f) 86 [] (fun d f r hr=>q11m d f r hr) g h) J<|G _ J<|G _ J<|qb J<|qb J<|qo ?_
 obtain rfl:=qd a
 exact qy _ J
theorem q114 (b : List qg) (c : List qg) (r : List qg × Int) (a : qad b c = some r) : Pure Tryz.prog tab 35 [.sl 6 (b.map Q6),.sl 6 (c.map Q6)] (.tup [.sl 6 (r.1.map Q6),q9 r.2]):=by
 unfold qad at a
 refine Qf Tryz.func35 J qh qh J<|qc<|qb J<|qb J<|qp<|O J<|O J<|G _ J ?_
 obtain ⟨g,h,a⟩:=q6 a
 refine qz (qn5 b c (fun d f=>q5z d f) 59 [] (fun d f r hr=>qvy d f r hr) g h) J<|G _ J<|G _ J<|qb J<|qb J<|qo ?_
 obtain rfl:=qd a
 exact qy _ J
theorem q13l (c : Qn) (n : List (List qg)) (p2 : Int) (p3 : Int) (r : Bool) (a : qbw c n p2 p3 = some r) : Pure Tryz.prog tab 8 [.agg [.sl 7 (c.Lines.map Kb),.sl 5 (c.Marks.map Kj),.int .u8 c.End.Frame.Turn,q9 c.End.Frame.At.X,q9 c.End.Frame.At.Y,q9 c.End.Frame.At.Z,q9 c.End.Drawn],.sl 1 (n.map Ql),q9 p2,q9 p3] (.bool r):=by
 unfold qbw at a
 refine Qf Tryz.func8 J qh qh J<|qc<|Qj _ _ J<|qb J<|qp ?_
 obtain ⟨r1,h2,a⟩:=q6 a
 refine qz (qsb r1 h2) J<|qb J<|qa<|qf<|qc<|G _ J<|O J ?_
 obtain ⟨r3,h4,a⟩:=q6 a
 refine qz (qsc c n r3 h4) J<|G _ J ?_
 obtain ⟨c5,o,a⟩:=q6 a
 refine Q2 4 (fun A st=>∃ j7 j8 j9,st = A [(29,qu c5),(28,j9),(27,j8),(26,j7)]) ?_ ?_
 ·refine Q0 J J o (fun o=>?_) (fun o=>?_)
  ·refine q8 J<|q8 J<|G _ J<|qa ?_
   obtain rfl:=qd o
   exact ⟨_,_,_,J⟩
  refine O J<|G _ J<|G _ J<|qa ?_
  obtain rfl:=qd o
  exact ⟨_,_,_,J⟩
 rintro _ ⟨j7,j8,j9,rfl⟩
 obtain ⟨lc,p,a⟩:=q6 a
 refine Q2 5 (fun A st=>∃ an ao ap aq,st = A [(34,qu lc),(33,aq),(32,ap),(31,ao),(30,an)]) ?_ ?_
 ·refine Q0 J J p (fun p=>?_) (fun p=>?_)
  ·refine q8 J<|q8 J<|q8 J<|G _ J<|qa ?_
   obtain rfl:=qd p
   exact ⟨_,_,_,_,J⟩
  refine O J<|O J<|G _ J<|G _ J<|qa ?_
  obtain rfl:=qd p
  exact ⟨_,_,_,_,J⟩
 rintro _ ⟨an,ao,ap,aq,rfl⟩
 obtain ⟨ld,q,a⟩:=q6 a
 refine Q2 7 (fun A st=>∃ ar au av aw ax ay,st = A [(41,qu ld),(40,ay),(39,ax),(38,aw),(37,av),(36,au),(35,ar)]) ?_ ?_
 ·refine Q0 J J q (fun q=>?_) (fun q=>?_)
  ·refine q8 J<|q8 J<|q8 J<|q8 J<|q8 J<|G _ J<|qa ?_
   obtain rfl:=qd q
   exact ⟨_,_,_,_,_,_,J⟩
  refine O J<|G _ J<|G _ J<|Qa J<|G _ J<|G _ J<|qa ?_
  obtain rfl:=qd q
  exact ⟨_,_,_,_,_,_,J⟩
 rintro _ ⟨ar,au,av,aw,ax,ay,rfl⟩
 obtain ⟨lf,s,a⟩:=q6 a
 refine Q2 4 (fun A st=>∃ az ba bb,st = A [(45,qu lf),(44,bb),(43,ba),(42,az)]) ?_ ?_
 ·refine Q0 J J s (fun s=>?_) (fun s=>?_)
  ·refine q8 J<|q8 J<|G _ J<|qa ?_
   obtain rfl:=qd s
   exact ⟨_,_,_,J⟩
  refine O J<|G _ J<|G _ J<|qa ?_
  obtain rfl:=qd s
  exact ⟨_,_,_,J⟩
 rintro _ ⟨az,ba,bb,rfl⟩
 refine qa ?_
 refine qm J a (fun _ a=>?_) (fun _ a=>?_)
 ·refine qc<|O J<|qb J<|qo ?_
  obtain rfl:=qd a
  exact qy _ J
 refine qk<|qc<|G _ J<|O J ?_
 obtain ⟨lg,lh,a⟩:=q6 a
 refine qz (qgp c n lg lh) J<|O J<|G _ J<|G _ J<|qb J<|qb J<|qp<|G _ J<|O J ?_
 obtain ⟨ag,li,a⟩:=q6 a
 refine qz (qnt c n ag li) J<|O J<|G _ J<|G _ J<|qb J<|qb J<|qa<|qf<|qc<|O J<|G _ J ?_
 obtain ⟨lj,t,a⟩:=q6 a
 refine Q2 4 (fun A st=>∃ bc bd be,st = A [(64,qu lj),(63,be),(62,bd),(61,bc)]) ?_ ?_
 ·refine Q0 J J t (fun t=>?_) (fun t=>?_)
  ·refine q8 J<|q8 J<|G _ J<|qa ?_
   obtain rfl:=qd t
   exact ⟨_,_,_,J⟩
  refine O J<|G _ J<|G _ J<|qa ?_
  obtain rfl:=qd t
  exact ⟨_,_,_,J⟩
 rintro _ ⟨bc,bd,be,rfl⟩
 refine qa ?_
 refine qm J a (fun _ a=>?_) (fun _ a=>?_)
 ·refine qc<|O J ?_
  obtain ⟨lk,u,a⟩:=q6 a
  refine Q2 5 (fun A st=>∃ bf bg bh bi,st = A [(70,qu lk),(69,bi),(68,bh),(67,bg),(66,bf)]) ?_ ?_
  ·refine Q0 J J u (fun u=>?_) (fun u=>?_)
   ·refine O J<|O J<|G _ J<|G _ J<|qa ?_
    obtain rfl:=qd u
    exact ⟨_,_,_,_,J⟩
   refine q8 J<|q8 J<|q8 J<|G _ J<|qa ?_
   obtain rfl:=qd u
   exact ⟨_,_,_,_,J⟩
  rintro _ ⟨bf,bg,bh,bi,rfl⟩
  obtain ⟨ll,j,a⟩:=q6 a
  refine Q2 8 (fun A st=>∃ bj bk bl bm bn bo bp,st = A [(78,qu ll),(77,bp),(76,bo),(75,bn),(74,bm),(73,bl),(72,bk),(71,bj)]) ?_ ?_
  ·refine Q0 J J j (fun j=>?_) (fun j=>?_)
   ·refine O J<|G _ J ?_
    obtain ⟨lm,v,j⟩:=q6 j
    refine Q2 4 (fun A st=>∃ bq br bs,st = A [(77,qu lm),(76,bs),(75,br),(74,bq)]) ?_ ?_
    ·refine Q0 J J v (fun v=>?_) (fun v=>?_)
     ·refine q8 J<|q8 J<|G _ J<|qa ?_
      obtain rfl:=qd v
      exact ⟨_,_,_,J⟩
     refine O J<|G _ J<|G _ J<|qa ?_
     obtain rfl:=qd v
     exact ⟨_,_,_,J⟩
    rintro _ ⟨bq,br,bs,rfl⟩
    refine G _ J<|qa ?_
    obtain rfl:=qd j
    exact ⟨_,_,_,_,_,_,_,J⟩
   refine q8 J<|q8 J<|q8 J<|q8 J<|q8 J<|q8 J<|G _ J<|qa ?_
   obtain rfl:=qd j
   exact ⟨_,_,_,_,_,_,_,J⟩
  rintro _ ⟨bj,bk,bl,bm,bn,bo,bp,rfl⟩
  refine qb J<|qo ?_
  obtain rfl:=qd a
  exact qy _ J
 refine qk<|qf<|qc<|O J<|Qa J<|G _ J<|G _ J<|Qa J<|G _ J<|qa ?_
 refine qm J a (fun _ a=>?_) (fun _ a=>?_)
 ·refine qc<|qb J<|qo ?_
  obtain rfl:=qd a
  exact qy _ J
 refine qk<|qf<|Q9 [U,U,U,U,U,U,U,U,U,U,U,U,U,U] qh<|O J<|O J ?_
 obtain ⟨lo,lp,a⟩:=q6 a
 refine Q1 lp J<|G _ J<|O J<|O J ?_
 obtain ⟨lq,lr,a⟩:=q6 a
 refine Q1 lr J<|G _ J ?_
 obtain ⟨ah,ls,a⟩:=q6 a
 refine qz (q114 lo lq ah ls) J<|O J<|G _ J<|G _ J<|qb J<|qb J<|qa<|qf<|Q9 [Qm 2,Qm 1,(some [],[2]),(some [],[1]),U,U,U,qq 0,U,U,U,U,qq 0,U] qh<|G _ J<|G _ J<|O J ?_
 obtain ⟨mr,lu,a⟩:=q6 a
 refine Q1 lu J<|G _ J<|G _ J<|G _ J<|O J ?_
 obtain ⟨ms,lv,a⟩:=q6 a
 refine Q1 lv J<|G _ J<|Qv J J<|Qv J J<|Qd 1 _ J<|Qd 2 _ J<|qp<|O J<|G _ J ?_
 obtain ⟨lw,w,a⟩:=q6 a
 refine Q2 5 (fun A st=>∃ bt bu bv bw,st = A [(113,qu lw),(112,bw),(111,bv),(110,bu),(109,bt)]) ?_ ?_
 ·refine Q0 J J w (fun w=>?_) (fun w=>?_)
  ·refine O J<|Qa J<|G _ J<|G _ J<|qa ?_
   obtain rfl:=qd w
   exact ⟨_,_,_,_,J⟩
  refine q8 J<|q8 J<|q8 J<|G _ J<|qa ?_
  obtain rfl:=qd w
  exact ⟨_,_,_,_,J⟩
 rintro _ ⟨bt,bu,bv,bw,rfl⟩
 obtain ⟨lx,x,a⟩:=q6 a
 refine Q2 7 (fun A st=>∃ bz ca cb cc cd ce,st = A [(120,qu lx),(119,ce),(118,cd),(117,cc),(116,cb),(115,ca),(114,bz)]) ?_ ?_
 ·refine Q0 J J x (fun x=>?_) (fun x=>?_)
  ·refine G _ J<|G _ J<|G _ J<|G _ J<|G _ J<|G _ J<|qa ?_
   obtain rfl:=qd x
   exact ⟨_,_,_,_,_,_,J⟩
  refine q8 J<|q8 J<|q8 J<|q8 J<|q8 J<|G _ J<|qa ?_
  obtain rfl:=qd x
  exact ⟨_,_,_,_,_,_,J⟩
 rintro _ ⟨bz,ca,cb,cc,cd,ce,rfl⟩
 obtain ⟨ly,y,a⟩:=q6 a
 refine Q2 7 (fun A st=>∃ cf cg ch ci cj ck,st = A [(127,qu ly),(126,ck),(125,cj),(124,ci),(123,ch),(122,cg),(121,cf)]) ?_ ?_
 ·refine Q0 J J y (fun y=>?_) (fun y=>?_)
  ·refine G _ J<|G _ J<|G _ J<|G _ J<|G _ J<|G _ J<|qa ?_
   obtain rfl:=qd y
   exact ⟨_,_,_,_,_,_,J⟩
  refine q8 J<|q8 J<|q8 J<|q8 J<|q8 J<|G _ J<|qa ?_
  obtain rfl:=qd y
  exact ⟨_,_,_,_,_,_,J⟩
 rintro _ ⟨cf,cg,ch,ci,cj,ck,rfl⟩
 obtain ⟨lz,z,a⟩:=q6 a
 refine Q2 7 (fun A st=>∃ cm cn co cp cq cr,st = A [(134,qu lz),(133,cr),(132,cq),(131,cp),(130,co),(129,cn),(128,cm)]) ?_ ?_
 ·refine Q0 J J z (fun z=>?_) (fun z=>?_)
  ·refine G _ J<|G _ J<|G _ J<|G _ J<|G _ J<|G _ J<|qa ?_
   obtain rfl:=qd z
   exact ⟨_,_,_,_,_,_,J⟩
  refine q8 J<|q8 J<|q8 J<|q8 J<|q8 J<|G _ J<|qa ?_
  obtain rfl:=qd z
  exact ⟨_,_,_,_,_,_,J⟩
 rintro _ ⟨cm,cn,co,cp,cq,cr,rfl⟩
 obtain ⟨ai,aa,a⟩:=q6 a
 refine Q2 7 (fun A st=>∃ cs ct cu cv cw cx,st = A [(141,qu ai),(140,cx),(139,cw),(138,cv),(137,cu),(136,ct),(135,cs)]) ?_ ?_
 ·refine Q0 J J aa (fun aa=>?_) (fun aa=>?_)
  ·refine G _ J<|G _ J<|G _ J<|G _ J<|G _ J<|G _ J<|qa ?_
   obtain rfl:=qd aa
   exact ⟨_,_,_,_,_,_,J⟩
  refine q8 J<|q8 J<|q8 J<|q8 J<|q8 J<|G _ J<|qa ?_
  obtain rfl:=qd aa
  exact ⟨_,_,_,_,_,_,J⟩
 rintro _ ⟨cs,ct,cu,cv,cw,cx,rfl⟩
 refine qb J<|qp<|qb J<|qa<|qf<|qc<|qb J<|qa ?_
 obtain ⟨cy,ma,a⟩:=q6 a
 refine Qc (fun ae=>.inl ae = cy) (fun ae=>⟨[(9,qu r1),(15,q7 ah.2),(18,qu ai),(19,qu ae)],[],0⟩) qe ?_ ?_
 ·refine Q5 (q3e ag p2 p3) (fun aj=>⟨[(2,q7 p2),(3,q7 p3),(9,qu r1),(12,.d (.sl 2 (ag.1.map Jn))),(15,q7 ah.2),(18,qu ai),(19,qu aj.1),(20,q7 aj.2)],[],0⟩) (false,0) cy ma (wkA [] [] []) ?_
  intro aj mt b
  unfold q3e at b
  refine qf<|qc<|O J<|O J<|Qa J<|G _ J<|qa ?_
  refine qm J b (fun _ b=>?_) (fun _ b=>?_)
  ·refine qk<|qf<|qx<|qc<|O J ?_
   obtain ⟨mb,k,b⟩:=q6 b
   refine Q2 10 (fun A st=>∃ cz da dc dd de df dg dh dj,st = A [(158,qu mb),(157,dj),(156,dh),(155,dg),(154,df),(153,de),(152,dd),(151,dc),(150,da),(149,cz)]) ?_ ?_
   ·refine Q0 J J k (fun k=>?_) (fun k=>?_)
    ·refine q8 J<|q8 J<|q8 J<|q8 J<|q8 J<|q8 J<|q8 J<|q8 J<|G _ J<|qa ?_
     obtain rfl:=qd k
     exact ⟨_,_,_,_,_,_,_,_,_,J⟩
    refine O J<|O J ?_
    obtain ⟨mu,mc,k⟩:=q6 k
    refine Q1 mc J<|G _ J<|O J<|O J<|G _ J<|G _ J<|G _ J<|qa ?_
    obtain rfl:=qd k
    exact ⟨_,_,_,_,_,_,_,_,_,J⟩
   rintro _ ⟨cz,da,dc,dd,de,df,dg,dh,dj,rfl⟩
   refine qb J<|qa<|qf<|Q9 [U,U,U,U,U,U,U,U,U,U,U,U,U,U,U,U,U,U,U,U,U,U,U,U,U,U,U,U,U,U,U,U,U,U,U,U,U,U,U,U,U,U,U,U,U,U,U,U,U,U,U,U,U,U,U,U,U] qh<|O J<|O J ?_
   obtain ⟨mv,md,b⟩:=q6 b
   refine Q1 md J<|G _ J<|G _ J<|O J<|O J ?_
   obtain ⟨mw,me,b⟩:=q6 b
   refine Q1 me J<|G _ J<|G _ J<|G _ J ?_
   obtain ⟨mf,l,b⟩:=q6 b
   refine Q2 46 (fun A st=>∃ dk dl dm dn dp dq dr ds dt du dv dw dx dy dz fa fb fc fd fe ff fg fh fi fj fk fl fm fn fo fq fr fs ft fu fv fw fx fy fz ga gb gc gd ge,st = A [(215,qu mf),(214,ge),(213,gd),(212,gc),(211,gb),(210,ga),(209,fz),(208,fy),(207,fx),(206,fw),(205,fv),(204,fu),(203,ft),(202,fs),(201,fr),(200,fq),(199,fo),(198,fn),(197,fm),(196,fl),(195,fk),(194,fj),(193,fi),(192,fh),(191,fg),(190,ff),(189,fe),(188,fd),(187,fc),(186,fb),(185,fa),(184,dz),(183,dy),(182,dx),(181,dw),(180,dv),(179,du),(178,dt),(177,ds),(176,dr),(175,dq),(174,dp),(173,dn),(172,dm),(171,dl),(170,dk)]) ?_ ?_
   ·refine Q0 J J l (fun l=>?_) (fun l=>?_)
    ·refine q8 J<|q8 J<|q8 J<|q8 J<|q8 J<|q8 J<|q8 J<|q8 J<|q8 J<|q8 J<|q8 J<|q8 J<|q8 J<|q8 J<|q8 J<|q8 J<|q8 J<|q8 J<|q8 J<|q8 J<|q8 J<|q8 J<|q8 J<|q8 J<|q8 J<|q8 J<|q8 J<|q8 J<|q8 J<|q8 J<|q8 J<|q8 J<|q8 J<|q8 J<|q8 J<|q8 J<|q8 J<|q8 J<|q8 J<|q8 J ?_
     refine q8 J<|q8 J<|q8 J<|q8 J<|G _ J<|qa ?_
     obtain rfl:=qd l
     exact ⟨_,_,_,_,_,_,_,_,_,_,_,_,_,_,_,_,_,_,_,_,_,_,_,_,_,_,_,_,_,_,_,_,_,_,_,_,_,_,_,_,_,_,_,_,_,J⟩
    refine O J<|G _ J ?_
    obtain ⟨mg,f,l⟩:=q6 l
    refine Q2 42 (fun A st=>∃ gf gg gh gi gj gk gl gm gn go gp gq gr gs gt gu gv gw gy gz ha hc hd he hf hg hh hi hj hk hl hn ho hp hq hr ht hu hv hw hx,st = A [(214,qu mg),(213,hx),(212,hw),(211,hv),(210,hu),(209,ht),(208,hr),(207,hq),(206,hp),(205,ho),(204,hn),(203,hl),(202,hk),(201,hj),(200,hi),(199,hh),(198,hg),(197,hf),(196,he),(195,hd),(194,hc),(193,ha),(192,gz),(191,gy),(190,gw),(189,gv),(188,gu),(187,gt),(186,gs),(185,gr),(184,gq),(183,gp),(182,go),(181,gn),(180,gm),(179,gl),(178,gk),(177,gj),(176,gi),(175,gh),(174,gg),(173,gf)]) ?_ ?_
    ·refine Q0 J J f (fun f=>?_) (fun f=>?_)
     ·refine O J<|O J<|G _ J ?_
      obtain ⟨mx,mh,f⟩:=q6 f
      refine Q1 mh J<|G _ J<|G _ J<|O J<|O J ?_
      obtain ⟨my,mi,f⟩:=q6 f
      refine Q1 mi J<|G _ J<|G _ J<|G _ J ?_
      obtain ⟨mj,g,f⟩:=q6 f
      refine Q2 28 (fun A st=>∃ hy hz ja jb jc jd je jf jg jh ji jj jk jl jm jn jo jp jq jr js jt ju jv jw jx jy,st = A [(213,qu mj),(212,jy),(211,jx),(210,jw),(209,jv),(208,ju),(207,jt),(206,js),(205,jr),(204,jq),(203,jp),(202,jo),(201,jn),(200,jm),(199,jl),(198,jk),(197,jj),(196,ji),(195,jh),(194,jg),(193,jf),(192,je),(191,jd),(190,jc),(189,jb),(188,ja),(187,hz),(186,hy)]) ?_ ?_
      ·refine Q0 J J g (fun g=>?_) (fun g=>?_)
       ·refine q8 J<|q8 J<|q8 J<|q8 J<|q8 J<|q8 J<|q8 J<|q8 J<|q8 J<|q8 J<|q8 J<|q8 J<|q8 J<|q8 J<|q8 J<|q8 J<|q8 J<|q8 J<|q8 J<|q8 J<|q8 J<|q8 J<|q8 J<|q8 J<|q8 J<|q8 J<|G _ J<|qa ?_
        obtain rfl:=qd g
        exact ⟨_,_,_,_,_,_,_,_,_,_,_,_,_,_,_,_,_,_,_,_,_,_,_,_,_,_,_,J⟩
       refine O J<|O J<|G _ J ?_
       obtain ⟨mz,mk,g⟩:=q6 g
       refine Q1 mk J<|G _ J<|G _ J<|O J<|O J ?_
       obtain ⟨na,ml,g⟩:=q6 g
       refine Q1 ml J<|G _ J<|G _ J<|G _ J ?_
       obtain ⟨mm,h,g⟩:=q6 g
       refine Q2 14 (fun A st=>∃ jz ka kb kc kd ke kf kg kh ki kj kk kl,st = A [(212,qu mm),(211,kl),(210,kk),(209,kj),(208,ki),(207,kh),(206,kg),(205,kf),(204,ke),(203,kd),(202,kc),(201,kb),(200,ka),(199,jz)]) ?_ ?_
       ·refine Q0 J J h (fun h=>?_) (fun h=>?_)
        ·refine O J<|O J<|G _ J ?_
         obtain ⟨nb,mn,h⟩:=q6 h
         refine Q1 mn J<|G _ J<|G _ J<|O J<|O J ?_
         obtain ⟨nc,mo,h⟩:=q6 h
         refine Q1 mo J<|G _ J<|G _ J<|G _ J<|G _ J<|qa ?_
         obtain rfl:=qd h
         exact ⟨_,_,_,_,_,_,_,_,_,_,_,_,_,J⟩
        refine q8 J<|q8 J<|q8 J<|q8 J<|q8 J<|q8 J<|q8 J<|q8 J<|q8 J<|q8 J<|q8 J<|q8 J<|G _ J<|qa ?_
        obtain rfl:=qd h
        exact ⟨_,_,_,_,_,_,_,_,_,_,_,_,_,J⟩
       rintro _ ⟨jz,ka,kb,kc,kd,ke,kf,kg,kh,ki,kj,kk,kl,rfl⟩
       refine G _ J<|qa ?_
       obtain rfl:=qd g
       exact ⟨_,_,_,_,_,_,_,_,_,_,_,_,_,_,_,_,_,_,_,_,_,_,_,_,_,_,_,J⟩
      rintro _ ⟨hy,hz,ja,jb,jc,jd,je,jf,jg,jh,ji,jj,jk,jl,jm,jn,jo,jp,jq,jr,js,jt,ju,jv,jw,jx,jy,rfl⟩
      refine G _ J<|qa ?_
      obtain rfl:=qd f
      exact ⟨_,_,_,_,_,_,_,_,_,_,_,_,_,_,_,_,_,_,_,_,_,_,_,_,_,_,_,_,_,_,_,_,_,_,_,_,_,_,_,_,_,J⟩
     refine q8 J<|q8 J<|q8 J<|q8 J<|q8 J<|q8 J<|q8 J<|q8 J<|q8 J<|q8 J<|q8 J<|q8 J<|q8 J<|q8 J<|q8 J<|q8 J<|q8 J<|q8 J<|q8 J<|q8 J<|q8 J<|q8 J<|q8 J<|q8 J<|q8 J<|q8 J<|q8 J<|q8 J<|q8 J<|q8 J<|q8 J<|q8 J<|q8 J<|q8 J<|q8 J<|q8 J<|q8 J<|q8 J<|q8 J<|q8 J ?_
     refine G _ J<|qa ?_
     obtain rfl:=qd f
     exact ⟨_,_,_,_,_,_,_,_,_,_,_,_,_,_,_,_,_,_,_,_,_,_,_,_,_,_,_,_,_,_,_,_,_,_,_,_,_,_,_,_,_,J⟩
    rintro _ ⟨gf,gg,gh,gi,gj,gk,gl,gm,gn,go,gp,gq,gr,gs,gt,gu,gv,gw,gy,gz,ha,hc,hd,he,hf,hg,hh,hi,hj,hk,hl,hn,ho,hp,hq,hr,ht,hu,hv,hw,hx,rfl⟩
    refine G _ J<|qa ?_
    obtain rfl:=qd l
    exact ⟨_,_,_,_,_,_,_,_,_,_,_,_,_,_,_,_,_,_,_,_,_,_,_,_,_,_,_,_,_,_,_,_,_,_,_,_,_,_,_,_,_,_,_,_,_,J⟩
   rintro _ ⟨dk,dl,dm,dn,dp,dq,dr,ds,dt,du,dv,dw,dx,dy,dz,fa,fb,fc,fd,fe,ff,fg,fh,fi,fj,fk,fl,fm,fn,fo,fq,fr,fs,ft,fu,fv,fw,fx,fy,fz,ga,gb,gc,gd,ge,rfl⟩
   refine qa ?_
   refine qm J b (fun _ b=>?_) (fun _ b=>?_)
   ·refine qc<|qb J<|qo ?_
    refine ⟨_,(Option.some.inj b).symm,fun hm=>?_⟩
    subst hm
    obtain rfl:=qd a
    exact qy _ J
   refine qk<|Q7<|Qg<|qt<|O J<|G _ J<|qb J<|qr ?_
   exact ⟨_,(Option.some.inj b).symm,wkA [] [] []⟩
  refine Q3 ?_
  refine ⟨_,(Option.some.inj b).symm,fun hm=>?_⟩
  subst hm
  exact ⟨_,J,wkA [] [] []⟩
 intro ae hb
 subst hb
 refine qc<|O J ?_
 obtain ⟨mp,m,a⟩:=q6 a
 refine Q2 9 (fun A st=>∃ km kn ko kp kq kr ks kt,st = A [(225,qu mp),(224,kt),(223,ks),(222,kr),(221,kq),(220,kp),(219,ko),(218,kn),(217,km)]) ?_ ?_
 ·refine Q0 J J m (fun m=>?_) (fun m=>?_)
  ·refine O J<|G _ J ?_
   obtain ⟨mq,ab,m⟩:=q6 m
   refine Q2 5 (fun A st=>∃ ku kv kw kx,st = A [(224,qu mq),(223,kx),(222,kw),(221,kv),(220,ku)]) ?_ ?_
   ·refine Q0 J J ab (fun ab=>?_) (fun ab=>?_)
    ·refine q8 J<|q8 J<|q8 J<|G _ J<|qa ?_
     obtain rfl:=qd ab
     exact ⟨_,_,_,_,J⟩
    refine O J<|O J<|G _ J<|G _ J<|qa ?_
    obtain rfl:=qd ab
    exact ⟨_,_,_,_,J⟩
   rintro _ ⟨ku,kv,kw,kx,rfl⟩
   refine G _ J<|qa ?_
   obtain rfl:=qd m
   exact ⟨_,_,_,_,_,_,_,_,J⟩
  refine q8 J<|q8 J<|q8 J<|q8 J<|q8 J<|q8 J<|q8 J<|G _ J<|qa ?_
  obtain rfl:=qd m
  exact ⟨_,_,_,_,_,_,_,_,J⟩
 rintro _ ⟨km,kn,ko,kp,kq,kr,ks,kt,rfl⟩
 refine qb J<|qo ?_
 obtain rfl:=qd a
 exact qy _ J
end Go.Proofs.YtbknppciefodiaaGreat
