/- W_Alld -/
import Derived.Test.YtiejlbckgihckaaGreatK17
namespace Go.Proofs.YtiejlbckgihckaaGreat
open Go Go.Am Go.Sh
set_option maxHeartbeats 8000000
set_option maxRecDepth 100000
theorem ql3 (b : List qk) (c : List qk) (p2 : List qi→List qi→Option (List qi × Int)) (p2F : FuncId) (p2C : List DV) (p2Ok : ∀ (x0 : List qi) (x1 : List qi) (r : List qi × Int),p2 x0 x1 = some r→Pure Tryz.prog tab p2F ([.sl 2 (x0.map Qi),.sl 2 (x1.map Qi)] ++ p2C) (.tup [.sl 2 (r.1.map Qi),qb r.2])) (r : List qk × Int) (p : q5p b c p2 = some r) : Pure Tryz.prog tab 53 [.sl 4 (b.map Q8),.sl 4 (c.map Q8),.fn p2F p2C] (.tup [.sl 4 (r.1.map Q8),qb r.2]):=by
 unfold q5p at p;refine Qn Tryz.func53 J qg qg J<|qc<|Qq (.ref 0 1 0 0) (.dat 1 [[.fn p2F p2C]]) J<|Qs J J<|Qs J J<|q9<|qf<|qc<|U J<|U J<|q8 p fun r1 h2 p=>Qd (qud b c r1 h2) J<|qa J<|qu<|U J<|O (Q3 (r1 != 0)) J<|q9 ?_;refine qo J p (fun _ p=>?_) (fun _ p=>?_)
 ·refine qc<|U J<|Q7 1 (.dat 1 [[.nilsl]]) J<|Q7 2 (.dat 1 [[qb r1]]) J<|qq ?_;obtain rfl:=qt p;exact finD (.inr J) (v:=.d (.tup [.nilsl,qb r1])) J J (Y4 (.cons (.nil _) (.cons (.refl _) .nil)))
 refine ql<|qc<|Qs J J<|q9<|qf<|qc<|U J<|U J<|Qq (.hs 4 1 0 [b,c].length) (.dat 1 ([b,c].map Ks)) J<|q8 p fun ca q p=>?_;refine q1j [.hs 4 1 0 [b,c].length] (fun j=>j = ca) (fun (j : List Int)=>⟨[(5,.ref 0 1 0 0),(6,.ref 1 1 0 0),(7,.ref 2 1 0 0),(9,.ref 3 4 0 0),(22,.fn 107 [.ref 4 1 0 0,.ref 5 1 0 0])],[(0,.dat 1 [[.fn p2F p2C]]),(1,.dat 1 [[.nilsl]]),(2,.dat 1 [[qb 0]]),(3,.dat 4 [[.nilsl,.nilsl,qb 0,qb 0]]),(4,.cel 1 [[.d (.sl 1 (j.map (eI .i64)))]]),(5,.cel 1 [[.hs 6 1 0 [b,c].length]]),(6,.dat 1 ([b,c].map Ks))],7⟩) J J Tryz.func77 J qg qg J ?_ ?_
 ·refine qc<|Qq (.ref 5 1 0 0) (.cel 1 [[.hs 4 1 0 [b,c].length]]) J<|qa J<|qu<|Qs J J<|q9<|qf<|qc<|O (.hs 4 1 0 [b,c].length) J<|O (q7 2) J<|U J<|q9<|Q4<|Yp<|qc<|O (Q3 true) J<|q9<|qf<|Zj J<|ql<|qf<|q8 q fun cb ap q=>?_;refine Qt (fun an=>an = cb) (fun (an : List Int)=>⟨[(1,.ref 5 1 0 0),(3,.ref 6 1 0 0),(8,.hs 4 1 0 [b,c].length),(9,q7 2),(10,q7 0)],[(0,.dat 1 [[.fn p2F p2C]]),(1,.dat 1 [[.nilsl]]),(2,.dat 1 [[qb 0]]),(3,.dat 4 [[.nilsl,.nilsl,qb 0,qb 0]]),(4,.dat 1 ([b,c].map Ks)),(5,.cel 1 [[.hs 4 1 0 [b,c].length]]),(6,.cel 1 [[.hs 7 1 0 an.length]]),(7,.dat 1 (an.map (eI .i64)))],8⟩) qe ?_ ?_
  ·refine qc<|q8 ap fun aq bi ap=>qy bi J J<|Qc (.d (.sl 4 (aq.map Q8))) bi J<|qa J<|qu<|U J<|Qz J<|U J<|q9<|q8 ap fun cc cd ap=>Q4<|Qo (qbo aq) (fun (ae : Int × List Int)=>⟨[(1,.ref 5 1 0 0),(3,.ref 6 1 0 0),(8,.hs 4 1 0 [b,c].length),(9,q7 2),(10,q7 0),(14,.d (.sl 4 (aq.map Q8))),(15,q7 (aq.length : Int)),(16,q7 ae.1)],[(0,.dat 1 [[.fn p2F p2C]]),(1,.dat 1 [[.nilsl]]),(2,.dat 1 [[qb 0]]),(3,.dat 4 [[.nilsl,.nilsl,qb 0,qb 0]]),(4,.dat 1 ([b,c].map Ks)),(5,.cel 1 [[.hs 4 1 0 [b,c].length]]),(6,.cel 1 [[.hs 7 1 0 ae.2.length]]),(7,.dat 1 (ae.2.map (eI .i64)))],8⟩) (0,[]) cc cd (wkA [(5,5),(6,6)] [] [7]) ?_;intro ae dw z;unfold qbo at z;refine qc<|O (.d (.bool (decide (ae.1 < (aq.length : Int))))) J<|q9<|qf ?_;refine qo J z (fun _ z=>?_) (fun _ z=>?_)
   ·refine ql<|qf<|Q4<|qc<|q8 z fun k ce z=>K1 (enc:=Q8) ce J<|O (.d (.agg [qb k.X0,qb k.Y0,qb k.X1,qb k.Y1])) J<|Qs J J<|Q7 8 (.dat 4 [[qb k.X0,qb k.Y0,qb k.X1,qb k.Y1]]) J<|q9<|Q0<|O (.hs 7 1 0 ae.2.length) J<|O (.ref 8 4 0 0) J<|O (q7 k.X0) J<|O (.ref 8 4 0 2) J<|O (q7 k.X1) J<|Qq (.hs 9 1 0 [k.X0,k.X1].length) (.dat 1 ([k.X0,k.X1].map (eI .i64))) J<|q8 z fun cf cg z=>Yz (xs:=ae.2) (ys:=[k.X0,k.X1]) (enc:=(eI .i64)) (.hs 9 1 0 [k.X0,k.X1].length) cg J J J J J J J (Yy J J) J J J J<|Q7 6 (.cel 1 [[.hs 10 1 0 cf.length]]) J<|qz<|Qm<|Q0<|O (.d (qb (w64 (ae.1 + 1)))) J<|U J<|qz<|⟨_,qr z,wkA [(5,5),(6,6),(7,10)] [] []⟩
   refine Qf ?_;refine ⟨_,qr z,fun hm=>?_⟩;subst hm;obtain rfl:=qt ap;exact ⟨_,J,wkA [(5,5),(6,6),(7,7)] [] []⟩
  intro an hb;subst hb;refine Q0<|O (q7 1) J<|U J<|q9<|Yp<|qc<|O (Q3 true) J<|q9<|qf<|Zj J<|ql<|qf<|q8 q fun ch ar q=>?_;refine Qt (fun s=>s = ch) (fun (s : List Int)=>⟨[(1,.ref 5 1 0 0),(3,.ref 6 1 0 0),(8,.hs 4 1 0 [b,c].length),(9,q7 2),(10,q7 1)],[(0,.dat 1 [[.fn p2F p2C]]),(1,.dat 1 [[.nilsl]]),(2,.dat 1 [[qb 0]]),(3,.dat 4 [[.nilsl,.nilsl,qb 0,qb 0]]),(4,.dat 1 ([b,c].map Ks)),(5,.cel 1 [[.hs 4 1 0 [b,c].length]]),(6,.cel 1 [[.hs 7 1 0 s.length]]),(7,.dat 1 (s.map (eI .i64)))],8⟩) qe ?_ ?_
  ·refine qc<|q8 ar fun au bj ar=>qy bj J J<|Qc (.d (.sl 4 (au.map Q8))) bj J<|qa J<|qu<|U J<|Qz J<|U J<|q9<|q8 ar fun ci cj ar=>Q4<|Qo (qbp au) (fun (af : Int × List Int)=>⟨[(1,.ref 5 1 0 0),(3,.ref 6 1 0 0),(8,.hs 4 1 0 [b,c].length),(9,q7 2),(10,q7 1),(14,.d (.sl 4 (au.map Q8))),(15,q7 (au.length : Int)),(16,q7 af.1)],[(0,.dat 1 [[.fn p2F p2C]]),(1,.dat 1 [[.nilsl]]),(2,.dat 1 [[qb 0]]),(3,.dat 4 [[.nilsl,.nilsl,qb 0,qb 0]]),(4,.dat 1 ([b,c].map Ks)),(5,.cel 1 [[.hs 4 1 0 [b,c].length]]),(6,.cel 1 [[.hs 7 1 0 af.2.length]]),(7,.dat 1 (af.2.map (eI .i64)))],8⟩) (0,an) ci cj (wkA [(5,5),(6,6),(7,7)] [] []) ?_;intro af dx aa;unfold qbp at aa;refine qc<|O (.d (.bool (decide (af.1 < (au.length : Int))))) J<|q9<|qf ?_;refine qo J aa (fun _ aa=>?_) (fun _ aa=>?_)
   ·refine ql<|qf<|Q4<|qc<|q8 aa fun l ck aa=>K1 (enc:=Q8) ck J<|O (.d (.agg [qb l.X0,qb l.Y0,qb l.X1,qb l.Y1])) J<|Qs J J<|Q7 8 (.dat 4 [[qb l.X0,qb l.Y0,qb l.X1,qb l.Y1]]) J<|q9<|Q0<|O (.hs 7 1 0 af.2.length) J<|O (.ref 8 4 0 0) J<|O (q7 l.X0) J<|O (.ref 8 4 0 2) J<|O (q7 l.X1) J<|Qq (.hs 9 1 0 [l.X0,l.X1].length) (.dat 1 ([l.X0,l.X1].map (eI .i64))) J<|q8 aa fun cl cm aa=>Yz (xs:=af.2) (ys:=[l.X0,l.X1]) (enc:=(eI .i64)) (.hs 9 1 0 [l.X0,l.X1].length) cm J J J J J J J (Yy J J) J J J J<|Q7 6 (.cel 1 [[.hs 10 1 0 cl.length]]) J<|qz<|Qm<|Q0<|O (.d (qb (w64 (af.1 + 1)))) J<|U J<|qz<|⟨_,qr aa,wkA [(5,5),(6,6),(7,10)] [] []⟩
   refine Qf ?_;refine ⟨_,qr aa,fun hm=>?_⟩;subst hm;obtain rfl:=qt ar;exact ⟨_,J,wkA [(5,5),(6,6),(7,7)] [] []⟩
  intro s hb;subst hb;refine Q0<|O (q7 2) J<|U J<|q9<|Yp<|qc<|O (Q3 false) J<|q9<|qf<|Z2 J<|Qf<|Jx<|qc<|O (.hs 7 1 0 s.length) J<|q8 q fun bf cn q=>q8 q fun dy co q=>?_;have cp:=Km co;refine Kc [(0,7)] [(0,1),(1,1),(2,1),(3,1),(4,1),(5,1),(6,1),(7,0)] [.hs 7 1 0 s.length] (.d (.tup [])) 1 [(7,.dat 1 (bf.map (eI .i64))),(0,.dat 1 [[.fn p2F p2C]]),(1,.dat 1 [[.nilsl]]),(2,.dat 1 [[qb 0]]),(3,.dat 4 [[.nilsl,.nilsl,qb 0,qb 0]]),(4,.dat 1 ([b,c].map Ks)),(5,.cel 1 [[.hs 4 1 0 [b,c].length]]),(6,.cel 1 [[.hs 7 1 0 s.length]])] 8 (qc5 s bf cn)<|qu<|O (.hs 7 1 0 s.length) J<|q8 q fun ak cq q=>q8 q fun dz cr q=>?_;have fa:=Km cr;refine q8 q fun fb cs q=>?_;have ct:=qcj cs;refine U1 [(0,7)] [(0,1),(1,1),(2,1),(3,1),(4,1),(5,1),(6,1),(7,0)] [.hs 7 1 0 s.length] (.hs 7 1 ak.1.1 ak.1.2) [(7,.dat 1 (ak.2.map (eI .i64)))] [(7,.dat 1 (ak.2.map (eI .i64))),(0,.dat 1 [[.fn p2F p2C]]),(1,.dat 1 [[.nilsl]]),(2,.dat 1 [[qb 0]]),(3,.dat 4 [[.nilsl,.nilsl,qb 0,qb 0]]),(4,.dat 1 ([b,c].map Ks)),(5,.cel 1 [[.hs 4 1 0 [b,c].length]]),(6,.cel 1 [[.hs 7 1 0 s.length]])] 8 (qbw bf ak cq) J J J (Yi [(0,7)] [] [] J ⟨⟨_,J,K4 (by simp [cp]) J qn (ltd J)⟩,trivial⟩ ⟨Qk J J,trivial⟩) (Yi [(0,1),(1,1),(2,1),(3,1),(4,1),(5,1),(6,1),(7,0)] [] [] J ⟨⟨_,J,.hs J qn (ltd J)⟩,trivial⟩ ⟨Qk J J,trivial⟩) J ⟨.inl J,.inr ⟨J,J⟩,.inr ⟨J,J⟩,.inr ⟨J,J⟩,.inr ⟨J,J⟩,.inr ⟨J,J⟩,.inr ⟨J,J⟩,.inr ⟨J,J⟩,trivial⟩<|Q7 6 (.cel 1 [[.hs 7 1 ak.1.1 ak.1.2]]) J<|qu<|O (.fn 107 [.ref 6 1 0 0,.ref 5 1 0 0]) J<|qa J<|qq ?_;refine ⟨.inr J,_,J,?_⟩;obtain rfl:=qt q;exact ⟨_,J,wkE [(0,0),(1,1),(2,2),(3,3),(4,6),(5,5),(6,4)] [7] [] J ⟨⟨_,J,.ref J qn (ltd J)⟩,⟨_,J,.ref J qn (ltd J)⟩,⟨_,J,.ref J qn (ltd J)⟩,⟨_,J,.ref J qn (ltd J)⟩,⟨_,J,(Uy (.cons (.ref J qn (ltd J)) (.cons (.ref J qn (ltd J)) .nil)))⟩,trivial⟩ ⟨Qk J J,Qk J J,Qk J J,Qk J J,⟨ltd J,.inr ⟨qn,_,J,Zl (.cons (qco ct J qn) J .nil)⟩⟩,⟨ltd J,.inr ⟨qn,_,J,Zl (.cons (.hs J qn (ltd J)) J .nil)⟩⟩,Qk J J,trivial⟩⟩
 intro j hb;subst hb;refine q9<|Q4<|q8 p fun cu bd p=>?_;refine q3y (fun t=>.inl t = cu) (fun (t : List qi × Int × Int × List qk)=>⟨[(6,.ref 0 1 0 0),(7,.ref 1 1 0 0),(9,.ref 2 4 0 0)],[(0,.dat 1 [[.nilsl]]),(1,.dat 1 [[qb 0]]),(2,.cel 4 [[.hs 3 4 0 t.2.2.2.length,.d (.sl 2 (t.1.map Qi)),q7 t.2.1,q7 t.2.2.1]]),(3,.dat 4 (t.2.2.2.map Q8))],4⟩) ?_ ?_
 ·refine Yq (st':=⟨[(5,.ref 0 1 0 0),(6,.ref 1 1 0 0),(7,.ref 2 1 0 0),(9,.ref 3 4 0 0),(22,.fn 107 [.ref 4 1 0 0,.ref 5 1 0 0])],[(0,.dat 1 [[.fn p2F p2C]]),(1,.dat 1 [[.nilsl]]),(2,.dat 1 [[qb 0]]),(3,.dat 4 [[.nilsl,.nilsl,qb 0,qb 0]]),(4,.cel 1 [[.d (.sl 1 (j.map (eI .i64)))]]),(5,.cel 1 [[.hs 6 1 0 [b,c].length]]),(6,.dat 1 ([b,c].map Ks))],7⟩) (wkA [(0,0),(1,1),(2,2),(3,3),(4,4),(5,5),(6,6)] [] []) ?_ qe;refine q3z [.ref 4 1 0 0,.ref 5 1 0 0] (.inl J) Tryz.func107 J qg qg J ?_;intro A1439 B1440 hA1439 hB1440;refine qc<|qa J<|q9<|q8 bd fun cv cw bd=>Q4<|Qo (q3x j b c p2) (fun (a : Int × List qi × Int × Int × List qk)=>⟨[(0,.yld 7),(1,.ref 4 1 0 0),(2,.ref 5 1 0 0),(4,q7 a.1)],[(0,.dat 1 [[.fn p2F p2C]]),(1,.dat 1 [[.nilsl]]),(2,.dat 1 [[qb 0]]),(3,.cel 4 [[.hs 8 4 0 a.2.2.2.2.length,.d (.sl 2 (a.2.1.map Qi)),q7 a.2.2.1,q7 a.2.2.2.1]]),(4,.cel 1 [[.d (.sl 1 (j.map (eI .i64)))]]),(5,.cel 1 [[.hs 6 1 0 [b,c].length]]),(6,.dat 1 ([b,c].map Ks)),(7,.loop [(5,.ref 0 1 0 0),(6,.ref 1 1 0 0),(7,.ref 2 1 0 0),(9,.ref 3 4 0 0),(22,.fn 107 [.ref 4 1 0 0,.ref 5 1 0 0])] [23] A1439 B1440 .ready none),(8,.dat 4 (a.2.2.2.2.map Q8))],9⟩) (1,[],0,0,[]) cv cw (wkA [] [] [8]) ?_;intro a fc o;unfold q3x at o;refine qf<|qc<|U J<|O (.d (.sl 1 (j.map (eI .i64)))) J<|Qz J<|O (.d (.bool (decide (a.1 < (j.length : Int))))) J<|q9 ?_;refine qo J o (fun _ o=>?_) (fun _ o=>?_)
  ·refine ql<|qf<|Q4<|qf<|Qj [Qp 10,(some [],[10]),q6,(some [],[9]),q6,qv 5,q6,q6,q6,qv 4,q6,q6,q6,q6,qv 4] qg<|O (.d (.sl 1 (j.map (eI .i64)))) J<|U J<|O (.d (qb (w64 (a.1 - 1)))) J<|q8 o fun f cx o=>K1 (enc:=(eI .i64)) cx J<|O (q7 f) J<|O (.d (.sl 1 (j.map (eI .i64)))) J<|U J<|q8 o fun m cy o=>K1 (enc:=(eI .i64)) cy J<|O (q7 m) J<|O (.hs 6 1 0 [b,c].length) J<|O (q7 2) J<|Qq (.hs 9 1 0 2) (.dat 1 [[.nilsl],[.nilsl]]) J<|O (.agg [q7 f,q7 m,.hs 9 1 0 2]) J<|Qs J J<|Q7 10 (.cel 3 [[q7 f,q7 m,.hs 9 1 0 2]]) J<|q9<|qf<|qc<|O (.hs 6 1 0 [b,c].length) J<|O (q7 2) J<|U J<|q9<|Q4<|Yp<|qc<|O (Q3 true) J<|q9<|qf<|Zj J<|ql<|qf<|q8 o fun cz av o=>?_;refine Qt (fun n=>n = cz) (fun (n : List qi)=>⟨[(0,.yld 7),(1,.ref 4 1 0 0),(2,.ref 5 1 0 0),(4,q7 a.1),(5,.ref 8 3 0 0),(29,.hs 6 1 0 [b,c].length),(30,q7 2),(31,q7 0)],[(0,.dat 1 [[.fn p2F p2C]]),(1,.dat 1 [[.nilsl]]),(2,.dat 1 [[qb 0]]),(3,.cel 4 [[.hs 9 4 0 a.2.2.2.2.length,.d (.sl 2 (a.2.1.map Qi)),q7 a.2.2.1,q7 a.2.2.2.1]]),(4,.cel 1 [[.d (.sl 1 (j.map (eI .i64)))]]),(5,.cel 1 [[.hs 6 1 0 [b,c].length]]),(6,.dat 1 ([b,c].map Ks)),(7,.loop [(5,.ref 0 1 0 0),(6,.ref 1 1 0 0),(7,.ref 2 1 0 0),(9,.ref 3 4 0 0),(22,.fn 107 [.ref 4 1 0 0,.ref 5 1 0 0])] [23] A1439 B1440 .ready none),(8,.cel 3 [[q7 f,q7 m,.hs 10 1 0 2]]),(9,.dat 4 (a.2.2.2.2.map Q8)),(10,.cel 1 [[.hs 11 2 0 n.length],[.d (.nilsl)]]),(11,.dat 2 (n.map Qi))],12⟩) qe ?_ ?_
   ·refine qc<|U J<|q8 av fun al bk av=>qy bk J J<|Qc (.d (.sl 4 (al.map Q8))) bk J<|qa J<|qa J<|qu<|U J<|Qz J<|U J<|q9<|q8 av fun da dc av=>Q4<|Qo (qbq al f) (fun (ab : Int × List qi)=>⟨[(0,.yld 7),(1,.ref 4 1 0 0),(2,.ref 5 1 0 0),(4,q7 a.1),(5,.ref 8 3 0 0),(6,q7 0),(29,.hs 6 1 0 [b,c].length),(30,q7 2),(31,q7 0),(36,.d (.sl 4 (al.map Q8))),(37,q7 (al.length : Int)),(38,q7 ab.1)],[(0,.dat 1 [[.fn p2F p2C]]),(1,.dat 1 [[.nilsl]]),(2,.dat 1 [[qb 0]]),(3,.cel 4 [[.hs 9 4 0 a.2.2.2.2.length,.d (.sl 2 (a.2.1.map Qi)),q7 a.2.2.1,q7 a.2.2.2.1]]),(4,.cel 1 [[.d (.sl 1 (j.map (eI .i64)))]]),(5,.cel 1 [[.hs 6 1 0 [b,c].length]]),(6,.dat 1 ([b,c].map Ks)),(7,.loop [(5,.ref 0 1 0 0),(6,.ref 1 1 0 0),(7,.ref 2 1 0 0),(9,.ref 3 4 0 0),(22,.fn 107 [.ref 4 1 0 0,.ref 5 1 0 0])] [23] A1439 B1440 .ready none),(8,.cel 3 [[q7 f,q7 m,.hs 10 1 0 2]]),(9,.dat 4 (a.2.2.2.2.map Q8)),(10,.cel 1 [[.hs 11 2 0 ab.2.length],[.d (.nilsl)]]),(11,.dat 2 (ab.2.map Qi))],12⟩) (0,[]) da dc (wkA [(8,10),(9,8),(10,9)] [] [11]) ?_;intro ab fd ag;unfold qbq at ag;refine qc<|O (.d (.bool (decide (ab.1 < (al.length : Int))))) J<|q9<|qf ?_;refine qo J ag (fun _ ag=>?_) (fun _ ag=>?_)
    ·refine ql<|qf<|q8 ag fun dd x ag=>?_;refine Qt (fun aw=>aw = dd) (fun (aw : List qi)=>⟨[(0,.yld 7),(1,.ref 4 1 0 0),(2,.ref 5 1 0 0),(4,q7 a.1),(5,.ref 8 3 0 0),(6,q7 0),(29,.hs 6 1 0 [b,c].length),(30,q7 2),(31,q7 0),(36,.d (.sl 4 (al.map Q8))),(37,q7 (al.length : Int)),(38,q7 ab.1)],[(0,.dat 1 [[.fn p2F p2C]]),(1,.dat 1 [[.nilsl]]),(2,.dat 1 [[qb 0]]),(3,.cel 4 [[.hs 9 4 0 a.2.2.2.2.length,.d (.sl 2 (a.2.1.map Qi)),q7 a.2.2.1,q7 a.2.2.2.1]]),(4,.cel 1 [[.d (.sl 1 (j.map (eI .i64)))]]),(5,.cel 1 [[.hs 6 1 0 [b,c].length]]),(6,.dat 1 ([b,c].map Ks)),(7,.loop [(5,.ref 0 1 0 0),(6,.ref 1 1 0 0),(7,.ref 2 1 0 0),(9,.ref 3 4 0 0),(22,.fn 107 [.ref 4 1 0 0,.ref 5 1 0 0])] [23] A1439 B1440 .ready none),(8,.cel 3 [[q7 f,q7 m,.hs 10 1 0 2]]),(9,.dat 4 (a.2.2.2.2.map Q8)),(10,.cel 1 [[.hs 11 2 0 aw.length],[.d (.nilsl)]]),(11,.dat 2 (aw.map Qi))],12⟩) qe ?_ ?_
     ·refine qc<|q8 x fun g de x=>K1 (enc:=Q8) de J<|O (.d (.agg [qb g.X0,qb g.Y0,qb g.X1,qb g.Y1])) J<|Qs J J<|Q7 12 (.dat 4 [[qb g.X0,qb g.Y0,qb g.X1,qb g.Y1]]) J<|qu<|O (.ref 12 4 0 0) J<|O (q7 g.X0) J<|O (.ref 8 3 0 0) J<|O (q7 f) J<|O (.d (.bool (decide (g.X0≤f)))) J<|q8 x fun df ax x=>?_;refine Qg 7 (fun A st=>∃ (bl bm bn bo bp bq : V),st = A [(53,Q3 df),(52,bq),(51,bp),(50,bo),(49,bn),(48,bm),(47,bl)]) ?_ ?_
      ·refine Qe J J ax (fun ax=>?_) (fun ax=>?_)
       ·refine O (.ref 8 3 0 0) J<|O (q7 f) J<|O (.ref 12 4 0 2) J<|O (q7 g.X1) J<|O (.d (.bool (decide (f < g.X1)))) J<|O (.d (.bool (decide (f < g.X1)))) J<|q9 ?_;cases ax;exact ⟨_,_,_,_,_,_,J⟩
       refine qd J<|qd J<|qd J<|qd J<|qd J<|O (Q3 false) J<|q9 ?_;cases ax;exact ⟨_,_,_,_,_,_,J⟩
      rintro _ ⟨bl,bm,bn,bo,bp,bq,rfl⟩;refine q9 ?_;refine qo J x (fun _ x=>?_) (fun _ x=>?_)
      ·refine Qj [Qp 10,q6,(some [11,13],[11,14]),(some [],[13]),q6,qv 12,q6,qv 12,q6,qv 10,q6,q6,qv 8,q6,q6,qv 8,q6] qg<|O (.ref 8 3 0 2) J<|O (.hs 10 1 0 2) J<|U J<|O (.ref 8 3 0 2) J<|O (.hs 10 1 0 2) J<|U J<|O (.ref 10 1 0 0) J<|O (.hs 11 2 0 ab.2.length) J<|O (.ref 12 4 0 1) J<|O (q7 g.Y0) J<|O (.ref 12 4 0 3) J<|O (q7 g.Y1) J<|O (.d (.agg [qb g.Y0,qb g.Y1])) J<|Qq (.hs 13 2 0 [({Lo:=g.Y0,Hi:=g.Y1} : qi)].length) (.dat 2 ([({Lo:=g.Y0,Hi:=g.Y1} : qi)].map Qi)) J<|q8 x fun dg dh x=>Yz (xs:=ab.2) (ys:=[({Lo:=g.Y0,Hi:=g.Y1} : qi)]) (enc:=Qi) (.hs 13 2 0 [({Lo:=g.Y0,Hi:=g.Y1} : qi)].length) dh J J J J J J J (Yy J J) J J J J<|O (.ref 10 1 0 0) J<|Q7 10 (.cel 1 [[.hs 14 2 0 dg.length],[.d (.nilsl)]]) J<|qz ?_;obtain rfl:=qt x;exact ⟨_,J,wkA [(8,8),(9,9),(10,10),(11,14)] [] []⟩
      refine ql<|Qh ?_;obtain rfl:=qt x;exact ⟨_,J,wkA [(8,8),(9,9),(10,10),(11,11)] [] []⟩
     intro aw hb;subst hb;refine Q0<|O (.d (qb (w64 (ab.1 + 1)))) J<|U J<|qz<|⟨_,qr ag,wkA [(8,8),(9,9),(10,10),(11,11)] [] []⟩
    refine Qf ?_;refine ⟨_,qr ag,fun hm=>?_⟩;subst hm;obtain rfl:=qt av;exact ⟨_,J,wkA [(8,8),(9,9),(10,10),(11,11)] [] []⟩
   intro n hb;subst hb;refine Q0<|O (q7 1) J<|U J<|q9<|Yp<|qc<|O (Q3 true) J<|q9<|qf<|Zj J<|ql<|qf<|q8 o fun dj ay o=>?_;refine Qt (fun u=>u = dj) (fun (u : List qi)=>⟨[(0,.yld 7),(1,.ref 4 1 0 0),(2,.ref 5 1 0 0),(4,q7 a.1),(5,.ref 8 3 0 0),(29,.hs 6 1 0 [b,c].length),(30,q7 2),(31,q7 1)],[(0,.dat 1 [[.fn p2F p2C]]),(1,.dat 1 [[.nilsl]]),(2,.dat 1 [[qb 0]]),(3,.cel 4 [[.hs 9 4 0 a.2.2.2.2.length,.d (.sl 2 (a.2.1.map Qi)),q7 a.2.2.1,q7 a.2.2.2.1]]),(4,.cel 1 [[.d (.sl 1 (j.map (eI .i64)))]]),(5,.cel 1 [[.hs 6 1 0 [b,c].length]]),(6,.dat 1 ([b,c].map Ks)),(7,.loop [(5,.ref 0 1 0 0),(6,.ref 1 1 0 0),(7,.ref 2 1 0 0),(9,.ref 3 4 0 0),(22,.fn 107 [.ref 4 1 0 0,.ref 5 1 0 0])] [23] A1439 B1440 .ready none),(8,.cel 3 [[q7 f,q7 m,.hs 10 1 0 2]]),(9,.dat 4 (a.2.2.2.2.map Q8)),(10,.cel 1 [[.hs 11 2 0 n.length],[.hs 12 2 0 u.length]]),(11,.dat 2 (n.map Qi)),(12,.dat 2 (u.map Qi))],13⟩) qe ?_ ?_
   ·refine qc<|U J<|q8 ay fun am br ay=>qy br J J<|Qc (.d (.sl 4 (am.map Q8))) br J<|qa J<|qa J<|qu<|U J<|Qz J<|U J<|q9<|q8 ay fun dk dl ay=>Q4<|Qo (qbr am f) (fun (ac : Int × List qi)=>⟨[(0,.yld 7),(1,.ref 4 1 0 0),(2,.ref 5 1 0 0),(4,q7 a.1),(5,.ref 8 3 0 0),(6,q7 1),(29,.hs 6 1 0 [b,c].length),(30,q7 2),(31,q7 1),(36,.d (.sl 4 (am.map Q8))),(37,q7 (am.length : Int)),(38,q7 ac.1)],[(0,.dat 1 [[.fn p2F p2C]]),(1,.dat 1 [[.nilsl]]),(2,.dat 1 [[qb 0]]),(3,.cel 4 [[.hs 9 4 0 a.2.2.2.2.length,.d (.sl 2 (a.2.1.map Qi)),q7 a.2.2.1,q7 a.2.2.2.1]]),(4,.cel 1 [[.d (.sl 1 (j.map (eI .i64)))]]),(5,.cel 1 [[.hs 6 1 0 [b,c].length]]),(6,.dat 1 ([b,c].map Ks)),(7,.loop [(5,.ref 0 1 0 0),(6,.ref 1 1 0 0),(7,.ref 2 1 0 0),(9,.ref 3 4 0 0),(22,.fn 107 [.ref 4 1 0 0,.ref 5 1 0 0])] [23] A1439 B1440 .ready none),(8,.cel 3 [[q7 f,q7 m,.hs 10 1 0 2]]),(9,.dat 4 (a.2.2.2.2.map Q8)),(10,.cel 1 [[.hs 11 2 0 n.length],[.hs 12 2 0 ac.2.length]]),(11,.dat 2 (n.map Qi)),(12,.dat 2 (ac.2.map Qi))],13⟩) (0,[]) dk dl (wkA [(8,8),(9,9),(10,10),(11,11)] [] [12]) ?_;intro ac fe ah;unfold qbr at ah;refine qc<|O (.d (.bool (decide (ac.1 < (am.length : Int))))) J<|q9<|qf ?_;refine qo J ah (fun _ ah=>?_) (fun _ ah=>?_)
    ·refine ql<|qf<|q8 ah fun dm y ah=>?_;refine Qt (fun az=>az = dm) (fun (az : List qi)=>⟨[(0,.yld 7),(1,.ref 4 1 0 0),(2,.ref 5 1 0 0),(4,q7 a.1),(5,.ref 8 3 0 0),(6,q7 1),(29,.hs 6 1 0 [b,c].length),(30,q7 2),(31,q7 1),(36,.d (.sl 4 (am.map Q8))),(37,q7 (am.length : Int)),(38,q7 ac.1)],[(0,.dat 1 [[.fn p2F p2C]]),(1,.dat 1 [[.nilsl]]),(2,.dat 1 [[qb 0]]),(3,.cel 4 [[.hs 9 4 0 a.2.2.2.2.length,.d (.sl 2 (a.2.1.map Qi)),q7 a.2.2.1,q7 a.2.2.2.1]]),(4,.cel 1 [[.d (.sl 1 (j.map (eI .i64)))]]),(5,.cel 1 [[.hs 6 1 0 [b,c].length]]),(6,.dat 1 ([b,c].map Ks)),(7,.loop [(5,.ref 0 1 0 0),(6,.ref 1 1 0 0),(7,.ref 2 1 0 0),(9,.ref 3 4 0 0),(22,.fn 107 [.ref 4 1 0 0,.ref 5 1 0 0])] [23] A1439 B1440 .ready none),(8,.cel 3 [[q7 f,q7 m,.hs 10 1 0 2]]),(9,.dat 4 (a.2.2.2.2.map Q8)),(10,.cel 1 [[.hs 11 2 0 n.length],[.hs 12 2 0 az.length]]),(11,.dat 2 (n.map Qi)),(12,.dat 2 (az.map Qi))],13⟩) qe ?_ ?_
     ·refine qc<|q8 y fun h dn y=>K1 (enc:=Q8) dn J<|O (.d (.agg [qb h.X0,qb h.Y0,qb h.X1,qb h.Y1])) J<|Qs J J<|Q7 13 (.dat 4 [[qb h.X0,qb h.Y0,qb h.X1,qb h.Y1]]) J<|qu<|O (.ref 13 4 0 0) J<|O (q7 h.X0) J<|O (.ref 8 3 0 0) J<|O (q7 f) J<|O (.d (.bool (decide (h.X0≤f)))) J<|q8 y fun dp ba y=>?_;refine Qg 7 (fun A st=>∃ (bs bt bu bv bw bx : V),st = A [(53,Q3 dp),(52,bx),(51,bw),(50,bv),(49,bu),(48,bt),(47,bs)]) ?_ ?_
      ·refine Qe J J ba (fun ba=>?_) (fun ba=>?_)
       ·refine O (.ref 8 3 0 0) J<|O (q7 f) J<|O (.ref 13 4 0 2) J<|O (q7 h.X1) J<|O (.d (.bool (decide (f < h.X1)))) J<|O (.d (.bool (decide (f < h.X1)))) J<|q9 ?_;cases ba;exact ⟨_,_,_,_,_,_,J⟩
       refine qd J<|qd J<|qd J<|qd J<|qd J<|O (Q3 false) J<|q9 ?_;cases ba;exact ⟨_,_,_,_,_,_,J⟩
      rintro _ ⟨bs,bt,bu,bv,bw,bx,rfl⟩;refine q9 ?_;refine qo J y (fun _ y=>?_) (fun _ y=>?_)
      ·refine Qj [Qp 10,q6,(some [12,14],[12,15]),(some [],[14]),q6,qv 13,q6,qv 13,q6,qv 10,q6,q6,qv 8,q6,q6,qv 8,q6] qg<|O (.ref 8 3 0 2) J<|O (.hs 10 1 0 2) J<|U J<|O (.ref 8 3 0 2) J<|O (.hs 10 1 0 2) J<|U J<|O (.ref 10 1 1 0) J<|O (.hs 12 2 0 ac.2.length) J<|O (.ref 13 4 0 1) J<|O (q7 h.Y0) J<|O (.ref 13 4 0 3) J<|O (q7 h.Y1) J<|O (.d (.agg [qb h.Y0,qb h.Y1])) J<|Qq (.hs 14 2 0 [({Lo:=h.Y0,Hi:=h.Y1} : qi)].length) (.dat 2 ([({Lo:=h.Y0,Hi:=h.Y1} : qi)].map Qi)) J<|q8 y fun dq dr y=>Yz (xs:=ac.2) (ys:=[({Lo:=h.Y0,Hi:=h.Y1} : qi)]) (enc:=Qi) (.hs 14 2 0 [({Lo:=h.Y0,Hi:=h.Y1} : qi)].length) dr J J J J J J J (Yy J J) J J J J<|O (.ref 10 1 1 0) J<|Q7 10 (.cel 1 [[.hs 11 2 0 n.length],[.hs 15 2 0 dq.length]]) J<|qz ?_;obtain rfl:=qt y;exact ⟨_,J,wkA [(8,8),(9,9),(10,10),(11,11),(12,15)] [] []⟩
      refine ql<|Qh ?_;obtain rfl:=qt y;exact ⟨_,J,wkA [(8,8),(9,9),(10,10),(11,11),(12,12)] [] []⟩
     intro az hb;subst hb;refine Q0<|O (.d (qb (w64 (ac.1 + 1)))) J<|U J<|qz<|⟨_,qr ah,wkA [(8,8),(9,9),(10,10),(11,11),(12,12)] [] []⟩
    refine Qf ?_;refine ⟨_,qr ah,fun hm=>?_⟩;subst hm;obtain rfl:=qt ay;exact ⟨_,J,wkA [(8,8),(9,9),(10,10),(11,11),(12,12)] [] []⟩
   intro u hb;subst hb;refine Q0<|O (q7 2) J<|U J<|q9<|Yp<|qc<|O (Q3 false) J<|q9<|qf<|Z2 J<|Qf<|Jx<|qf ?_;refine Yq (st':=⟨[(0,.yld 7),(1,.ref 4 1 0 0),(2,.ref 5 1 0 0),(4,q7 a.1),(5,.ref 8 3 0 0)],[(0,.dat 1 [[.fn p2F p2C]]),(1,.dat 1 [[.nilsl]]),(2,.dat 1 [[qb 0]]),(3,.cel 4 [[.hs 9 4 0 a.2.2.2.2.length,.d (.sl 2 (a.2.1.map Qi)),q7 a.2.2.1,q7 a.2.2.2.1]]),(4,.cel 1 [[.d (.sl 1 (j.map (eI .i64)))]]),(5,.cel 1 [[.hs 6 1 0 [b,c].length]]),(6,.dat 1 ([b,c].map Ks)),(7,.loop [(5,.ref 0 1 0 0),(6,.ref 1 1 0 0),(7,.ref 2 1 0 0),(9,.ref 3 4 0 0),(22,.fn 107 [.ref 4 1 0 0,.ref 5 1 0 0])] [23] A1439 B1440 .ready none),(8,.cel 3 [[q7 f,q7 m,.hs 10 1 0 2]]),(9,.dat 4 (a.2.2.2.2.map Q8)),(10,.cel 1 [[.d (.sl 2 (n.map Qi))],[.hs 11 2 0 u.length]]),(11,.dat 2 (u.map Qi))],12⟩) (wkA [(8,8),(9,9),(10,10),(11,12)] [11] []) ?_ qe;refine Yq (st':=⟨[(0,.yld 7),(1,.ref 4 1 0 0),(2,.ref 5 1 0 0),(4,q7 a.1),(5,.ref 8 3 0 0)],[(0,.dat 1 [[.fn p2F p2C]]),(1,.dat 1 [[.nilsl]]),(2,.dat 1 [[qb 0]]),(3,.cel 4 [[.hs 9 4 0 a.2.2.2.2.length,.d (.sl 2 (a.2.1.map Qi)),q7 a.2.2.1,q7 a.2.2.2.1]]),(4,.cel 1 [[.d (.sl 1 (j.map (eI .i64)))]]),(5,.cel 1 [[.hs 6 1 0 [b,c].length]]),(6,.dat 1 ([b,c].map Ks)),(7,.loop [(5,.ref 0 1 0 0),(6,.ref 1 1 0 0),(7,.ref 2 1 0 0),(9,.ref 3 4 0 0),(22,.fn 107 [.ref 4 1 0 0,.ref 5 1 0 0])] [23] A1439 B1440 .ready none),(8,.cel 3 [[q7 f,q7 m,.hs 10 1 0 2]]),(9,.dat 4 (a.2.2.2.2.map Q8)),(10,.cel 1 [[.d (.sl 2 (n.map Qi))],[.d (.sl 2 (u.map Qi))]])],11⟩) (wkA [(8,8),(9,9),(10,10)] [11] []) ?_ qe;refine Q0<|U J<|O (.agg [q7 f,q7 m,.hs 10 1 0 2]) J<|q8 o fun ds ad o=>?_;refine q3s (fun ai=>.inl ai = ds) (fun (ai : List qi × Int × Int × List qk)=>⟨[(0,.yld 7),(1,.ref 4 1 0 0),(2,.ref 5 1 0 0),(4,q7 a.1),(74,Q3 true)],[(0,.dat 1 [[.fn p2F p2C]]),(1,.dat 1 [[.nilsl]]),(2,.dat 1 [[qb 0]]),(3,.cel 4 [[.hs 8 4 0 ai.2.2.2.length,.d (.sl 2 (ai.1.map Qi)),q7 ai.2.1,q7 ai.2.2.1]]),(4,.cel 1 [[.d (.sl 1 (j.map (eI .i64)))]]),(5,.cel 1 [[.hs 6 1 0 [b,c].length]]),(6,.dat 1 ([b,c].map Ks)),(7,.loop [(5,.ref 0 1 0 0),(6,.ref 1 1 0 0),(7,.ref 2 1 0 0),(9,.ref 3 4 0 0),(22,.fn 107 [.ref 4 1 0 0,.ref 5 1 0 0])] [23] A1439 B1440 .ready none),(8,.dat 4 (ai.2.2.2.map Q8))],9⟩) hA1439 hB1440 J J J J J J ?_ ?_
   ·refine Q0<|Qs J J<|Q7 11 (.cel 3 [[q7 f,q7 m,.hs 10 1 0 2]]) J<|qz ?_;refine ⟨J,_,J,?_⟩;refine Q4<|qf<|Qj [q6,q6,q6,q6,q6,q6,qv 10,q6,qv 11,q6,qv 10,q6,qv 11,q6,qv 0] qg<|O (.d (.fn p2F p2C)) J<|O (.ref 11 3 0 2) J<|O (.hs 10 1 0 2) J<|O (.ref 10 1 0 0) J<|O (.d (.sl 2 (n.map Qi))) J<|O (.ref 11 3 0 2) J<|O (.hs 10 1 0 2) J<|O (.ref 10 1 1 0) J<|O (.d (.sl 2 (u.map Qi))) J<|q8 ad fun aj dt ad=>Ym [.d (.sl 2 (n.map Qi)),.d (.sl 2 (u.map Qi))] (p2Ok n u aj dt) J J J (.inl J)<|U J<|O (.d (.sl 2 (aj.1.map Qi))) J<|O (q7 aj.2) J<|qa J<|qa J<|q9<|qf<|qc<|U J<|O (Q3 (aj.2 != 0)) J<|q9 ?_;refine qo J ad (fun _ ad=>?_) (fun _ ad=>?_)
    ·refine qc<|U J<|Q7 1 (.dat 1 [[.nilsl]]) J<|Q7 2 (.dat 1 [[qb aj.2]]) J<|qq ?_;obtain rfl:=qt ad;refine ⟨_,J,?_⟩;refine O (Q3 true) J<|q9<|Zj J<|q1l ?_;refine ⟨_,qr o,fun hm=>?_⟩;subst hm;refine ⟨.inr J,_,J,_,_,.ret,J,qn,?_⟩;refine qcy ?_;obtain rfl:=qt bd;obtain rfl:=qt p;exact finD (.inr J) (v:=.d (.tup [.nilsl,qb aj.2])) J J (Y4 (.cons (.nil _) (.cons (.refl _) .nil)))
    refine ql<|Q0<|O (.ref 11 3 0 0) J<|O (q7 f) J<|O (.ref 11 3 0 1) J<|O (q7 m) J<|U J<|q8 ad fun ao du ad=>Kc [(0,3),(1,9)] [(0,3),(1,3),(2,3),(3,0),(4,3),(5,3),(6,3),(7,3),(8,3),(9,1),(10,3),(11,3),(12,2)] [.ref 3 4 0 0,q7 f,q7 m,.d (.sl 2 (aj.1.map Qi))] (.d (.tup [])) 2 [(3,.cel 4 [[.hs 12 4 0 ao.2.2.2.length,.d (.sl 2 (ao.1.map Qi)),q7 ao.2.1,q7 ao.2.2.1]]),(12,.dat 4 (ao.2.2.2.map Q8)),(0,.dat 1 [[.fn p2F p2C]]),(1,.dat 1 [[.nilsl]]),(2,.dat 1 [[qb 0]]),(4,.cel 1 [[.d (.sl 1 (j.map (eI .i64)))]]),(5,.cel 1 [[.hs 6 1 0 [b,c].length]]),(6,.dat 1 ([b,c].map Ks)),(7,.loop [(5,.ref 0 1 0 0),(6,.ref 1 1 0 0),(7,.ref 2 1 0 0),(9,.ref 3 4 0 0),(22,.fn 107 [.ref 4 1 0 0,.ref 5 1 0 0])] [23] A1439 B1440 .busy none),(8,.cel 3 [[q7 f,q7 m,.hs 10 1 0 2]]),(10,.cel 1 [[.d (.sl 2 (n.map Qi))],[.d (.sl 2 (u.map Qi))]]),(11,.cel 3 [[q7 f,q7 m,.hs 10 1 0 2]])] 13 (ql1 a.2.2.2.2 a.2.1 a.2.2.1 a.2.2.2.1 f m aj.1 ao du)<|qz<|Qm<|Qh ?_;refine ⟨_,J,?_⟩;obtain rfl:=qt ad;exact ⟨_,J,wkA [(8,12)] [] []⟩
   intro ai hb;subst hb;refine O (Q3 false) J<|q9<|Z2 J<|ql<|Qh<|Qm<|Q0<|U J<|O (.d (qb (w64 (a.1 + 1)))) J<|qa J<|qz<|⟨_,qr o,wkA [(8,8)] [] []⟩
  refine Qf ?_;refine ⟨_,qr o,fun hm=>?_⟩;subst hm;refine ⟨.inl J,_,J,_,_,.nor,J,qn,?_⟩;refine q35<|Qh ?_;obtain rfl:=qt bd;exact ⟨_,J,wkA [(0,1),(1,2),(2,3),(3,8)] [] []⟩
 intro t st hb hw;subst hb;refine Yq hw ?_ qe;refine qc<|q8 p fun dv bb p=>?_;refine q1j [.ref 2 4 0 0] (fun w=>w = dv) (fun (w : Int × List qk)=>⟨[(6,.ref 0 1 0 0),(7,.ref 1 1 0 0),(46,.tup [.hs 2 4 0 w.2.length,q7 w.1])],[(0,.dat 1 [[.nilsl]]),(1,.dat 1 [[qb 0]]),(2,.dat 4 (w.2.map Q8))],3⟩) J J Tryz.func79 J qg qg J ?_ ?_
 ·refine qc<|qa J<|qa J<|q9<|qf<|qc<|U J<|O (.ref 2 4 0 0) J<|O (.ref 2 4 0 0) J<|O (.hs 3 4 0 t.2.2.2.length) J<|O (q7 (t.2.2.2.length : Int)) J<|O (.d (.bool (decide ((t.2.2.2.length : Int) > 400)))) J<|q9 ?_;refine qo J bb (fun _ bb=>?_) (fun _ bb=>?_)
  ·refine qc<|qa J<|qa J<|qq ?_;refine ⟨.inr J,_,J,?_⟩;obtain rfl:=qt bb;exact ⟨_,J,wkA [(0,0),(1,1)] [] [2]⟩
  refine ql<|qc<|U J<|O (.ref 2 4 0 0) J<|O (.ref 2 4 0 0) J<|O (.hs 3 4 0 t.2.2.2.length) J<|qa J<|qa J<|qq ?_;refine ⟨.inr J,_,J,?_⟩;obtain rfl:=qt bb;exact ⟨_,J,wkA [(0,0),(1,1),(2,3)] [] []⟩
 intro w hb;subst hb;refine O (.hs 2 4 0 w.2.length) J<|O (q7 w.1) J<|Q7 0 (.cel 1 [[.hs 2 4 0 w.2.length]]) J<|Q7 1 (.dat 1 [[qb w.1]]) J<|qq ?_;obtain rfl:=qt p;exact finD (.inr J) (v:=.tup [.hs 2 4 0 w.2.length,q7 w.1]) J (q32 (Zu (Zk J J) (Zu J J))) (.refl _)
theorem qme (g : List qi) (r : Int) (b : q2w g = some r) : Pure Tryz.prog tab 109 [.sl 2 (g.map Qi)] (qb r):=by
 unfold q2w at b;refine Qn Tryz.func109 J qg qg J<|qc<|qa J<|q9<|qf<|qc<|U J<|Qz J<|O _ J<|q9 ?_;refine qo J b (fun _ b=>?_) (fun _ b=>?_)
 ·refine qc<|qa J<|qq ?_;cases b;exact Q6 _ J
 refine ql<|qf<|qc<|U J<|Qz J<|U J<|q9<|q8 b fun j ak b=>?_;refine Qt (fun h=>.inl h = j) (fun h=>⟨[],[],0⟩) qe ?_ ?_
 ·refine Qo (q1s g) (fun k=>⟨[(0,.d (.sl 2 (g.map Qi))),(8,.d (.sl 2 (g.map Qi))),(9,q7 (g.length : Int)),(10,q7 k)],[],0⟩) _ j ak (wkA [] [] []) ?_;intro k au a;unfold q1s at a;refine qc<|O _ J<|q9<|qf ?_;refine qo J a (fun _ a=>?_) (fun _ a=>?_)
  ·refine ql<|qf<|Q4<|qc<|U J<|q8 a fun al am a=>K1 am J<|O _ J<|Qs J J<|qa J<|Q7 0 _ J<|q9<|qf<|Qj [q6,q6,q6,qv 0,q6,q6,q6,q6,q6,q6,q6,q6,q6,q6,q6,q6,q6,qv 0] qg<|O _ J<|q8 a fun an ao a=>Qd (qmi al an ao) J<|O _ J<|q8 a fun ap c a=>?_;refine Qg 15 (fun A st=>∃ l m n o p q s t u v w x y z,st = A [(32,Q3 ap),(31,z),(30,y),(29,x),(28,w),(27,v),(26,u),(25,t),(24,s),(23,q),(22,p),(21,o),(20,n),(19,m),(18,l)]) ?_ ?_
   ·refine Qe J J c (fun c=>?_) (fun c=>?_)
    ·refine qd J<|qd J<|qd J<|qd J<|qd J<|qd J<|qd J<|qd J<|qd J<|qd J<|qd J<|qd J<|qd J<|O _ J<|q9 ?_;cases c;exact ⟨_,_,_,_,_,_,_,_,_,_,_,_,_,_,J⟩
    refine U J<|O _ J<|q8 c fun aq f c=>?_;refine Qg 11 (fun A st=>∃ aa ab ac ad ae af ag ah ai aj,st = A [(31,Q3 aq),(30,aj),(29,ai),(28,ah),(27,ag),(26,af),(25,ae),(24,ad),(23,ac),(22,ab),(21,aa)]) ?_ ?_
    ·refine Qe J J f (fun f=>?_) (fun f=>?_)
     ·refine U J<|U J<|O _ J<|q8 f fun av ar f=>K1 ar J<|O _ J<|O _ J<|O _ J<|O _ J<|O _ J<|O _ J<|q9 ?_;cases f;exact ⟨_,_,_,_,_,_,_,_,_,_,J⟩
     refine qd J<|qd J<|qd J<|qd J<|qd J<|qd J<|qd J<|qd J<|qd J<|O _ J<|q9 ?_;cases f;exact ⟨_,_,_,_,_,_,_,_,_,_,J⟩
    rintro _ ⟨aa,ab,ac,ad,ae,af,ag,ah,ai,aj,rfl⟩;refine O _ J<|q9 ?_;cases c;exact ⟨_,_,_,_,_,_,_,_,_,_,_,_,_,_,J⟩
   rintro _ ⟨l,m,n,o,p,q,s,t,u,v,w,x,y,z,rfl⟩;refine q9 ?_;refine qo J a (fun _ a=>?_) (fun _ a=>?_)
   ·refine qc<|qa J<|qq ?_;refine ⟨_,qr a,fun hm=>?_⟩;subst hm;cases b;exact Q6 _ J
   refine ql<|Qh<|Qm<|Q0<|O _ J<|U J<|qz<|⟨_,qr a,wkA [] [] []⟩
  refine Qf ?_;refine ⟨_,qr a,fun hm=>?_⟩;subst hm;exact ⟨_,J,wkA [] [] []⟩
 intro h hb;subst hb;refine qc<|qa J<|qq ?_;cases b;exact Q6 _ J
theorem qmg (b : List qi) (c : List qi) (d : Bool→Bool→Option Bool) (p2F : FuncId) (p2C : List DV) (p2Ok : ∀ (f : Bool) (g : Bool) (r : Bool),d f g = some r→Pure Tryz.prog tab p2F ([.bool f,.bool g] ++ p2C) (.bool r)) (r : List qi × Int) (a : q74 b c d = some r) : Pure Tryz.prog tab 80 [.sl 2 (b.map Qi),.sl 2 (c.map Qi),.fn p2F p2C] (.tup [.sl 2 (r.1.map Qi),qb r.2]):=by
 unfold q74 at a;refine Qn Tryz.func80 J qg qg J<|qc<|qa J<|qa J<|q9<|qf<|qc<|U J<|q8 a fun h j a=>Qd (qme b h j) J<|qa J<|qu<|U J<|O _ J<|q9 ?_;refine qo J a (fun _ a=>?_) (fun _ a=>?_)
 ·refine qc<|U J<|qa J<|qa J<|qq ?_;obtain rfl:=qt a;exact finD (.inr J) J J (Y4 (.cons (.nil _) (.cons (.refl _) .nil)))
 refine ql<|qf<|qc<|U J<|q8 a fun k l a=>Qd (qme c k l) J<|qa J<|qu<|U J<|O _ J<|q9 ?_;refine qo J a (fun _ a=>?_) (fun _ a=>?_)
 ·refine qc<|U J<|qa J<|qa J<|qq ?_;obtain rfl:=qt a;exact finD (.inr J) J J (Y4 (.cons (.nil _) (.cons (.refl _) .nil)))
 refine ql<|qc<|U J<|U J<|U J<|q8 a fun m n a=>Qd (qmh b c d p2F p2C p2Ok m n) J<|qa J<|q9<|qf<|qc<|U J<|Qz J<|O _ J<|q9 ?_;refine qo J a (fun _ a=>?_) (fun _ a=>?_)
 ·refine qc<|qa J<|qa J<|qq ?_;obtain rfl:=qt a;exact finD (.inr J) J J (Y4 (.cons (.nil _) (.cons (.refl _) .nil)))
 refine ql<|qc<|U J<|qa J<|qa J<|qq ?_;cases a;exact Q6 _ J
theorem q106 (c : Bool) (d : Bool) (r : Bool) (b : qcd c d = some r) : Pure Tryz.prog tab 81 [.bool c,.bool d] (.bool r):=by
 unfold qcd at b;refine Qn Tryz.func81 J qg qg J<|qc<|qa J<|qu<|U J<|q8 b fun h a b=>?_;refine Qg 3 (fun A st=>∃ f g,st = A [(8,Q3 h),(7,g),(6,f)]) ?_ ?_
 ·refine Qe J J a (fun a=>?_) (fun a=>?_)
  ·refine U J<|O _ J<|q9 ?_;cases a;exact ⟨_,_,J⟩
  refine qd J<|O _ J<|q9 ?_;cases a;exact ⟨_,_,J⟩
 rintro _ ⟨f,g,rfl⟩;refine qa J<|qq ?_;cases b;exact Q6 _ J
theorem q107 (b : List qi) (c : List qi) (r : List qi × Int) (a : q72 b c = some r) : Pure Tryz.prog tab 54 [.sl 2 (b.map Qi),.sl 2 (c.map Qi)] (.tup [.sl 2 (r.1.map Qi),qb r.2]):=by
 unfold q72 at a;refine Qn Tryz.func54 J qg qg J<|qc<|qa J<|qa J<|qu<|U J<|U J<|q8 a fun g h a=>Qd (qmg b c (fun d f=>qcd d f) 81 [] (fun d f r hr=>q106 d f r hr) g h) J<|O _ J<|O _ J<|qa J<|qa J<|qq ?_;cases a;exact Q6 _ J
theorem qu9 (b : List qk) (c : List qk) (r : List qk × Int) (a : q5k b c = some r) : Pure Tryz.prog tab 29 [.sl 4 (b.map Q8),.sl 4 (c.map Q8)] (.tup [.sl 4 (r.1.map Q8),qb r.2]):=by
 unfold q5k at a;refine Qn Tryz.func29 J qg qg J<|qc<|qa J<|qa J<|qu<|U J<|U J<|q8 a fun g h a=>Qd (ql3 b c (fun d f=>q72 d f) 54 [] (fun d f r hr=>q107 d f r hr) g h) J<|O _ J<|O _ J<|qa J<|qa J<|qq ?_;cases a;exact Q6 _ J
theorem qzq (b : List qw) (c : List qw) (r : List qw × Int) (a : q9q b c = some r) : Pure Tryz.prog tab 10 [.sl 6 (b.map Qw),.sl 6 (c.map Qw)] (.tup [.sl 6 (r.1.map Qw),qb r.2]):=by
 unfold q9q at a;refine Qn Tryz.func10 J qg qg J<|qc<|qa J<|qa J<|qu<|U J<|U J<|O _ J<|q8 a fun g h a=>Qd (qm9 b c (fun d f=>q5k d f) 29 [] (fun d f r hr=>qu9 d f r hr) g h) J<|O _ J<|O _ J<|qa J<|qa J<|qq ?_;cases a;exact Q6 _ J
theorem q108 (c : Bool) (d : Bool) (r : Bool) (b : qce c d = some r) : Pure Tryz.prog tab 82 [.bool c,.bool d] (.bool r):=by
 unfold qce at b;refine Qn Tryz.func82 J qg qg J<|qc<|qa J<|qu<|U J<|q8 b fun h a b=>?_;refine Qg 3 (fun A st=>∃ f g,st = A [(8,Q3 h),(7,g),(6,f)]) ?_ ?_
 ·refine Qe J J a (fun a=>?_) (fun a=>?_)
  ·refine qd J<|O _ J<|q9 ?_;cases a;exact ⟨_,_,J⟩
  refine U J<|O _ J<|q9 ?_;cases a;exact ⟨_,_,J⟩
 rintro _ ⟨f,g,rfl⟩;refine qa J<|qq ?_;cases b;exact Q6 _ J
theorem q109 (b : List qi) (c : List qi) (r : List qi × Int) (a : q73 b c = some r) : Pure Tryz.prog tab 55 [.sl 2 (b.map Qi),.sl 2 (c.map Qi)] (.tup [.sl 2 (r.1.map Qi),qb r.2]):=by
 unfold q73 at a;refine Qn Tryz.func55 J qg qg J<|qc<|qa J<|qa J<|qu<|U J<|U J<|q8 a fun g h a=>Qd (qmg b c (fun d f=>qce d f) 82 [] (fun d f r hr=>q108 d f r hr) g h) J<|O _ J<|O _ J<|qa J<|qa J<|qq ?_;cases a;exact Q6 _ J
theorem qub (b : List qk) (c : List qk) (r : List qk × Int) (a : q5l b c = some r) : Pure Tryz.prog tab 30 [.sl 4 (b.map Q8),.sl 4 (c.map Q8)] (.tup [.sl 4 (r.1.map Q8),qb r.2]):=by
 unfold q5l at a;refine Qn Tryz.func30 J qg qg J<|qc<|qa J<|qa J<|qu<|U J<|U J<|q8 a fun g h a=>Qd (ql3 b c (fun d f=>q73 d f) 55 [] (fun d f r hr=>q109 d f r hr) g h) J<|O _ J<|O _ J<|qa J<|qa J<|qq ?_;cases a;exact Q6 _ J
theorem qzs (b : List qw) (c : List qw) (r : List qw × Int) (a : q9r b c = some r) : Pure Tryz.prog tab 11 [.sl 6 (b.map Qw),.sl 6 (c.map Qw)] (.tup [.sl 6 (r.1.map Qw),qb r.2]):=by
 unfold q9r at a;refine Qn Tryz.func11 J qg qg J<|qc<|qa J<|qa J<|qu<|U J<|U J<|O _ J<|q8 a fun g h a=>Qd (qm9 b c (fun d f=>q5l d f) 30 [] (fun d f r hr=>qub d f r hr) g h) J<|O _ J<|O _ J<|qa J<|qa J<|qq ?_;cases a;exact Q6 _ J
theorem qrb (r : List Qx) (a : qb7 = some r) : Pure Tryz.prog tab 41 [] (.sl 4 (r.map J2)):=by
 unfold qb7 at a;refine Qn Tryz.func41 J qg qg J<|qc<|qa J<|qu<|O _ J<|O _ J<|O _ J<|O _ J<|O _ J<|Qq _ _ J<|qa J<|qq ?_;obtain rfl:=qt a;exact finD (.inr J) J (Zk J J) (.refl _)
theorem qws (b : List Qx) (f : Qx→Option Bool) (p1F : FuncId) (p1C : List DV) (p1Ok : ∀ (h : Qx) (r : Bool),f h = some r→Pure Tryz.prog tab p1F ([.agg (J2 h)] ++ p1C) (.bool r)) (r : Int) (c : qc1 b f = some r) : Pure Tryz.prog tab 119 [.sl 4 (b.map J2),.fn p1F p1C] (qb r):=by
 unfold qc1 at c;refine Qn Tryz.func119 J qg qg J<|qc<|qa J<|q9<|qf<|qc<|U J<|Qz J<|U J<|q9<|q8 c fun j l c=>?_;refine Qt (fun g=>.inl g = j) (fun g=>⟨[],[],0⟩) qe ?_ ?_
 ·refine Qo (q41 b f) (fun k=>⟨[(0,.d (.sl 4 (b.map J2))),(1,.d (.fn p1F p1C)),(7,q7 (b.length : Int)),(8,q7 k)],[],0⟩) _ j l (wkA [] [] []) ?_;intro k q a;unfold q41 at a;refine qc<|O _ J<|q9<|qf ?_;refine qo J a (fun _ a=>?_) (fun _ a=>?_)
  ·refine ql<|qf<|Q4<|qc<|U J<|qa J<|qu<|U J<|U J<|U J<|q8 a fun m n a=>K1 n J<|O _ J<|q8 a fun o p a=>Ym _ (p1Ok m o p) J J J (.inl J)<|q9 ?_;refine qo J a (fun _ a=>?_) (fun _ a=>?_)
   ·refine qc<|U J<|qa J<|qq ?_;refine ⟨_,qr a,fun hm=>?_⟩;subst hm;cases c;exact Q6 _ J
   refine ql<|Qh<|Qm<|Q0<|O _ J<|U J<|qz<|⟨_,qr a,wkA [] [] []⟩
  refine Qf ?_;refine ⟨_,qr a,fun hm=>?_⟩;subst hm;exact ⟨_,J,wkA [] [] []⟩
 intro g hb;subst hb;refine qc<|qa J<|qq ?_;cases c;exact Q6 _ J
theorem qwk (b : List Qx) (c : Qx→Option Bool) (p1F : FuncId) (p1C : List DV) (p1Ok : ∀ (d : Qx) (r : Bool),c d = some r→Pure Tryz.prog tab p1F ([.agg (J2 d)] ++ p1C) (.bool r)) (r : Bool) (a : qbx b c = some r) : Pure Tryz.prog tab 93 [.sl 4 (b.map J2),.fn p1F p1C] (.bool r):=by
 unfold qbx at a;refine Qn Tryz.func93 J qg qg J<|qc<|qa J<|qu<|U J<|U J<|q8 a fun f g a=>Qd (qws b c p1F p1C p1Ok f g) J<|O _ J<|qa J<|qq ?_;cases a;exact Q6 _ J
theorem qkx (b : Int) (r : Int) (a : q5h b = some r) : Pure Tryz.prog tab 151 [qb b] (.int .u64 r):=by
 unfold q5h at a;refine Qn Tryz.func151 J qg qg J<|qc<|qa J<|q9<|qf<|qc<|U J<|O _ J<|q9 ?_;refine qo J a (fun _ a=>?_) (fun _ a=>?_)
 ·refine qc<|U J<|O _ J<|O _ J<|qa J<|qq ?_;cases a;exact Q6 _ J
 refine ql<|qc<|U J<|O _ J<|qa J<|qq ?_;cases a;exact Q6 _ J
theorem qu3 (g : Int) (h : Int) (r : Int) (b : q8i g h = some r) : Pure Tryz.prog tab 152 [.int .u64 g,.int .u64 h] (.int .u64 r):=by
 unfold q8i at b;refine Qn Tryz.func152 J qg qg J<|qc<|qa J<|q9<|qf<|q8 b fun j k b=>?_;refine Qt (fun c=>c = j) (fun c=>⟨[(0,.d (.int .u64 c))],[],0⟩) qe ?_ ?_
 ·refine Qo (q3w) (fun f=>⟨[(0,.d (.int .u64 f.1)),(1,.d (.int .u64 f.2))],[],0⟩) _ j k (wkA [] [] []) ?_;intro f m a;unfold q3w at a;refine qf<|qc<|U J<|O _ J<|q9 ?_;refine qo J a (fun _ a=>?_) (fun _ a=>?_)
  ·refine ql<|Q4<|Qj [q6,q6,q6,q6,q6,q6] qg<|U J<|U J<|U J<|q8 a fun n l a=>qsg l J J J<|qa J<|qa J<|qz<|Qm<|Qh<|⟨_,qr a,wkA [] [] []⟩
  refine Qf ?_;refine ⟨_,qr a,fun hm=>?_⟩;subst hm;exact ⟨_,J,wkA [] [] []⟩
 intro c hb;subst hb;refine qc<|U J<|qa J<|qq ?_;cases b;exact Q6 _ J
theorem qu2 (d : U4) (r : Int) (a : q8h d = some r) : Pure Tryz.prog tab 120 [.agg [qb d.Num,qb d.Den]] (qb r):=by
 unfold q8h at a;refine Qn Tryz.func120 J qg qg J<|qc<|Qq _ _ J<|qa J<|q9<|qf<|qf<|Qj [q6,q6,q6,q6,qv 0,q6,q6,qv 0,q6,q6,q6,q6,q6,qv 0,q6,q6,q6,q6,qv 0,q6,q6,q6,qv 0,q6] qg<|O _ J<|O _ J<|O _ J<|q8 a fun c1 f a=>?_;refine Qg 5 (fun A st=>∃ g h j k,st = A [(10,Q3 c1),(9,k),(8,j),(7,h),(6,g)]) ?_ ?_
 ·refine Qe J J f (fun f=>?_) (fun f=>?_)
  ·refine qd J<|qd J<|qd J<|O _ J<|q9 ?_;cases f;exact ⟨_,_,_,_,J⟩
  refine O _ J<|O _ J<|O _ J<|O _ J<|q9 ?_;cases f;exact ⟨_,_,_,_,J⟩
 rintro _ ⟨g,h,j,k,rfl⟩;refine q8 a fun c9 c a=>?_;refine Qg 6 (fun A st=>∃ l m n o p,st = A [(16,Q3 c9),(15,p),(14,o),(13,n),(12,m),(11,l)]) ?_ ?_
 ·refine Qe J J c (fun c=>?_) (fun c=>?_)
  ·refine qd J<|qd J<|qd J<|qd J<|O _ J<|q9 ?_;cases c;exact ⟨_,_,_,_,_,J⟩
  refine O _ J<|O _ J<|q8 c fun ad ae c=>Qd (qkx d.Num ad ae) J<|O _ J<|O _ J<|q9 ?_;cases c;exact ⟨_,_,_,_,_,J⟩
 rintro _ ⟨l,m,n,o,p,rfl⟩;refine q8 a fun af b a=>?_;refine Qg 10 (fun A st=>∃ q s t u v w x y z,st = A [(26,Q3 af),(25,z),(24,y),(23,x),(22,w),(21,v),(20,u),(19,t),(18,s),(17,q)]) ?_ ?_
 ·refine Qe J J b (fun b=>?_) (fun b=>?_)
  ·refine qd J<|qd J<|qd J<|qd J<|qd J<|qd J<|qd J<|qd J<|O _ J<|q9 ?_;cases b;exact ⟨_,_,_,_,_,_,_,_,_,J⟩
  refine O _ J<|O _ J<|q8 b fun aa ag b=>Qd (qkx d.Num aa ag) J<|O _ J<|O _ J<|O _ J<|q8 b fun ah ai b=>Qd (qu3 aa (IntKind.wrap .u64 d.Den) ah ai) J<|O _ J<|O _ J<|q9 ?_;cases b;exact ⟨_,_,_,_,_,_,_,_,_,J⟩
 rintro _ ⟨q,s,t,u,v,w,x,y,z,rfl⟩;refine q9 ?_;refine qo J a (fun _ a=>?_) (fun _ a=>?_)
 ·refine qc<|qa J<|qq ?_;cases a;exact Q6 _ J
 refine ql<|qc<|qa J<|qq ?_;cases a;exact Q6 _ J
theorem q10q (k : Qx) (r : Bool) (a : qa2 k = some r) : Pure Tryz.prog tab 95 [.agg (J2 k)] (.bool r):=by
 unfold qa2 at a;refine Qn Tryz.func95 J qg qg J<|qc<|Qq _ _ J<|qa J<|q9<|qf<|qc<|O _ J<|O _ J<|q9<|Q4<|qc<|O _ J<|qa J<|q9 ?_;refine qo J a (fun _ a=>?_) (fun _ a=>?_)
 ·refine qc<|O _ J<|O _ J<|O _ J<|q8 a fun ay c a=>?_;refine Qg 5 (fun A st=>∃ l m n o,st = A [(14,Q3 ay),(13,o),(12,n),(11,m),(10,l)]) ?_ ?_
  ·refine Qe J J c (fun c=>?_) (fun c=>?_)
   ·refine O _ J<|O _ J<|O _ J<|O _ J<|q9 ?_;cases c;exact ⟨_,_,_,_,J⟩
   refine qd J<|qd J<|qd J<|O _ J<|q9 ?_;cases c;exact ⟨_,_,_,_,J⟩
  rintro _ ⟨l,m,n,o,rfl⟩;refine q8 a fun az d a=>?_;refine Qg 6 (fun A st=>∃ p q s t u,st = A [(20,Q3 az),(19,u),(18,t),(17,s),(16,q),(15,p)]) ?_ ?_
  ·refine Qe J J d (fun d=>?_) (fun d=>?_)
   ·refine O _ J<|O _ J<|O _ J<|O _ J<|O _ J<|q9 ?_;cases d;exact ⟨_,_,_,_,_,J⟩
   refine qd J<|qd J<|qd J<|qd J<|O _ J<|q9 ?_;cases d;exact ⟨_,_,_,_,_,J⟩
  rintro _ ⟨p,q,s,t,u,rfl⟩;refine qa J<|qq ?_;cases a;exact Q6 _ J
 refine qc<|O _ J<|qa J<|q9 ?_;refine qo J a (fun _ a=>?_) (fun _ a=>?_)
 ·refine qc<|O _ J<|O _ J<|O _ J<|q8 a fun ba f a=>?_;refine Qg 5 (fun A st=>∃ v w x y,st = A [(30,Q3 ba),(29,y),(28,x),(27,w),(26,v)]) ?_ ?_
  ·refine Qe J J f (fun f=>?_) (fun f=>?_)
   ·refine O _ J<|O _ J<|O _ J<|O _ J<|q9 ?_;cases f;exact ⟨_,_,_,_,J⟩
   refine qd J<|qd J<|qd J<|O _ J<|q9 ?_;cases f;exact ⟨_,_,_,_,J⟩
  rintro _ ⟨v,w,x,y,rfl⟩;refine q8 a fun bb g a=>?_;refine Qg 6 (fun A st=>∃ z aa ab ac ad,st = A [(36,Q3 bb),(35,ad),(34,ac),(33,ab),(32,aa),(31,z)]) ?_ ?_
  ·refine Qe J J g (fun g=>?_) (fun g=>?_)
   ·refine O _ J<|O _ J<|O _ J<|O _ J<|O _ J<|q9 ?_;cases g;exact ⟨_,_,_,_,_,J⟩
   refine qd J<|qd J<|qd J<|qd J<|O _ J<|q9 ?_;cases g;exact ⟨_,_,_,_,_,J⟩
  rintro _ ⟨z,aa,ab,ac,ad,rfl⟩;refine qa J<|qq ?_;cases a;exact Q6 _ J
 refine qc<|O _ J<|qa J<|q9 ?_;refine qo J a (fun _ a=>?_) (fun _ a=>?_)
 ·refine qc<|O _ J<|O _ J<|O _ J<|q8 a fun bc b a=>?_;refine Qg 6 (fun A st=>∃ ae af ag ah ai,st = A [(47,Q3 bc),(46,ai),(45,ah),(44,ag),(43,af),(42,ae)]) ?_ ?_
  ·refine Qe J J b (fun b=>?_) (fun b=>?_)
   ·refine O _ J<|O _ J<|q8 b fun bd be b=>Qd (qu2 k.Share bd be) J<|O _ J<|O _ J<|q9 ?_;cases b;exact ⟨_,_,_,_,_,J⟩
   refine qd J<|qd J<|qd J<|qd J<|O _ J<|q9 ?_;cases b;exact ⟨_,_,_,_,_,J⟩
  rintro _ ⟨ae,af,ag,ah,ai,rfl⟩;refine q8 a fun bf h a=>?_;refine Qg 6 (fun A st=>∃ aj ak al am an,st = A [(53,Q3 bf),(52,an),(51,am),(50,al),(49,ak),(48,aj)]) ?_ ?_
  ·refine Qe J J h (fun h=>?_) (fun h=>?_)
   ·refine O _ J<|O _ J<|O _ J<|O _ J<|O _ J<|q9 ?_;cases h;exact ⟨_,_,_,_,_,J⟩
   refine qd J<|qd J<|qd J<|qd J<|O _ J<|q9 ?_;cases h;exact ⟨_,_,_,_,_,J⟩
  rintro _ ⟨aj,ak,al,am,an,rfl⟩;refine q8 a fun bg j a=>?_;refine Qg 9 (fun A st=>∃ ao ap aq ar au av aw ax,st = A [(62,Q3 bg),(61,ax),(60,aw),(59,av),(58,au),(57,ar),(56,aq),(55,ap),(54,ao)]) ?_ ?_
  ·refine Qe J J j (fun j=>?_) (fun j=>?_)
   ·refine O _ J<|O _ J<|O _ J<|O _ J<|O _ J<|O _ J<|O _ J<|O _ J<|q9 ?_;cases j;exact ⟨_,_,_,_,_,_,_,_,J⟩
   refine qd J<|qd J<|qd J<|qd J<|qd J<|qd J<|qd J<|O _ J<|q9 ?_;cases j;exact ⟨_,_,_,_,_,_,_,_,J⟩
  rintro _ ⟨ao,ap,aq,ar,au,av,aw,ax,rfl⟩;refine qa J<|qq ?_;cases a;exact Q6 _ J
 refine ql<|Qh<|Qm<|qc<|qa J<|qq ?_;cases a;exact Q6 _ J
theorem q10g (b : Qx) (r : Bool) (a : q4j b = some r) : Pure Tryz.prog tab 94 [.agg (J2 b)] (.bool r):=by
 unfold q4j at a;refine Qn Tryz.func94 J qg qg J<|qc<|Qq _ _ J<|qa J<|qu<|O _ J<|q8 a fun c d a=>Qd (q10q b c d) J<|O _ J<|qa J<|qq ?_;cases a;exact Q6 _ J
theorem q10i (b : List Qx) (r : Int) (a : qa1 b = some r) : Pure Tryz.prog tab 64 [.sl 4 (b.map J2)] (qb r):=by
 unfold qa1 at a;refine Qn Tryz.func64 J qg qg J<|qc<|qa J<|q9<|qf<|qc<|U J<|Qz J<|O _ J<|q9 ?_;refine qo J a (fun _ a=>?_) (fun _ a=>?_)
 ·refine qc<|qa J<|qq ?_;cases a;exact Q6 _ J
 refine ql<|qf<|qc<|U J<|q8 a fun d f a=>Qd (qwk b (fun c=>q4j c) 94 [] (fun c r hr=>q10g c r hr) d f) J<|q9 ?_;refine qo J a (fun _ a=>?_) (fun _ a=>?_)
 ·refine qc<|qa J<|qq ?_;cases a;exact Q6 _ J
 refine ql<|qc<|qa J<|qq ?_;cases a;exact Q6 _ J
theorem qmk (f : Int) (a : Int) (c : List Int) (g : Int) (r : List Int × Int) (b : q77  f a c g = some r) : K9 Tryz.prog tab 65 [q7 f,q7 a,.ref 0 1 0 0,.ref 2 1 0 0] [(0,.cel 1 [[.hs 1 1 0 c.length]]),(1,.dat 1 (c.map (eI .i64))),(2,.dat 1 [[qb g]])] 3 (.d (.tup [])) [(0,.cel 1 [[.hs 1 1 0 r.1.length]]),(1,.dat 1 (r.1.map (eI .i64))),(2,.dat 1 [[qb r.2]])] 3:=by
 unfold q77 at b;refine Kq Tryz.func65 J qg qg J<|qc<|O _ J<|U J<|U J<|q8 b fun j h b=>qy h J J<|K0 (ds:=[qb a]) a h J J J J J J J J (leb J) J<|q9<|Q0<|O _ J<|U J<|O _ J<|Q7 2 _ J<|qz ?_;obtain rfl:=qt b;exact ⟨.inl J,_,J,wkE [] [] [] J ⟨qp J,trivial⟩ ⟨⟨ltd J,.inr ⟨qn,_,J,Zl (.cons (K4 qe J qn (ltd J)) J .nil)⟩⟩,Qk J J,Qk J J,trivial⟩⟩
theorem q10o (c : Int) (a : List Int) (r : List Int × Int × Int) (d : q79  c a = some r) : K9 Tryz.prog tab 66 [q7 c,.hs 0 1 0 a.length] [(0,.dat 1 (a.map (eI .i64)))] 1 (.fn 96 [.ref 1 1 0 0,.ref 2 1 0 0,.ref 3 1 0 0]) [(0,.dat 1 (r.1.map (eI .i64))),(1,.cel 1 [[.hs 0 1 0 r.1.length]]),(2,.dat 1 [[qb r.2.1]]),(3,.dat 1 [[qb r.2.2]])] 4:=by
 unfold q79 at d;refine Kq Tryz.func66 J qg qg J<|qc<|Qq _ _ J<|Qq _ _ J<|qa J<|qu<|Qs J J<|Q7 3 _ J<|q9<|qf<|qc<|O _ J<|O _ J<|U J<|q9<|q8 d fun h k d=>?_;refine Qt (fun f=>f = h) (fun f=>⟨[(2,.ref 1 1 0 0),(3,.ref 2 1 0 0),(5,.ref 3 1 0 0)],[(0,.dat 1 (a.map (eI .i64))),(1,.dat 1 [[qb c]]),(2,.cel 1 [[.hs 0 1 0 a.length]]),(3,.dat 1 [[qb f]])],4⟩) qe ?_ ?_
 ·refine Qo (q4n a) (fun g=>⟨[(2,.ref 1 1 0 0),(3,.ref 2 1 0 0),(5,.ref 3 1 0 0),(8,.hs 0 1 0 a.length),(9,q7 (a.length : Int)),(10,q7 g.1)],[(0,.dat 1 (a.map (eI .i64))),(1,.dat 1 [[qb c]]),(2,.cel 1 [[.hs 0 1 0 a.length]]),(3,.dat 1 [[qb g.2]])],4⟩) _ h k (wkA [(1,1),(2,2),(3,3)] [] []) ?_;intro g l b;unfold q4n at b;refine qc<|O _ J<|q9<|qf ?_;refine qo J b (fun _ b=>?_) (fun _ b=>?_)
  ·refine ql<|qf<|Q4<|qc<|q8 b fun m j b=>qy j J J<|Qc _ j J<|qa J<|q9<|Q0<|O _ J<|U J<|O _ J<|Q7 3 _ J<|qz<|Qm<|Q0<|O _ J<|U J<|qz<|⟨_,qr b,wkA [(1,1),(2,2),(3,3)] [] []⟩
  refine Qf ?_;refine ⟨_,qr b,fun hm=>?_⟩;subst hm;exact ⟨_,J,wkA [(1,1),(2,2),(3,3)] [] []⟩
 intro f hb;subst hb;refine qc<|O _ J<|qa J<|qq ?_;obtain rfl:=qt d;exact ⟨.inr J,_,J,wkA [(1,2),(2,1),(3,3)] [] []⟩
theorem q10n (p : Int) (l : List Qx) (r : List Int × Int) (a : q76 p l = some r) : Pure Tryz.prog tab 40 [qb p,.sl 4 (l.map J2)] (.tup [.sl 1 (r.1.map (eI .i64)),qb r.2]):=by
 unfold q76 at a;refine Qn Tryz.func40 J qg qg J<|qc<|qa J<|qa J<|q9<|qf<|qc<|U J<|q8 a fun r1 h2 a=>Qd (q10i l r1 h2) J<|qa J<|qu<|U J<|O _ J<|q9 ?_;refine qo J a (fun _ a=>?_) (fun _ a=>?_)
 ·refine qc<|U J<|qa J<|qa J<|qq ?_;obtain rfl:=qt a;exact finD (.inr J) J J (Y4 (.cons (.nil _) (.cons (.refl _) .nil)))
 refine ql<|qf<|qc<|U J<|O _ J<|q8 a fun c3 q a=>?_;refine Qg 4 (fun A st=>∃ j5 j6 j7,st = A [(25,Q3 c3),(24,j7),(23,j6),(22,j5)]) ?_ ?_
 ·refine Qe J J q (fun q=>?_) (fun q=>?_)
  ·refine qd J<|qd J<|O _ J<|q9 ?_;cases q;exact ⟨_,_,_,J⟩
  refine U J<|O _ J<|O _ J<|q9 ?_;cases q;exact ⟨_,_,_,J⟩
 rintro _ ⟨j5,j6,j7,rfl⟩;refine q9 ?_;refine qo J a (fun _ a=>?_) (fun _ a=>?_)
 ·refine qc<|qa J<|qa J<|qq ?_;obtain rfl:=qt a;exact finD (.inr J) J J (Y4 (.cons (.nil _) (.cons (.refl _) .nil)))
 refine ql<|qc<|U J<|Qz J<|q8 a fun z8 h9 a=>qkb (z:=0) (enc:=(eI .i64)) h9 J J J J J J<|U J<|Qs J J<|Qs J J<|Q7 1 _ J<|Q7 2 _ J<|qu<|qa J<|Qs J J<|qu<|O _ J<|qa J<|q9<|qf<|qc<|U J<|Qz J<|U J<|q9<|q8 a fun ad ao a=>?_;refine Qt (fun g=>g = ad) (fun g=>⟨[(4,.d (.nilsl)),(5,q7 0),(7,.ref 0 1 0 0),(8,.ref 1 1 0 0),(9,.hs 2 1 0 g.2.1.length),(10,.ref 3 1 0 0)],[(0,.cel 1 [[.hs 4 1 0 g.2.2.1.length]]),(1,.dat 1 [[qb g.1]]),(2,.dat 1 (g.2.1.map (eI .i64))),(3,.cel 1 [[.hs 5 1 0 g.2.2.2.length]]),(4,.dat 1 (g.2.2.1.map (eI .i64))),(5,.dat 1 (g.2.2.2.map (eI .i64)))],6⟩) qe ?_ ?_
 ·refine Qo (q1u l p) (fun c=>⟨[(0,q7 p),(4,.d (.nilsl)),(5,q7 0),(7,.ref 0 1 0 0),(8,.ref 1 1 0 0),(9,.hs 2 1 0 c.2.2.1.length),(10,.ref 3 1 0 0),(11,.fn 65 [.ref 0 1 0 0,.ref 1 1 0 0]),(31,.d (.sl 4 (l.map J2))),(32,q7 (l.length : Int)),(33,q7 c.1)],[(0,.cel 1 [[.hs 4 1 0 c.2.2.2.1.length]]),(1,.dat 1 [[qb c.2.1]]),(2,.dat 1 (c.2.2.1.map (eI .i64))),(3,.cel 1 [[.hs 5 1 0 c.2.2.2.2.length]]),(4,.dat 1 (c.2.2.2.1.map (eI .i64))),(5,.dat 1 (c.2.2.2.2.map (eI .i64)))],6⟩) _ ad ao (wkA [(0,1),(1,2),(3,3),(4,0)] [] [2,5]) ?_;intro c bn m;unfold q1u at m;refine qc<|O _ J<|q9<|qf ?_;refine qo J m (fun _ m=>?_) (fun _ m=>?_)
  ·refine ql<|qf<|q8 m fun ap b m=>?_;refine Qt (fun k=>k = ap) (fun k=>⟨[(0,q7 p),(4,.d (.nilsl)),(5,q7 0),(7,.ref 0 1 0 0),(8,.ref 1 1 0 0),(9,.hs 2 1 0 k.2.1.length),(10,.ref 3 1 0 0),(11,.fn 65 [.ref 0 1 0 0,.ref 1 1 0 0]),(31,.d (.sl 4 (l.map J2))),(32,q7 (l.length : Int)),(33,q7 c.1)],[(0,.cel 1 [[.hs 4 1 0 k.2.2.1.length]]),(1,.dat 1 [[qb k.1]]),(2,.dat 1 (k.2.1.map (eI .i64))),(3,.cel 1 [[.hs 5 1 0 k.2.2.2.length]]),(4,.dat 1 (k.2.2.1.map (eI .i64))),(5,.dat 1 (k.2.2.2.map (eI .i64)))],6⟩) qe ?_ ?_
   ·refine qc<|U J<|q8 b fun w aq b=>K1 aq J<|O _ J<|Qs J J<|qa J<|Q7 6 _ J<|qu<|O _ J<|O _ J<|q9<|Q4<|qc<|O _ J<|qa J<|q9 ?_;refine qo J b (fun _ b=>?_) (fun _ b=>?_)
    ·refine Q0<|U J<|U J<|O _ J<|O _ J<|q8 b fun u ar b=>q8 b fun bo au b=>?_;have bp:=Km au;refine Kc [(0,0),(1,4),(2,1)] [(0,0),(1,2),(2,3),(3,3),(4,1),(5,3),(6,3)] _ (.d (.tup [])) 3 [(0,.cel 1 [[.hs 4 1 0 u.1.length]]),(1,.dat 1 [[qb u.2]]),(4,.dat 1 (u.1.map (eI .i64))),(2,.dat 1 (c.2.2.1.map (eI .i64))),(3,.cel 1 [[.hs 5 1 0 c.2.2.2.2.length]]),(5,.dat 1 (c.2.2.2.2.map (eI .i64))),(6,.dat 4 [(J2 w)])] 7 (qmk c.1 w.Size c.2.2.2.1 c.2.1 u ar)<|qz<|Qm<|Qh ?_;obtain rfl:=qt b;exact ⟨_,J,wkA [(0,0),(1,1),(2,2),(3,3),(4,4),(5,5)] [] []⟩
    refine qc<|O _ J<|qa J<|q9 ?_;refine qo J b (fun _ b=>?_) (fun _ b=>?_)
    ·refine Q0<|U J<|U J<|U J<|O _ J<|O _ J<|O _ J<|O _ J<|O _ J<|O _ J<|O _ J<|q8 b fun av aw b=>qbe aw J J J<|q8 b fun v ax b=>q8 b fun bq ay b=>?_;have br:=Km ay;refine Kc [(0,0),(1,4),(2,1)] [(0,0),(1,2),(2,3),(3,3),(4,1),(5,3),(6,3)] _ (.d (.tup [])) 3 [(0,.cel 1 [[.hs 4 1 0 v.1.length]]),(1,.dat 1 [[qb v.2]]),(4,.dat 1 (v.1.map (eI .i64))),(2,.dat 1 (c.2.2.1.map (eI .i64))),(3,.cel 1 [[.hs 5 1 0 c.2.2.2.2.length]]),(5,.dat 1 (c.2.2.2.2.map (eI .i64))),(6,.dat 4 [(J2 w)])] 7 (qmk c.1 av c.2.2.2.1 c.2.1 v ax)<|qz<|Qm<|Qh ?_;obtain rfl:=qt b;exact ⟨_,J,wkA [(0,0),(1,1),(2,2),(3,3),(4,4),(5,5)] [] []⟩
    refine Qj [Qp 3,q6,(some [5,9],[5,10]),(some [],[9]),q6,qv 3,(some [2,7],[2,8]),(some [],[7]),qv 6,q6,q6] qg<|U J<|O _ J<|O _ J<|Qq _ _ J<|q8 b fun bs az b=>Yz _ az J J J J J J J (Yy J J) J J J J<|O _ J<|U J<|Qq _ _ J<|q8 b fun bt ba b=>Yz _ ba J J J J J J J (Yy J J) J J J J<|qa J<|Q7 3 _ J<|qz<|Qm<|Qh ?_;obtain rfl:=qt b;exact ⟨_,J,wkA [(0,0),(1,1),(2,8),(3,3),(4,4),(5,10)] [] []⟩
   intro k hb;subst hb;refine Q0<|O _ J<|U J<|qz<|⟨_,qr m,wkA [(0,0),(1,1),(2,2),(3,3),(4,4),(5,5)] [] []⟩
  refine Qf ?_;refine ⟨_,qr m,fun hm=>?_⟩;subst hm;exact ⟨_,J,wkA [(0,0),(1,1),(2,2),(3,3),(4,4),(5,5)] [] []⟩
 intro g hb;subst hb;refine qf<|qc<|O _ J<|O _ J<|q9 ?_;refine qo J a (fun _ a=>?_) (fun _ a=>?_)
 ·refine qc<|qa J<|qa J<|qq ?_;obtain rfl:=qt a;exact finD (.inr J) J J (Y4 (.cons (.nil _) (.cons (.refl _) .nil)))
 refine ql<|qf<|qc<|O _ J<|O _ J<|q8 a fun bb s a=>?_;refine Qg 5 (fun A st=>∃ ae af ag ah,st = A [(79,Q3 bb),(78,ah),(77,ag),(76,af),(75,ae)]) ?_ ?_
 ·refine Qe J J s (fun s=>?_) (fun s=>?_)
  ·refine O _ J<|O _ J<|O _ J<|O _ J<|q9 ?_;cases s;exact ⟨_,_,_,_,J⟩
  refine qd J<|qd J<|qd J<|O _ J<|q9 ?_;cases s;exact ⟨_,_,_,_,J⟩
 rintro _ ⟨ae,af,ag,ah,rfl⟩;refine q9 ?_;refine qo J a (fun _ a=>?_) (fun _ a=>?_)
 ·refine qc<|qa J<|qa J<|qq ?_;obtain rfl:=qt a;exact finD (.inr J) J J (Y4 (.cons (.nil _) (.cons (.refl _) .nil)))
 refine ql<|qf<|qc<|O _ J<|U J<|q8 a fun f bc a=>q8 a fun bu bd a=>?_;have bv:=Km bd;refine Kc [(0,2)] [(0,4),(1,4),(2,0),(3,4),(4,4),(5,4),(6,1),(7,2),(8,3)] _ (.fn 96 [.ref 6 1 0 0,.ref 7 1 0 0,.ref 8 1 0 0]) 4 [(2,.dat 1 (f.1.map (eI .i64))),(6,.cel 1 [[.hs 2 1 0 f.1.length]]),(7,.dat 1 [[qb f.2.1]]),(8,.dat 1 [[qb f.2.2]]),(0,.cel 1 [[.hs 4 1 0 g.2.2.1.length]]),(1,.dat 1 [[qb g.1]]),(3,.cel 1 [[.hs 5 1 0 g.2.2.2.length]]),(4,.dat 1 (g.2.2.1.map (eI .i64))),(5,.dat 1 (g.2.2.2.map (eI .i64)))] 9 (q10o g.1 g.2.1 f bc)<|q9<|Q4<|q8 a fun be x a=>?_;refine q3y (fun t=>t = be) (fun t=>⟨[(7,.ref 0 1 0 0)],[(0,.cel 1 [[.hs 1 1 0 t.length]]),(1,.dat 1 (t.map (eI .i64)))],2⟩) ?_ ?_
 ·refine Yq (st':=⟨[(4,.d (.nilsl)),(5,q7 0),(7,.ref 0 1 0 0),(10,.ref 1 1 0 0),(82,.fn 96 [.ref 2 1 0 0,.ref 3 1 0 0,.ref 4 1 0 0])],[(0,.cel 1 [[.hs 5 1 0 g.2.2.1.length]]),(1,.cel 1 [[.d (.sl 1 (g.2.2.2.map (eI .i64)))]]),(2,.cel 1 [[.hs 6 1 0 f.1.length]]),(3,.dat 1 [[qb f.2.1]]),(4,.dat 1 [[qb f.2.2]]),(5,.dat 1 (g.2.2.1.map (eI .i64))),(6,.dat 1 (f.1.map (eI .i64)))],7⟩) (wkA [(0,0),(1,3),(2,6),(3,7),(4,8),(5,4),(6,2)] [5] []) ?_ qe;refine q3z _ (.inl J) Tryz.func96 J qg qg J ?_;intro A223 B224 hA223 hB224;refine qc<|qa J<|qa J<|qu<|O _ J<|O _ J<|U J<|q9<|q8 x fun bf bg x=>Q4<|Qo (q1v f) (fun j=>⟨[(0,.yld 7),(2,.ref 3 1 0 0),(3,.ref 4 1 0 0),(5,q7 j.1),(6,q7 j.2.1),(10,.hs 6 1 0 f.1.length),(11,q7 (f.1.length : Int)),(12,q7 j.2.2.1)],[(0,.cel 1 [[.hs 5 1 0 j.2.2.2.2.length]]),(1,.cel 1 [[.d (.sl 1 (j.2.2.2.1.map (eI .i64)))]]),(2,.cel 1 [[.hs 6 1 0 f.1.length]]),(3,.dat 1 [[qb f.2.1]]),(4,.dat 1 [[qb f.2.2]]),(5,.dat 1 (j.2.2.2.2.map (eI .i64))),(6,.dat 1 (f.1.map (eI .i64))),(7,.loop [(4,.d (.nilsl)),(5,q7 0),(7,.ref 0 1 0 0),(10,.ref 1 1 0 0),(82,.fn 96 [.ref 2 1 0 0,.ref 3 1 0 0,.ref 4 1 0 0])] [83] A223 B224 .ready none)],8⟩) _ bf bg (wkA [] [] []) ?_;intro j bw h;unfold q1v at h;refine qc<|O _ J<|q9<|qf ?_;refine qo J h (fun _ h=>?_) (fun _ h=>?_)
  ·refine ql<|qf<|Q4<|qc<|q8 h fun bh ai h=>qy ai J J<|Qc _ ai J<|qa J<|qu<|U J<|U J<|O _ J<|qa J<|qu<|O _ J<|U J<|O _ J<|O _ J<|q8 h fun y bi h=>qbe bi J J J<|qa J<|q9<|qf<|qc<|U J<|U J<|U J<|O _ J<|q8 h fun bj n h=>?_;refine q3s (fun o=>o = bj) (fun o=>⟨[(0,.yld 7),(2,.ref 3 1 0 0),(3,.ref 4 1 0 0),(5,.d (qb (w64 (j.1 + bh)))),(9,q7 y),(10,.hs 6 1 0 f.1.length),(11,q7 (f.1.length : Int)),(12,q7 j.2.2.1),(28,Q3 true)],[(0,.cel 1 [[.hs 5 1 0 o.2.length]]),(1,.cel 1 [[.d (.sl 1 (o.1.map (eI .i64)))]]),(2,.cel 1 [[.hs 6 1 0 f.1.length]]),(3,.dat 1 [[qb f.2.1]]),(4,.dat 1 [[qb f.2.2]]),(5,.dat 1 (o.2.map (eI .i64))),(6,.dat 1 (f.1.map (eI .i64))),(7,.loop [(4,.d (.nilsl)),(5,q7 0),(7,.ref 0 1 0 0),(10,.ref 1 1 0 0),(82,.fn 96 [.ref 2 1 0 0,.ref 3 1 0 0,.ref 4 1 0 0])] [83] A223 B224 .ready none)],8⟩) hA223 hB224 J J J J J J ?_ ?_
   ·refine Q0<|qa J<|qz ?_;refine ⟨J,_,J,?_⟩;refine Q4<|qf<|Qj [Qp 5,q6,q6,q6,q6,qv 1,qv 0] qg<|O _ J<|O _ J<|q8 n fun bx bk n=>K1 bk J<|O _ J<|U J<|q8 n fun bz aj n=>qy aj J J<|K0 (ds:=[qb (w64 (y - j.2.1))]) (w64 (y - j.2.1)) aj J J J J J J J J (leb J) J<|q9<|Q0<|O _ J<|q8 n fun ca bl n=>qkc (enc:=(eI .i64)) bl J J J J J (q39 J) (fun _=>rfl)<|Q7 1 _ J<|qz<|Qm<|Qh ?_;refine ⟨_,J,?_⟩;obtain rfl:=qt n;exact ⟨_,J,wkE [] [] [] J ⟨⟨_,J,.yld J qn (ltd J)⟩,⟨_,J,.ref J qn (ltd J)⟩,⟨_,J,.ref J qn (ltd J)⟩,qp J,qp J,⟨_,J,.hs J qn (ltd J)⟩,qp J,qp J,qp J,trivial⟩ ⟨⟨ltd J,.inr ⟨qn,_,J,Zl (.cons (K4 qe J qn (ltd J)) J .nil)⟩⟩,⟨ltd J,.inr ⟨qn,_,J,Zl (.cons (.d (.refl _)) J .nil)⟩⟩,⟨ltd J,.inr ⟨qn,_,J,Zl (.cons (.hs J qn (ltd J)) J .nil)⟩⟩,Qk J J,Qk J J,Qk J J,Qk J J,⟨ltd J,.inr ⟨qn,_,J,qn1 (.cons J (.d (.refl _)) (.cons J (.d (.refl _)) (.cons J (.ref J qn (ltd J)) (.cons J (.ref J qn (ltd J)) (.cons J ((Uy (.cons (.ref J qn (ltd J)) (.cons (.ref J qn (ltd J)) (.cons (.ref J qn (ltd J)) .nil))))) .nil)))))⟩⟩,trivial⟩⟩
   intro o hb;subst hb;refine O _ J<|q9<|Z2 J<|ql<|Q0<|U J<|qa J<|qz<|Qm<|Q0<|O _ J<|U J<|qz<|⟨_,qr h,wkA [] [] []⟩
  refine Qf ?_;refine ⟨_,qr h,fun hm=>?_⟩;subst hm;refine ⟨.inl J,_,J,_,_,.nor,J,qn,?_⟩;refine q35<|Qh ?_;obtain rfl:=qt x;exact ⟨_,J,wkA [(0,0),(1,5)] [] []⟩
 intro t st hb hw;subst hb;refine Yq hw ?_ qe;refine qc<|O _ J<|qa J<|qa J<|qq ?_;obtain rfl:=qt a;exact finD (.inr J) J (q32 (Zu (Zk J J) (Zu J J))) (.refl _)
theorem qro (a : Int) (b : Int) (r : Int × Int) (c : qer a b = some r) : Pure Tryz.prog tab 122 [.int .u64 a,.int .u64 b] (.tup [.int .u64 r.1,.int .u64 r.2]):=by
 unfold qer at c;refine Qn Tryz.func122 J qg qg J<|qc<|qa J<|qa J<|qu<|U J<|O _ J<|qa J<|qu<|U J<|O _ J<|qa J<|qu<|U J<|O _ J<|qa J<|qu<|U J<|O _ J<|qa J<|qu<|U J<|U J<|O _ J<|qa J<|qu<|U J<|U J<|O _ J<|U J<|O _ J<|O _ J<|qa J<|qu<|U J<|O _ J<|qa J<|qu<|U J<|O _ J ?_;refine qa J<|qu<|U J<|U J<|U J<|O _ J<|O _ J<|qa J<|qu<|U J<|U J<|O _ J<|U J<|O _ J<|U J<|O _ J<|O _ J<|qa J<|qu<|U J<|U J<|O _ J<|qa J<|qq ?_;cases c;exact Q6 _ J
theorem qrp (b : Int) (c : Int) (r : Int × Int) (a : qb8 b c = some r) : Pure Tryz.prog tab 98 [.int .u64 b,.int .u64 c] (.tup [.int .u64 r.1,.int .u64 r.2]):=by
 unfold qb8 at a;refine Qn Tryz.func98 J qg qg J<|qc<|qa J<|qa J<|q9<|qf<|Z2 J<|ql<|qc<|U J<|U J<|q8 a fun d f a=>Qd (qro b c d f) J<|U J<|O _ J<|O _ J<|qa J<|qa J<|qu<|U J<|U J<|qa J<|qa J<|qq ?_;cases a;exact Q6 _ J
theorem qwz (f : List Int) (l : Int) (r : List Int) (a : q8y f l = some r) : Pure Tryz.prog tab 68 [.sl 1 (f.map (eI .i64)),qb l] (.sl 1 (r.map (eI .i64))):=by
 unfold q8y at a;refine Qn Tryz.func68 J qg qg J<|qc<|qa J<|q9<|qf<|qc<|U J<|O _ J<|q9 ?_;refine qo J a (fun _ a=>?_) (fun _ a=>?_)
 ·refine Q0 ?_;cases a
 refine ql<|qc<|U J<|Qz J<|O _ J<|U J<|O _ J<|q8 a fun u v a=>Qd (qrp (IntKind.wrap .u64 (f.length : Int)) (IntKind.wrap .u64 l) u v) J<|U J<|O _ J<|O _ J<|qa J<|qa J<|q9<|qf<|qc<|U J<|O _ J<|q8 a fun x h a=>?_;refine Qg 4 (fun A st=>∃ n o p,st = A [(26,Q3 x),(25,p),(24,o),(23,n)]) ?_ ?_
 ·refine Qe J J h (fun h=>?_) (fun h=>?_)
  ·refine qd J<|qd J<|O _ J<|q9 ?_;cases h;exact ⟨_,_,_,J⟩
  refine U J<|O _ J<|O _ J<|q9 ?_;cases h;exact ⟨_,_,_,J⟩
 rintro _ ⟨n,o,p,rfl⟩;refine q9 ?_;refine qo J a (fun _ a=>?_) (fun _ a=>?_)
 ·refine Q0 ?_;cases a
 refine ql<|qc<|U J<|O _ J<|q8 a fun k y a=>qkb (z:=0) (enc:=(eI .i64)) y J J J J J J<|qa J<|qu<|U J<|U J<|qk7 (w:=(0,k.length)) (xs:=k) (ys:=f) (enc:=(eI .i64)) (.d (.sl 1 (f.map (eI .i64)))) qe J J J J J J qp9 J J J J ?_;have aa:=@q7m _ k f (0,k.length) qe;refine qa J<|q9<|qf<|q8 a fun q ab a=>?_;refine Qt (fun j=>j = q) (fun j=>⟨[(7,.hs 0 1 0 j.length)],[(0,.dat 1 (j.map (eI .i64)))],1⟩) qe ?_ ?_
 ·refine Qo (q5y) (fun c=>⟨[(7,.hs 0 1 0 c.2.length),(8,q7 c.1)],[(0,.dat 1 (c.2.map (eI .i64)))],1⟩) _ q ab (wkE [(0,0)] [] [] J ⟨⟨_,J,K4 (by simp [aa]) J qn (ltd J)⟩,qp J,trivial⟩ ⟨Qk J J,trivial⟩) ?_;intro c ad b;unfold q5y at b;refine qf<|qc<|U J<|U J<|O _ J<|O _ J<|q9 ?_;refine qo J b (fun _ b=>?_) (fun _ b=>?_)
  ·refine ql<|Q4<|Qj [q6,q6,Qp 0,q6,q6,q6,q6,q6,q6,q6] qg<|U J<|U J<|U J<|q8 b fun s m b=>q86 m J J J J J (q39 J) (fun _=>rfl)<|U J<|U J<|q8 b fun g t b=>q86 t J J J J J (fun _=>rfl) (q39 J)<|qk7 (w:=s) (xs:=c.2) (ys:=(c.2.drop g.1).take g.2) (enc:=(eI .i64)) (.hs 0 1 g.1 g.2) (qa4 m) J J J J J J (qpa (qa4 t) J) J J J J ?_;have ac:=@q7m _ c.2 ((c.2.drop g.1).take g.2) s (qa4 m);refine O _ J<|qa J<|qz<|Qm<|Qh<|⟨_,qr b,wkE [(0,0)] [] [] J ⟨⟨_,J,K4 (by simp [ac]) J qn (ltd J)⟩,qp J,trivial⟩ ⟨Qk J J,trivial⟩⟩
  refine Qf ?_;refine ⟨_,qr b,fun hm=>?_⟩;subst hm;exact ⟨_,J,wkA [(0,0)] [] []⟩
 intro j hb;subst hb;refine qc<|U J<|qa J<|qq ?_;obtain rfl:=qt a;exact finD (.inr J) J (Zk J J) (.refl _)
theorem q10k (c : Int) (z : Int) (r : List Int × Int) (a : q75 c z = some r) : Pure Tryz.prog tab 42 [qb c,qb z] (.tup [.sl 1 (r.1.map (eI .i64)),qb r.2]):=by
 unfold q75 at a;refine Qn Tryz.func42 J qg qg J<|qc<|qa J<|qa J<|q9<|qf<|qc<|U J<|O _ J<|q8 a fun c1 k a=>?_;refine Qg 4 (fun A st=>∃ j3 j4 j5,st = A [(12,Q3 c1),(11,j5),(10,j4),(9,j3)]) ?_ ?_
 ·refine Qe J J k (fun k=>?_) (fun k=>?_)
  ·refine qd J<|qd J<|O _ J<|q9 ?_;cases k;exact ⟨_,_,_,J⟩
  refine U J<|O _ J<|O _ J<|q9 ?_;cases k;exact ⟨_,_,_,J⟩
 rintro _ ⟨j3,j4,j5,rfl⟩;refine q8 a fun c6 l a=>?_;refine Qg 4 (fun A st=>∃ j8 j9 af,st = A [(16,Q3 c6),(15,af),(14,j9),(13,j8)]) ?_ ?_
 ·refine Qe J J l (fun l=>?_) (fun l=>?_)
  ·refine qd J<|qd J<|O _ J<|q9 ?_;cases l;exact ⟨_,_,_,J⟩
  refine U J<|O _ J<|O _ J<|q9 ?_;cases l;exact ⟨_,_,_,J⟩
 rintro _ ⟨j8,j9,af,rfl⟩;refine q8 a fun an m a=>?_;refine Qg 4 (fun A st=>∃ ag ah ai,st = A [(20,Q3 an),(19,ai),(18,ah),(17,ag)]) ?_ ?_
 ·refine Qe J J m (fun m=>?_) (fun m=>?_)
  ·refine qd J<|qd J<|O _ J<|q9 ?_;cases m;exact ⟨_,_,_,J⟩
  refine U J<|O _ J<|O _ J<|q9 ?_;cases m;exact ⟨_,_,_,J⟩
 rintro _ ⟨ag,ah,ai,rfl⟩;refine q9 ?_;refine qo J a (fun _ a=>?_) (fun _ a=>?_)
 ·refine qc<|qa J<|qa J<|qq ?_;obtain rfl:=qt a;exact finD (.inr J) J J (Y4 (.cons (.nil _) (.cons (.refl _) .nil)))
 refine ql<|qc<|U J<|O _ J<|U J<|O _ J<|U J<|O _ J<|q8 a fun aj ao a=>qbe ao J J J<|q3q (r:=max 1 aj) J J (by simp only [q3p];rfl)<|qa J<|q9<|qf<|qc<|U J<|O _ J<|q9 ?_;refine qo J a (fun _ a=>?_) (fun _ a=>?_)
 ·refine qc<|qa J<|qa J<|qq ?_;obtain rfl:=qt a;exact finD (.inr J) J J (Y4 (.cons (.nil _) (.cons (.refl _) .nil)))
 refine ql<|qc<|U J<|q5c (es:=1) ([1].map (eI .i64)) J J J J J<|U J<|q8 a fun b ap a=>Qd (qwz [1] (max 1 aj) b ap) J<|q8 a fun aq t a=>?_;refine q1j [q7 c,.d (.sl 1 (b.map (eI .i64)))] (fun g=>g = aq) (fun g=>⟨[(35,.fn 96 [.ref 0 1 0 0,.ref 1 1 0 0,.ref 2 1 0 0])],[(0,.dat 1 [[.sl 1 (b.map (eI .i64))]]),(1,.dat 1 [[qb c]]),(2,.dat 1 [[qb g]])],3⟩) J J Tryz.func66 J qg qg J ?_ ?_
 ·refine qc<|Qq _ _ J<|Qq _ _ J<|qa J<|qu<|Qs J J<|Q7 3 _ J<|q9<|qf<|qc<|O _ J<|Qz J<|U J<|q9<|q8 t fun ak ar t=>?_;refine Qt (fun s=>s = ak) (fun s=>⟨[(2,.ref 1 1 0 0),(3,.ref 2 1 0 0),(5,.ref 3 1 0 0)],[(1,.dat 1 [[qb c]]),(2,.dat 1 [[.sl 1 (b.map (eI .i64))]]),(3,.dat 1 [[qb s]])],4⟩) qe ?_ ?_
  ·refine Qo (q4k b) (fun u=>⟨[(2,.ref 1 1 0 0),(3,.ref 2 1 0 0),(5,.ref 3 1 0 0),(8,.d (.sl 1 (b.map (eI .i64)))),(9,q7 (b.length : Int)),(10,q7 u.1)],[(1,.dat 1 [[qb c]]),(2,.dat 1 [[.sl 1 (b.map (eI .i64))]]),(3,.dat 1 [[qb u.2]])],4⟩) _ ak ar (wkA [(1,1),(2,2),(3,3)] [] []) ?_;intro u bg h;unfold q4k at h;refine qc<|O _ J<|q9<|qf ?_;refine qo J h (fun _ h=>?_) (fun _ h=>?_)
   ·refine ql<|qf<|Q4<|qc<|q8 h fun bh au h=>K1 au J<|O _ J<|qa J<|q9<|Q0<|O _ J<|U J<|O _ J<|Q7 3 _ J<|qz<|Qm<|Q0<|O _ J<|U J<|qz<|⟨_,qr h,wkA [(1,1),(2,2),(3,3)] [] []⟩
   refine Qf ?_;refine ⟨_,qr h,fun hm=>?_⟩;subst hm;exact ⟨_,J,wkA [(1,1),(2,2),(3,3)] [] []⟩
  intro s hb;subst hb;refine qc<|O _ J<|qa J<|qq ?_;refine ⟨.inr J,_,J,?_⟩;obtain rfl:=qt t;exact ⟨_,J,wkA [(0,2),(1,1),(2,3)] [] []⟩
 intro g hb;subst hb;refine q8 a fun av v a=>?_;refine q1j [.fn 96 [.ref 0 1 0 0,.ref 1 1 0 0,.ref 2 1 0 0]] (fun n=>n = av) (fun n=>⟨[(36,.hs 0 1 0 n.length)],[(0,.dat 1 (n.map (eI .i64)))],1⟩) J J Tryz.func67 J qg qg J ?_ ?_
 ·refine qc<|qa J<|qu<|U J<|q8 v fun aw w v=>?_;refine q1j [.d (.nilsl),.fn 96 [.ref 0 1 0 0,.ref 1 1 0 0,.ref 2 1 0 0]] (fun o=>o = aw) (fun o=>⟨[(4,.hs 3 1 0 o.length)],[(0,.dat 1 [[.sl 1 (b.map (eI .i64))]]),(1,.dat 1 [[qb c]]),(2,.dat 1 [[qb g]]),(3,.dat 1 (o.map (eI .i64)))],4⟩) J J Tryz.func97 J qg qg J ?_ ?_
  ·refine qc<|Qq _ _ J<|qa J<|q9<|qf<|qc<|U J<|q9<|Q4<|q8 w fun ax x w=>?_;refine q3y (fun p=>p = ax) (fun p=>⟨[(2,.ref 3 1 0 0)],[(0,.dat 1 [[.sl 1 (b.map (eI .i64))]]),(1,.dat 1 [[qb c]]),(2,.dat 1 [[qb g]]),(3,.cel 1 [[.hs 4 1 0 p.length]]),(4,.dat 1 (p.map (eI .i64)))],5⟩) ?_ ?_
   ·refine Yq (st':=⟨[(2,.ref 3 1 0 0),(4,.d (.nilsl)),(6,.fn 96 [.ref 0 1 0 0,.ref 1 1 0 0,.ref 2 1 0 0])],[(0,.dat 1 [[.sl 1 (b.map (eI .i64))]]),(1,.dat 1 [[qb c]]),(2,.dat 1 [[qb g]]),(3,.dat 1 [[.nilsl]])],4⟩) (wkA [(3,3)] [] []) ?_ qe;refine q3z _ (.inl J) Tryz.func96 J qg qg J ?_;intro A269 B270 hA269 hB270;refine qc<|qa J<|qa J<|qu<|O _ J<|Qz J<|U J<|q9<|q8 x fun ay az x=>Q4<|Qo (q4l b c g) (fun j=>⟨[(0,.yld 4),(2,.ref 1 1 0 0),(3,.ref 2 1 0 0),(5,q7 j.1),(6,q7 j.2.1),(10,.d (.sl 1 (b.map (eI .i64)))),(11,q7 (b.length : Int)),(12,q7 j.2.2.1)],[(0,.dat 1 [[.sl 1 (b.map (eI .i64))]]),(1,.dat 1 [[qb c]]),(2,.dat 1 [[qb g]]),(3,.cel 1 [[.hs 5 1 0 j.2.2.2.length]]),(4,.loop [(2,.ref 3 1 0 0),(4,.d (.nilsl)),(6,.fn 96 [.ref 0 1 0 0,.ref 1 1 0 0,.ref 2 1 0 0])] [7] A269 B270 .ready none),(5,.dat 1 (j.2.2.2.map (eI .i64)))],6⟩) _ ay az (wkA [] [] [5]) ?_;intro j bi f;unfold q4l at f;refine qc<|O _ J<|q9<|qf ?_;refine qo J f (fun _ f=>?_) (fun _ f=>?_)
    ·refine ql<|qf<|Q4<|qc<|q8 f fun ba bb f=>K1 bb J<|O _ J<|qa J<|qu<|U J<|U J<|O _ J<|qa J<|qu<|O _ J<|U J<|O _ J<|O _ J<|q8 f fun bc bd f=>qbe bd J J J<|qa J<|q9<|qf<|qc<|U J<|U J<|U J<|O _ J<|q8 f fun be y f=>?_;refine q3s (fun q=>q = be) (fun q=>⟨[(0,.yld 4),(2,.ref 1 1 0 0),(3,.ref 2 1 0 0),(5,.d (qb (w64 (j.1 + ba)))),(9,q7 bc),(10,.d (.sl 1 (b.map (eI .i64)))),(11,q7 (b.length : Int)),(12,q7 j.2.2.1),(28,Q3 true)],[(0,.dat 1 [[.sl 1 (b.map (eI .i64))]]),(1,.dat 1 [[qb c]]),(2,.dat 1 [[qb g]]),(3,.cel 1 [[.hs 5 1 0 q.length]]),(4,.loop [(2,.ref 3 1 0 0),(4,.d (.nilsl)),(6,.fn 96 [.ref 0 1 0 0,.ref 1 1 0 0,.ref 2 1 0 0])] [7] A269 B270 .ready none),(5,.dat 1 (q.map (eI .i64)))],6⟩) hA269 hB270 J J J J J J ?_ ?_
     ·refine Q0<|qa J<|qz ?_;refine ⟨J,_,J,?_⟩;refine Q4<|Q0<|O _ J<|U J<|Qq _ _ J<|q8 y fun bj bf y=>Yz _ bf J J J J J J J (Yy J J) J J J J<|Q7 3 _ J<|qz<|Qm<|Qh ?_;refine ⟨_,J,?_⟩;obtain rfl:=qt y;exact ⟨_,J,wkA [(5,7)] [] []⟩
     intro q hb;subst hb;refine O _ J<|q9<|Z2 J<|ql<|Q0<|U J<|qa J<|qz<|Qm<|Q0<|O _ J<|U J<|qz<|⟨_,qr f,wkA [(5,5)] [] []⟩
    refine Qf ?_;refine ⟨_,qr f,fun hm=>?_⟩;subst hm;refine ⟨.inl J,_,J,_,_,.nor,J,qn,?_⟩;refine q35<|Qh ?_;obtain rfl:=qt x;exact ⟨_,J,wkA [(3,3),(4,5)] [] []⟩
   intro p st hb hw;subst hb;refine Yq hw ?_ qe;refine qc<|O _ J<|qa J<|qq ?_;refine ⟨.inr J,_,J,?_⟩;obtain rfl:=qt w;exact ⟨_,J,wkA [(3,4)] [] []⟩
  intro o hb;subst hb;refine qa J<|qq ?_;refine ⟨.inr J,_,J,?_⟩;obtain rfl:=qt v;exact ⟨_,J,wkA [(0,3)] [] []⟩
 intro n hb;subst hb;refine qa J<|qa J<|qq ?_;obtain rfl:=qt a;exact finD (.inr J) J (q32 (Zu (Zk J J) (Zu J J))) (.refl _)
theorem qwx (b : List Int) (f : Int→Option Bool) (p1F : FuncId) (p1C : List DV) (p1Ok : ∀ (h : Int) (r : Bool),f h = some r→Pure Tryz.prog tab p1F ([qb h] ++ p1C) (.bool r)) (r : Int) (c : q8w b f = some r) : Pure Tryz.prog tab 99 [.sl 1 (b.map (eI .i64)),.fn p1F p1C] (qb r):=by
 unfold q8w at c;refine Qn Tryz.func99 J qg qg J<|qc<|qa J<|q9<|qf<|qc<|U J<|Qz J<|U J<|q9<|q8 c fun j l c=>?_;refine Qt (fun g=>.inl g = j) (fun g=>⟨[],[],0⟩) qe ?_ ?_
 ·refine Qo (q45 b f) (fun k=>⟨[(0,.d (.sl 1 (b.map (eI .i64)))),(1,.d (.fn p1F p1C)),(7,q7 (b.length : Int)),(8,q7 k)],[],0⟩) _ j l (wkA [] [] []) ?_;intro k q a;unfold q45 at a;refine qc<|O _ J<|q9<|qf ?_;refine qo J a (fun _ a=>?_) (fun _ a=>?_)
  ·refine ql<|qf<|Q4<|qc<|U J<|qa J<|qu<|U J<|U J<|U J<|q8 a fun m n a=>K1 n J<|O _ J<|q8 a fun o p a=>Ym _ (p1Ok m o p) J J J (.inl J)<|q9 ?_;refine qo J a (fun _ a=>?_) (fun _ a=>?_)
   ·refine qc<|U J<|qa J<|qq ?_;refine ⟨_,qr a,fun hm=>?_⟩;subst hm;cases c;exact Q6 _ J
   refine ql<|Qh<|Qm<|Q0<|O _ J<|U J<|qz<|⟨_,qr a,wkA [] [] []⟩
  refine Qf ?_;refine ⟨_,qr a,fun hm=>?_⟩;subst hm;exact ⟨_,J,wkA [] [] []⟩
 intro g hb;subst hb;refine qc<|qa J<|qq ?_;cases c;exact Q6 _ J
theorem qwp (b : List Int) (c : Int→Option Bool) (p1F : FuncId) (p1C : List DV) (p1Ok : ∀ (d : Int) (r : Bool),c d = some r→Pure Tryz.prog tab p1F ([qb d] ++ p1C) (.bool r)) (r : Bool) (a : q5v b c = some r) : Pure Tryz.prog tab 69 [.sl 1 (b.map (eI .i64)),.fn p1F p1C] (.bool r):=by
 unfold q5v at a;refine Qn Tryz.func69 J qg qg J<|qc<|qa J<|qu<|U J<|U J<|q8 a fun f g a=>Qd (qwx b c p1F p1C p1Ok f g) J<|O _ J<|qa J<|qq ?_;cases a;exact Q6 _ J
theorem q10j (a : Int) (r : Bool) (b : q30 a = some r) : Pure Tryz.prog tab 70 [qb a] (.bool r):=by
 unfold q30 at b;refine Qn Tryz.func70 J qg qg J<|qc<|qa J<|qu<|U J<|O _ J<|qa J<|qq ?_;cases b;exact Q6 _ J
theorem qmj (c : List Int) (r : List Int × Int) (b : Jm c = some r) : Pure Tryz.prog tab 43 [.sl 1 (c.map (eI .i64))] (.tup [.sl 1 (r.1.map (eI .i64)),qb r.2]):=by
 unfold Jm at b;refine Qn Tryz.func43 J qg qg J<|qc<|qa J<|qa J<|q9<|qf<|qc<|U J<|Qz J<|O _ J<|q9 ?_;refine qo J b (fun _ b=>?_) (fun _ b=>?_)
 ·refine qc<|qa J<|qa J<|qq ?_;obtain rfl:=qt b;exact finD (.inr J) J J (Y4 (.cons (.nil _) (.cons (.refl _) .nil)))
 refine ql<|qf<|qc<|U J<|q8 b fun m n b=>Qd (qwp c (fun h=>q30 h) 70 [] (fun h r hr=>q10j h r hr) m n) J<|q9 ?_;refine qo J b (fun _ b=>?_) (fun _ b=>?_)
 ·refine qc<|qa J<|qa J<|qq ?_;obtain rfl:=qt b;exact finD (.inr J) J J (Y4 (.cons (.nil _) (.cons (.refl _) .nil)))
 refine ql<|qc<|Qq _ _ J<|qa J<|q9<|qf<|qc<|U J<|Qz J<|U J<|q9<|q8 b fun j o b=>?_;refine Qt (fun f=>.inl f = j) (fun f=>⟨[(4,.hs 0 1 0 f.length)],[(0,.dat 1 (f.map (eI .i64)))],1⟩) qe ?_ ?_
 ·refine Qo (Uc c) (fun g=>⟨[(4,.hs 0 1 0 g.2.length),(13,.d (.sl 1 (c.map (eI .i64)))),(14,q7 (c.length : Int)),(15,q7 g.1)],[(0,.dat 1 (g.2.map (eI .i64)))],1⟩) _ j o (wkA [(0,0)] [] []) ?_;intro g s a;unfold Uc at a;refine qc<|O _ J<|q9<|qf ?_;refine qo J a (fun _ a=>?_) (fun _ a=>?_)
  ·refine ql<|qf<|Q4<|qc<|U J<|q8 a fun t p a=>K1 p J<|O _ J<|qa J<|qa J<|q9<|qf<|qc<|U J<|U J<|U J<|q8 a fun u k a=>qy k J J<|Qc _ k J<|O _ J<|O _ J<|q9 ?_;refine qo J a (fun _ a=>?_) (fun _ a=>?_)
   ·refine qc<|qa J<|qa J<|qq ?_;refine ⟨_,qr a,fun hm=>?_⟩;subst hm;obtain rfl:=qt b;exact finD (.inr J) J J (Y4 (.cons (.nil _) (.cons (.refl _) .nil)))
   refine ql<|Q0<|U J<|U J<|U J<|q8 a fun v l a=>qy l J J<|Qc _ l J<|U J<|O _ J<|Qq _ _ J<|q8 a fun w q a=>Yz _ q J J J J J J J (Yy J J) J J J J<|qa J<|qz<|Qm<|Q0<|O _ J<|U J<|qz<|⟨_,qr a,wkA [(0,2)] [] []⟩
  refine Qf ?_;refine ⟨_,qr a,fun hm=>?_⟩;subst hm;exact ⟨_,J,wkA [(0,0)] [] []⟩
 intro f hb;subst hb;refine qc<|U J<|qa J<|qa J<|qq ?_;obtain rfl:=qt b;exact finD (.inr J) J (q32 (Zu (Zk J J) (Zu J J))) (.refl _)
theorem qwy (c : List Int) (r : Bool) (b : q8x c = some r) : Pure Tryz.prog tab 71 [.sl 1 (c.map (eI .i64))] (.bool r):=by
 unfold q8x at b;refine Qn Tryz.func71 J qg qg J<|qc<|qa J<|q9<|qf<|qc<|U J<|Qz J<|O _ J<|qa J<|q9<|q8 b fun g j b=>?_;refine Qt (fun f=>.inl f = g) (fun f=>⟨[],[],0⟩) qe ?_ ?_
 ·refine Qo (q5x c) (fun h=>⟨[(0,.d (.sl 1 (c.map (eI .i64)))),(3,q7 h)],[],0⟩) _ g j (wkA [] [] []) ?_;intro h q a;unfold q5x at a;refine qf<|qc<|U J<|O _ J<|q9 ?_;refine qo J a (fun _ a=>?_) (fun _ a=>?_)
  ·refine ql<|qf<|Q4<|qf<|Qj [q6,q6,q6,q6,q6,q6,q6,q6,q6,q6] qg<|U J<|U J<|q8 a fun k l a=>K1 l J<|O _ J<|U J<|U J<|O _ J<|q8 a fun m n a=>K1 n J<|O _ J<|q8 a fun o p a=>Qd (Zx k m o p) J<|q9 ?_;refine qo J a (fun _ a=>?_) (fun _ a=>?_)
   ·refine qc<|qa J<|qq ?_;refine ⟨_,qr a,fun hm=>?_⟩;subst hm;cases b;exact Q6 _ J
   refine ql<|Qh<|Qm<|Q0<|U J<|O _ J<|qa J<|qz<|⟨_,qr a,wkA [] [] []⟩
  refine Qf ?_;refine ⟨_,qr a,fun hm=>?_⟩;subst hm;exact ⟨_,J,wkA [] [] []⟩
 intro f hb;subst hb;refine qc<|qa J<|qq ?_;cases b;exact Q6 _ J
theorem q10f (h : List Int) (j : Int) (r : Int × Int) (a : q2z h j = some r) : Pure Tryz.prog tab 44 [.sl 1 (h.map (eI .i64)),qb j] (.tup [qb r.1,qb r.2]):=by
 unfold q2z at a;refine Qn Tryz.func44 J qg qg J<|qc<|qa J<|qa J<|q9<|qf<|qc<|U J<|Qz J<|O _ J<|q8 a fun c3 c a=>?_;refine Qg 6 (fun A st=>∃ l m n o p,st = A [(15,Q3 c3),(14,p),(13,o),(12,n),(11,m),(10,l)]) ?_ ?_
 ·refine Qe J J c (fun c=>?_) (fun c=>?_)
  ·refine qd J<|qd J<|qd J<|qd J<|O _ J<|q9 ?_;cases c;exact ⟨_,_,_,_,_,J⟩
  refine U J<|q8 c fun aq ah c=>K1 ah J<|O _ J<|O _ J<|O _ J<|q9 ?_;cases c;exact ⟨_,_,_,_,_,J⟩
 rintro _ ⟨l,m,n,o,p,rfl⟩;refine q8 a fun ai f a=>?_;refine Qg 5 (fun A st=>∃ q s t u,st = A [(20,Q3 ai),(19,u),(18,t),(17,s),(16,q)]) ?_ ?_
 ·refine Qe J J f (fun f=>?_) (fun f=>?_)
  ·refine qd J<|qd J<|qd J<|O _ J<|q9 ?_;cases f;exact ⟨_,_,_,_,J⟩
  refine U J<|q8 f fun aj ak f=>Qd (qwy h aj ak) J<|O _ J<|O _ J<|q9 ?_;cases f;exact ⟨_,_,_,_,J⟩
 rintro _ ⟨q,s,t,u,rfl⟩;refine q9 ?_;refine qo J a (fun _ a=>?_) (fun _ a=>?_)
 ·refine qc<|qa J<|qa J<|qq ?_;cases a;exact Q6 _ J
 refine ql<|qf<|qc<|U J<|q8 a fun v al a=>qkc (enc:=(eI .i64)) al J J J J J (q39 J) (fun _=>rfl)<|Qz J<|U J<|q9<|q8 a fun w am a=>?_;refine Qt (fun k=>.inl k = w) (fun k=>⟨[],[],0⟩) qe ?_ ?_
 ·refine Qo (q4i v h j) (fun x=>⟨[(0,.d (.sl 1 (h.map (eI .i64)))),(1,q7 j),(23,q7 (v.length : Int)),(24,q7 x)],[],0⟩) _ w am (wkA [] [] []) ?_;intro x ar b;unfold q4i at b;refine qc<|O _ J<|q9<|qf ?_;refine qo J b (fun _ b=>?_) (fun _ b=>?_)
  ·refine ql<|qf<|Q4<|qc<|U J<|qa J<|qu<|U J<|U J<|q8 b fun au an b=>K1 an J<|O _ J<|U J<|O _ J<|q8 b fun ao g b=>?_;refine Qg 9 (fun A st=>∃ y z aa ab ac ad ae af,st = A [(41,Q3 ao),(40,af),(39,ae),(38,ad),(37,ac),(36,ab),(35,aa),(34,z),(33,y)]) ?_ ?_
   ·refine Qe J J g (fun g=>?_) (fun g=>?_)
    ·refine U J<|U J<|U J<|O _ J<|q8 g fun av ap g=>K1 ap J<|O _ J<|O _ J<|O _ J<|q9 ?_;cases g;exact ⟨_,_,_,_,_,_,_,_,J⟩
    refine qd J<|qd J<|qd J<|qd J<|qd J<|qd J<|qd J<|O _ J<|q9 ?_;cases g;exact ⟨_,_,_,_,_,_,_,_,J⟩
   rintro _ ⟨y,z,aa,ab,ac,ad,ae,af,rfl⟩;refine q9 ?_;refine qo J b (fun _ b=>?_) (fun _ b=>?_)
   ·refine qc<|U J<|qa J<|qa J<|qq ?_;refine ⟨_,qr b,fun hm=>?_⟩;subst hm;cases a;exact Q6 _ J
   refine ql<|Qh<|Qm<|Q0<|O _ J<|U J<|qz<|⟨_,qr b,wkA [] [] []⟩
  refine Qf ?_;refine ⟨_,qr b,fun hm=>?_⟩;subst hm;exact ⟨_,J,wkA [] [] []⟩
 intro k hb;subst hb;refine qc<|qa J<|qa J<|qq ?_;cases a;exact Q6 _ J
theorem qfg (c : List Int) (f : List Int) (r : Bool) (b : q3u c f = some r) : Pure Tryz.prog tab 45 [.sl 1 (c.map (eI .i64)),.sl 1 (f.map (eI .i64))] (.bool r):=by
 unfold q3u at b;refine Qn Tryz.func45 J qg qg J<|qc<|qa J<|q9<|qf<|qc<|U J<|Qz J<|U J<|Qz J<|O _ J<|q9 ?_;refine qo J b (fun _ b=>?_) (fun _ b=>?_)
 ·refine qc<|qa J<|qq ?_;cases b;exact Q6 _ J
 refine ql<|qf<|qc<|qa J<|q9<|q8 b fun h k b=>?_;refine Qt (fun g=>.inl g = h) (fun g=>⟨[],[],0⟩) qe ?_ ?_
 ·refine Qo (q3v c f) (fun j=>⟨[(0,.d (.sl 1 (c.map (eI .i64)))),(1,.d (.sl 1 (f.map (eI .i64)))),(5,q7 j)],[],0⟩) _ h k (wkA [] [] []) ?_;intro j n a;unfold q3v at a;refine qf<|qc<|U J<|U J<|Qz J<|O _ J<|q9 ?_;refine qo J a (fun _ a=>?_) (fun _ a=>?_)
  ·refine ql<|qf<|Q4<|qf<|Qj [q6,q6,q6,q6,q6,q6,q6,q6,q6] qg<|U J<|U J<|q8 a fun o l a=>K1 l J<|O _ J<|U J<|U J<|q8 a fun p m a=>K1 m J<|O _ J<|O _ J<|q9 ?_;refine qo J a (fun _ a=>?_) (fun _ a=>?_)
   ·refine qc<|qa J<|qq ?_;refine ⟨_,qr a,fun hm=>?_⟩;subst hm;cases b;exact Q6 _ J
   refine ql<|Qh<|Qm<|Q0<|U J<|O _ J<|qa J<|qz<|⟨_,qr a,wkA [] [] []⟩
  refine Qf ?_;refine ⟨_,qr a,fun hm=>?_⟩;subst hm;exact ⟨_,J,wkA [] [] []⟩
 intro g hb;subst hb;refine qc<|qa J<|qq ?_;cases b;exact Q6 _ J
theorem qra (r : Bool) (a : q82 = some r) : Pure Tryz.prog tab 20 [] (.bool r):=by
 unfold q82 at a;refine Qn Tryz.func20 J qg qg J<|qc<|qa J<|qu<|q8 a fun l z a=>Qd (qrb l z) J<|q8 a fun j h4 a=>Qd (q10n 10 l j h4) J<|U J<|O _ J<|O _ J<|qa J<|qa J<|qu<|q8 a fun k h6 a=>Qd (q10k 10 4 k h6) J<|U J<|O _ J<|O _ J<|qa J<|qa J<|qu<|q5c (es:=1) ([3,2,0,5].map (eI .i64)) J J J J J<|q8 a fun h h8 a=>Qd (qmj [3,2,0,5] h h8) J<|U J<|O _ J<|O _ J<|qa J<|qa J<|qu<|U J<|q8 a fun r9 ae a=>Qd (q10f h.1 5 r9 ae) J<|U J<|O _ J<|O _ J<|qa J<|qa J<|qu ?_;refine U J<|O _ J ?_;refine Qe J J a (fun a=>?_) (fun a=>?_)
 ·refine U J<|Qq _ _ J<|q8 a fun af ag a=>q3r [.d (.sl 1 (j.1.map (eI .i64))),.hs 1 1 0 [3,2,1,4].length] (qfg j.1 [3,2,1,4] af ag) J J (Zw J (Zw (Zk J J) J)) (.inr J)<|O _ J<|q8 a fun ah b a=>?_;refine Qg 4 (fun A st=>∃ m n o,st = A [(38,Q3 ah),(37,o),(36,n),(35,m)]) ?_ ?_
  ·refine Qe J J b (fun b=>?_) (fun b=>?_)
   ·refine U J<|O _ J<|O _ J<|q9 ?_;cases b;exact ⟨_,_,_,J⟩
   refine qd J<|qd J<|O _ J<|q9 ?_;cases b;exact ⟨_,_,_,J⟩
  rintro _ ⟨m,n,o,rfl⟩;refine Qe J J a (fun a=>?_) (fun a=>?_)
  ·refine U J<|Qq _ _ J<|q8 a fun ai aj a=>q3r [.d (.sl 1 (k.1.map (eI .i64))),.hs 2 1 0 [3,3,4].length] (qfg k.1 [3,3,4] ai aj) J J (Zw J (Zw (Zk J J) J)) (.inr J)<|O _ J<|q8 a fun ak c a=>?_;refine Qg 4 (fun A st=>∃ p q s,st = A [(47,Q3 ak),(46,s),(45,q),(44,p)]) ?_ ?_
   ·refine Qe J J c (fun c=>?_) (fun c=>?_)
    ·refine U J<|O _ J<|O _ J<|q9 ?_;cases c;exact ⟨_,_,_,J⟩
    refine qd J<|qd J<|O _ J<|q9 ?_;cases c;exact ⟨_,_,_,J⟩
   rintro _ ⟨p,q,s,rfl⟩;refine Qe J J a (fun a=>?_) (fun a=>?_)
   ·refine U J<|Qq _ _ J<|q8 a fun al am a=>q3r [.d (.sl 1 (h.1.map (eI .i64))),.hs 3 1 0 [0,3,5,5,10].length] (qfg h.1 [0,3,5,5,10] al am) J J (Zw J (Zw (Zk J J) J)) (.inr J)<|O _ J<|q8 a fun an f a=>?_;refine Qg 4 (fun A st=>∃ t u v,st = A [(56,Q3 an),(55,v),(54,u),(53,t)]) ?_ ?_
    ·refine Qe J J f (fun f=>?_) (fun f=>?_)
     ·refine U J<|O _ J<|O _ J<|q9 ?_;cases f;exact ⟨_,_,_,J⟩
     refine qd J<|qd J<|O _ J<|q9 ?_;cases f;exact ⟨_,_,_,J⟩
    rintro _ ⟨t,u,v,rfl⟩;refine q8 a fun ao g a=>?_;refine Qg 4 (fun A st=>∃ w x y,st = A [(60,Q3 ao),(59,y),(58,x),(57,w)]) ?_ ?_
    ·refine Qe J J g (fun g=>?_) (fun g=>?_)
     ·refine U J<|O _ J<|O _ J<|q9 ?_;cases g;exact ⟨_,_,_,J⟩
     refine qd J<|qd J<|O _ J<|q9 ?_;cases g;exact ⟨_,_,_,J⟩
    rintro _ ⟨w,x,y,rfl⟩;refine qa J<|qq ?_;cases a;exact Q6 _ J
   refine qd J<|qd J<|qd J<|O _ J<|U J<|qd J<|qd J<|O _ J<|U J<|qd J<|qd J<|O _ J<|qa J<|qq ?_;cases a;exact Q6 _ J
  refine qd J<|qd J<|qd J<|O _ J<|U J<|qd J<|qd J<|O _ J<|U J<|qd J<|qd J<|qd J<|O _ J<|U J<|qd J<|qd J<|O _ J<|U J<|qd J<|qd J<|O _ J<|qa J<|qq ?_;cases a;exact Q6 _ J
 refine qd J<|qd J<|qd J<|O _ J<|U J<|qd J<|qd J<|O _ J<|U J<|qd J<|qd J<|qd J<|O _ J<|U J<|qd J<|qd J<|O _ J<|U J<|qd J<|qd J<|qd J<|O _ J<|U J<|qd J<|qd J<|O _ J<|U J<|qd J<|qd J<|O _ J<|qa J<|qq ?_;cases a;exact Q6 _ J
theorem qty (c : Ki) (r : Int) (a : q8f c = some r) : Pure Tryz.prog tab 46 [.agg [.int .u8 c.Turn,qb c.At.X,qb c.At.Y,qb c.At.Z]] (qb r):=by
 unfold q8f at a;refine Qn Tryz.func46 J qg qg J<|qc<|Qq _ _ J<|qa J<|q9<|qf<|qc<|O _ J<|O _ J<|O _ J<|q8 a fun k b a=>?_;refine Qg 6 (fun A st=>∃ d f g h j,st = A [(11,Q3 k),(10,j),(9,h),(8,g),(7,f),(6,d)]) ?_ ?_
 ·refine Qe J J b (fun b=>?_) (fun b=>?_)
  ·refine qd J<|qd J<|qd J<|qd J<|O _ J<|q9 ?_;cases b;exact ⟨_,_,_,_,_,J⟩
  refine O _ J<|O _ J<|q8 b fun l m b=>Qd (qkw c.At (-1000000) l m) J<|O _ J<|O _ J<|q9 ?_;cases b;exact ⟨_,_,_,_,_,J⟩
 rintro _ ⟨d,f,g,h,j,rfl⟩;refine q9 ?_;refine qo J a (fun _ a=>?_) (fun _ a=>?_)
 ·refine qc<|qa J<|qq ?_;cases a;exact Q6 _ J
 refine ql<|qc<|qa J<|qq ?_;cases a;exact Q6 _ J
theorem qtz (c : Kb) (r : Int) (a : q8g c = some r) : Pure Tryz.prog tab 21 [.agg (J3 c)] (qb r):=by
 unfold q8g at a;refine Qn Tryz.func21 J qg qg J<|qc<|Qq _ _ J<|qa J<|q9<|qf<|qc<|O _ J<|O _ J<|q8 a fun k l a=>Qd (qty c.Frame k l) J<|O _ J<|q8 a fun m b a=>?_;refine Qg 6 (fun A st=>∃ d f g h j,st = A [(12,Q3 m),(11,j),(10,h),(9,g),(8,f),(7,d)]) ?_ ?_
 ·refine Qe J J b (fun b=>?_) (fun b=>?_)
  ·refine qd J<|qd J<|qd J<|qd J<|O _ J<|q9 ?_;cases b;exact ⟨_,_,_,_,_,J⟩
  refine O _ J<|O _ J<|q8 b fun n o b=>Qd (qkw c.Size 0 n o) J<|O _ J<|O _ J<|q9 ?_;cases b;exact ⟨_,_,_,_,_,J⟩
 rintro _ ⟨d,f,g,h,j,rfl⟩;refine q9 ?_;refine qo J a (fun _ a=>?_) (fun _ a=>?_)
 ·refine qc<|qa J<|qq ?_;cases a;exact Q6 _ J
 refine ql<|qc<|qa J<|qq ?_;cases a;exact Q6 _ J
theorem qim (c : Kb) (r : Int) (a : q4z c = some r) : Pure Tryz.prog tab 72 [.agg (J3 c)] (qb r):=by
 unfold q4z at a;refine Qn Tryz.func72 J qg qg J<|qc<|Qq _ _ J<|qa J<|q9<|qf<|qc<|O _ J<|O _ J<|q8 a fun k l a=>Qd (q7t c.Frame k l) J<|O _ J<|q8 a fun m b a=>?_;refine Qg 6 (fun A st=>∃ d f g h j,st = A [(12,Q3 m),(11,j),(10,h),(9,g),(8,f),(7,d)]) ?_ ?_
 ·refine Qe J J b (fun b=>?_) (fun b=>?_)
  ·refine qd J<|qd J<|qd J<|qd J<|O _ J<|q9 ?_;cases b;exact ⟨_,_,_,_,_,J⟩
  refine O _ J<|O _ J<|q8 b fun n o b=>Qd (qaz c.Size 0 n o) J<|O _ J<|O _ J<|q9 ?_;cases b;exact ⟨_,_,_,_,_,J⟩
 rintro _ ⟨d,f,g,h,j,rfl⟩;refine q9 ?_;refine qo J a (fun _ a=>?_) (fun _ a=>?_)
 ·refine qc<|qa J<|qq ?_;cases a;exact Q6 _ J
 refine ql<|qc<|qa J<|qq ?_;cases a;exact Q6 _ J
theorem qqd (f : Kb) (r : (qm × qm × qm × qm × qm × qm × qm × qm) × Int) (c : q3h f = some r) : Pure Tryz.prog tab 48 [.agg (J3 f)] (.tup [.agg [qb r.1.1.X,qb r.1.1.Y,qb r.1.1.Z,qb r.1.2.1.X,qb r.1.2.1.Y,qb r.1.2.1.Z,qb r.1.2.2.1.X,qb r.1.2.2.1.Y,qb r.1.2.2.1.Z,qb r.1.2.2.2.1.X,qb r.1.2.2.2.1.Y,qb r.1.2.2.2.1.Z,qb r.1.2.2.2.2.1.X,qb r.1.2.2.2.2.1.Y,qb r.1.2.2.2.2.1.Z,qb r.1.2.2.2.2.2.1.X,qb r.1.2.2.2.2.2.1.Y,qb r.1.2.2.2.2.2.1.Z,qb r.1.2.2.2.2.2.2.1.X,qb r.1.2.2.2.2.2.2.1.Y,qb r.1.2.2.2.2.2.2.1.Z,qb r.1.2.2.2.2.2.2.2.X,qb r.1.2.2.2.2.2.2.2.Y,qb r.1.2.2.2.2.2.2.2.Z],qb r.2]):=by
 unfold q3h at c;refine Qn Tryz.func48 J qg qg J<|qc<|Qq _ _ J<|Qs J J<|qa J<|q9<|qf<|qc<|O _ J<|q8 c fun o p c=>Qd (qim f o p) J<|qa J<|qu<|U J<|O _ J<|q9 ?_;refine qo J c (fun _ c=>?_) (fun _ c=>?_)
 ·refine qc<|O _ J<|U J<|Q7 1 _ J<|qa J<|qq ?_;cases c;exact Q6 _ J
 refine ql<|qc<|Qs J J<|q9<|qf<|qc<|U J<|q9<|q8 c fun k q c=>?_;refine Qt (fun h=>.inl h = k) (fun h=>⟨[(2,.ref 0 24 0 0),(5,.ref 1 24 0 0)],[(0,.dat 24 [[qb 0,qb 0,qb 0,qb 0,qb 0,qb 0,qb 0,qb 0,qb 0,qb 0,qb 0,qb 0,qb 0,qb 0,qb 0,qb 0,qb 0,qb 0,qb 0,qb 0,qb 0,qb 0,qb 0,qb 0]]),(1,.dat 24 [h.flatMap Y6])],2⟩) qe ?_ ?_
 ·refine Qo (Je f) (fun g=>⟨[(1,.ref 0 7 0 0),(2,.ref 1 24 0 0),(5,.ref 2 24 0 0),(14,q7 g.1)],[(0,.dat 7 [(J3 f)]),(1,.dat 24 [[qb 0,qb 0,qb 0,qb 0,qb 0,qb 0,qb 0,qb 0,qb 0,qb 0,qb 0,qb 0,qb 0,qb 0,qb 0,qb 0,qb 0,qb 0,qb 0,qb 0,qb 0,qb 0,qb 0,qb 0]]),(2,.dat 24 [g.2.flatMap Y6])],3⟩) _ k q (wkA [(0,0),(1,1),(2,2)] [] []) ?_;intro g w b;unfold Je at b;refine qc<|O _ J<|q9<|qf ?_;refine qo J b (fun _ b=>?_) (fun _ b=>?_)
  ·refine ql<|qf<|Q4<|qc<|U J<|qa J<|qu<|U J<|O _ J<|O _ J<|O _ J<|O _ J<|O _ J<|U J<|O _ J<|O _ J<|O _ J<|O _ J<|O _ J<|O _ J<|U J<|O _ J<|O _ J<|O _ J<|O _ J<|O _ J<|O _ J<|Qs J J<|Q7 3 _ J<|qu<|U J<|O _ J<|O _ J<|O _ J<|q8 b fun l s b=>Qd (qip f.Frame ({X:=w64 ((Int.tmod g.1 2) * f.Size.X),Y:=w64 ((Int.tmod (w64 (Int.tdiv g.1 2)) 2) * f.Size.Y),Z:=w64 ((w64 (Int.tdiv g.1 4)) * f.Size.Z)} : qm) l s) J<|q8 b fun x m b=>q2l m J J J J J<|qf6 (enc:=Y6) l m (fun _=>rfl) J J J J J J J J<|qu ?_;refine U J<|q8 b fun j n b=>q2l n J J J J J<|q85 (enc:=Y6) (.d (.agg [qb j.X,qb j.Y,qb j.Z])) n (fun _=>rfl) J J J J J J<|q8 b fun t u b=>Qd (qaz j (-1000000) t u) J<|O _ J<|q9 ?_;refine qo J b (fun _ b=>?_) (fun _ b=>?_)
   ·refine qc<|O _ J<|Q7 1 _ J<|qa J<|qq ?_;refine ⟨_,qr b,fun hm=>?_⟩;subst hm;cases c;exact Q6 _ J
   refine ql<|Qh<|Qm<|Q0<|O _ J<|U J<|qz<|⟨_,qr b,wkA [(0,0),(1,1),(2,2)] [] []⟩
  refine Qf ?_;refine ⟨_,qr b,fun hm=>?_⟩;subst hm;exact ⟨_,J,wkA [(0,1),(1,2)] [] []⟩
 intro h hb;subst hb;refine qc<|q8 c fun a v c=>qk9 (enc:=Y6) (.d (.agg [qb a.1.X,qb a.1.Y,qb a.1.Z,qb a.2.1.X,qb a.2.1.Y,qb a.2.1.Z,qb a.2.2.1.X,qb a.2.2.1.Y,qb a.2.2.1.Z,qb a.2.2.2.1.X,qb a.2.2.2.1.Y,qb a.2.2.2.1.Z,qb a.2.2.2.2.1.X,qb a.2.2.2.2.1.Y,qb a.2.2.2.2.1.Z,qb a.2.2.2.2.2.1.X,qb a.2.2.2.2.2.1.Y,qb a.2.2.2.2.2.1.Z,qb a.2.2.2.2.2.2.1.X,qb a.2.2.2.2.2.2.1.Y,qb a.2.2.2.2.2.2.1.Z,qb a.2.2.2.2.2.2.2.X,qb a.2.2.2.2.2.2.2.Y,qb a.2.2.2.2.2.2.2.Z])) (qnn v) J J J J J J<|Q7 0 _ J<|qa J<|qq ?_;cases c;exact Q6 _ J
theorem qik (l : Kb) (r : qw × Int) (b : Ug l = some r) : Pure Tryz.prog tab 22 [.agg (J3 l)] (.tup [.agg (Qw r.1),qb r.2]):=by
 unfold Ug at b;refine Qn Tryz.func22 J qg qg J<|qc<|Qq _ _ J<|Qs J J<|qa J<|qu<|O _ J<|q8 b fun a y b=>Qd (qqd l a y) J<|U J<|O _ J<|O _ J<|Qs J J<|Q7 2 _ J<|qa J<|q9<|qf<|qc<|U J<|O _ J<|q9 ?_;refine qo J b (fun _ b=>?_) (fun _ b=>?_)
 ·refine qc<|O _ J<|U J<|Q7 1 _ J<|qa J<|qq ?_;cases b;exact Q6 _ J
 refine ql<|qf<|qc<|O _ J<|O _ J<|O _ J<|O _ J<|q8 b fun z j b=>?_;refine Qg 6 (fun A st=>∃ m n o p q,st = A [(27,Q3 z),(26,q),(25,p),(24,o),(23,n),(22,m)]) ?_ ?_
 ·refine Qe J J j (fun j=>?_) (fun j=>?_)
  ·refine qd J<|qd J<|qd J<|qd J<|O _ J<|q9 ?_;cases j;exact ⟨_,_,_,_,_,J⟩
  refine O _ J<|O _ J<|O _ J<|O _ J<|O _ J<|q9 ?_;cases j;exact ⟨_,_,_,_,_,J⟩
 rintro _ ⟨m,n,o,p,q,rfl⟩;refine q8 b fun aa k b=>?_;refine Qg 6 (fun A st=>∃ s t u v w,st = A [(33,Q3 aa),(32,w),(31,v),(30,u),(29,t),(28,s)]) ?_ ?_
 ·refine Qe J J k (fun k=>?_) (fun k=>?_)
  ·refine qd J<|qd J<|qd J<|qd J<|O _ J<|q9 ?_;cases k;exact ⟨_,_,_,_,_,J⟩
  refine O _ J<|O _ J<|O _ J<|O _ J<|O _ J<|q9 ?_;cases k;exact ⟨_,_,_,_,_,J⟩
 rintro _ ⟨s,t,u,v,w,rfl⟩;refine q9 ?_;refine qo J b (fun _ b=>?_) (fun _ b=>?_)
 ·refine qc<|O _ J<|Q7 1 _ J<|qa J<|qq ?_;cases b;exact Q6 _ J
 refine ql<|qc<|O _ J<|O _ J<|O _ J<|O _ J<|O _ J<|Qs J J<|Q7 3 _ J<|q9<|qf<|qc<|O _ J<|U J<|q9<|q8 b fun x ab b=>?_;refine Qt (fun f=>f = x) (fun f=>⟨[(2,.ref 0 6 0 0),(6,.ref 1 6 0 0)],[(0,.dat 6 [[qb 0,qb 0,qb 0,qb 0,qb 0,qb 0]]),(1,.dat 6 [[qb f.1,qb f.2.1,qb f.2.2.1,qb f.2.2.2.1,qb f.2.2.2.2.1,qb f.2.2.2.2.2]])],2⟩) qe ?_ ?_
 ·refine Qo (q3g a) (fun c=>⟨[(2,.ref 0 6 0 0),(6,.ref 1 6 0 0),(40,.d (.agg [qb a.1.1.X,qb a.1.1.Y,qb a.1.1.Z,qb a.1.2.1.X,qb a.1.2.1.Y,qb a.1.2.1.Z,qb a.1.2.2.1.X,qb a.1.2.2.1.Y,qb a.1.2.2.1.Z,qb a.1.2.2.2.1.X,qb a.1.2.2.2.1.Y,qb a.1.2.2.2.1.Z,qb a.1.2.2.2.2.1.X,qb a.1.2.2.2.2.1.Y,qb a.1.2.2.2.2.1.Z,qb a.1.2.2.2.2.2.1.X,qb a.1.2.2.2.2.2.1.Y,qb a.1.2.2.2.2.2.1.Z,qb a.1.2.2.2.2.2.2.1.X,qb a.1.2.2.2.2.2.2.1.Y,qb a.1.2.2.2.2.2.2.1.Z,qb a.1.2.2.2.2.2.2.2.X,qb a.1.2.2.2.2.2.2.2.Y,qb a.1.2.2.2.2.2.2.2.Z])),(41,q7 c.1)],[(0,.dat 6 [[qb 0,qb 0,qb 0,qb 0,qb 0,qb 0]]),(1,.dat 6 [[qb c.2.1,qb c.2.2.1,qb c.2.2.2.1,qb c.2.2.2.2.1,qb c.2.2.2.2.2.1,qb c.2.2.2.2.2.2]])],2⟩) _ x ab (wkA [(0,1),(1,3)] [] []) ?_;intro c ad g;unfold q3g at g;refine qc<|O _ J<|q9<|qf ?_;refine qo J g (fun _ g=>?_) (fun _ g=>?_)
  ·refine ql<|qf<|Q4<|qc<|q8 g fun h ac g=>qk8 (enc:=Y6) [a.1.1,a.1.2.1,a.1.2.2.1,a.1.2.2.2.1,a.1.2.2.2.2.1,a.1.2.2.2.2.2.1,a.1.2.2.2.2.2.2.1,a.1.2.2.2.2.2.2.2] (.d (.agg (Y6 h))) ac (fun _=>rfl) J J J J J J<|Qs J J<|Q7 2 _ J<|qu<|O _ J<|O _ J<|O _ J<|O _ J<|O _ J<|q5e (r:=min c.2.1 h.X) J J (by simp only [q59];rfl)<|O _ J<|O _ J<|O _ J<|O _ J<|O _ J<|q5e (r:=min c.2.2.1 h.Y) J J (by simp only [q59];rfl)<|O _ J<|O _ J<|O _ J<|O _ J<|O _ J<|q5e (r:=min c.2.2.2.1 h.Z) J J (by simp only [q59];rfl)<|O _ J<|O _ J<|Q7 1 _ J<|q9<|Q0<|O _ J<|O _ J<|O _ J<|O _ J<|O _ J<|q3q (r:=max c.2.2.2.2.1 h.X) J J (by simp only [q3p];rfl)<|O _ J<|O _ J ?_;refine O _ J<|O _ J<|O _ J<|q3q (r:=max c.2.2.2.2.2.1 h.Y) J J (by simp only [q3p];rfl)<|O _ J<|O _ J<|O _ J<|O _ J<|O _ J<|q3q (r:=max c.2.2.2.2.2.2 h.Z) J J (by simp only [q3p];rfl)<|O _ J<|O _ J<|Q7 1 _ J<|qz<|Qm<|Q0<|O _ J<|U J<|qz<|⟨_,qr g,wkA [(0,0),(1,1)] [] []⟩
  refine Qf ?_;refine ⟨_,qr g,fun hm=>?_⟩;subst hm;exact ⟨_,J,wkA [(0,0),(1,1)] [] []⟩
 intro f hb;subst hb;refine qc<|O _ J<|Q7 0 _ J<|qa J<|qq ?_;cases b;exact Q6 _ J
end Go.Proofs.YtiejlbckgihckaaGreat
