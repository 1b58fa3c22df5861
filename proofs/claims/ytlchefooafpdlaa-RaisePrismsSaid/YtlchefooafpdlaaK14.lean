/- W_RaisePrismsb -/
import Derived.Test.YtlchefooafpdlaaK13
namespace Go.Proofs.Ytlchefooafpdlaa
open Go Go.Am Go.Sh
set_option maxHeartbeats 8000000
set_option maxRecDepth 100000
theorem q7w (p0 : List span_end) (p1 : Int) (p2 : Int) (p3 : span_end→span_end→Option Int) (p3F : FuncId) (p3C : List DV) (p3Ok : ∀ (x0 : span_end) (x1 : span_end) (r : Int),p3 x0 x1 = some r→Pure Try.prog tab p3F ([.agg [.int .i64 x0.at_,.int .i64 x0.list_,.int .i64 x0.by_],.agg [.int .i64 x1.at_,.int .i64 x1.list_,.int .i64 x1.by_]] ++ p3C) (.int .i64 r)) (r : Int × Int) (h0 : q3t p0 p1 p2 p3 = some r) : Pure Try.prog tab 123 [.sl 3 (p0.map qe),.int .i64 p1,.int .i64 p2,.fn p3F p3C] (.tup [.int .i64 r.1,.int .i64 r.2]):=by
 unfold q3t at h0
 refine qu Try.func123 rfl (by kernel_rfl) (by kernel_rfl) rfl<|q8<|q6<|qa rfl rfl<|qa rfl rfl<|q7<|q8<|q6<|q0 rfl rfl<|q0 rfl rfl<|q9 (.d (.int .i64 (w64 (p2 - p1)))) rfl rfl<|qa rfl rfl<|q7<|q8<|q6<|q3q rfl rfl<|q7<|q8<|q6<|q0 rfl rfl<|q0 rfl rfl<|q9 (.d (.int .i64 (w64 (Int.tdiv (w64 (p2 - p1)) 4)))) rfl rfl<|q9 (.d (.int .i64 (w64 ((w64 (Int.tdiv (w64 (p2 - p1)) 4)) * 1)))) rfl rfl<|q9 (.d (.int .i64 (w64 (p1 + (w64 ((w64 (Int.tdiv (w64 (p2 - p1)) 4)) * 1)))))) rfl rfl<|qa rfl rfl<|q7<|q8<|q6<|q0 rfl rfl<|q0 rfl rfl<|q9 (.d (.int .i64 (w64 (Int.tdiv (w64 (p2 - p1)) 4)))) rfl rfl<|q9 (.d (.int .i64 (w64 ((w64 (Int.tdiv (w64 (p2 - p1)) 4)) * 2)))) rfl rfl<|q9 (.d (.int .i64 (w64 (p1 + (w64 ((w64 (Int.tdiv (w64 (p2 - p1)) 4)) * 2)))))) rfl rfl<|qa rfl rfl<|q7<|q8<|q6<|q0 rfl rfl<|q0 rfl rfl<|q9 (.d (.int .i64 (w64 (Int.tdiv (w64 (p2 - p1)) 4)))) rfl rfl ?_
 refine q9 (.d (.int .i64 (w64 ((w64 (Int.tdiv (w64 (p2 - p1)) 4)) * 3)))) rfl rfl<|q9 (.d (.int .i64 (w64 (p1 + (w64 ((w64 (Int.tdiv (w64 (p2 - p1)) 4)) * 3)))))) rfl rfl<|qa rfl rfl<|q7<|q8<|q8<|q6<|q0 rfl rfl<|q9 (.d (.bool (decide ((w64 (p2 - p1)) ≥ 8)))) rfl rfl<|q7 ?_
 obtain ⟨m14,h13,h0⟩:=bindE h0
 refine q5c (fun b15=>b15 = m14) (fun (b15 : Int × Int)=>⟨[(11,.ref 0 1 0 0),(13,.d (.int .i64 b15.1))],[(0,.dat 1 [[.int .i64 b15.2]])],1⟩) (by simp) ?_ ?_
 ·refine qd rfl h13 (fun _ h13=>?_) (fun _ h13=>?_)
  ·refine q8<|q8<|q6<|q0 rfl rfl<|q9 (.d (.bool (decide ((w64 (p2 - p1)) ≥ 50)))) rfl rfl<|q7 ?_
   obtain ⟨m23,h22,h13⟩:=bindE h13
   refine q5c (fun b24=>b24 = m23) (fun (b24 : Int × Int × Int × Int)=>⟨[(0,.d (.sl 3 (p0.map qe))),(3,.d (.fn p3F p3C)),(11,.ref 0 1 0 0),(12,.d (.int .i64 b24.1)),(13,.d (.int .i64 b24.2.1)),(14,.d (.int .i64 b24.2.2.1))],[(0,.dat 1 [[.int .i64 b24.2.2.2]])],1⟩) (by simp) ?_ ?_
   ·refine qd rfl h22 (fun _ h22=>?_) (fun _ h22=>?_)
    ·refine q8<|q6<|q0 rfl rfl<|q0 rfl rfl<|q0 rfl rfl ?_
     obtain ⟨e25,h26,h22⟩:=bindE h22
     refine q12 [(0,0)] [(0,0)] [.d (.sl 3 (p0.map qe)),.d (.int .i64 (w64 (p1 + (w64 ((w64 (Int.tdiv (w64 (p2 - p1)) 4)) * 1))))),.ref 0 1 0 0,.d (.fn p3F p3C)] (.d (.int .i64 e25.1)) [(0,.dat 1 [[.int .i64 e25.2]])] [(0,.dat 1 [[.int .i64 e25.2]])] 1 (q42 p3 p3F p3C p3Ok p0 (w64 (p1 + (w64 ((w64 (Int.tdiv (w64 (p2 - p1)) 4)) * 1)))) 0 e25 h26) rfl rfl rfl (qx [(0,0)] [] [] rfl ⟨⟨_,rfl,.d (.refl _)⟩,⟨_,rfl,.d (.refl _)⟩,⟨_,rfl,.ref rfl (by decide) (ltd rfl)⟩,⟨_,rfl,.d (.refl _)⟩,trivial⟩ ⟨⟨ltd rfl,.inr ⟨by decide,_,rfl,.dat _ _⟩⟩,trivial⟩) (qx [(0,0)] [] [] rfl ⟨⟨_,rfl,.d (.refl _)⟩,trivial⟩ ⟨⟨ltd rfl,.inr ⟨by decide,_,rfl,.dat _ _⟩⟩,trivial⟩) rfl ⟨.inl rfl,trivial⟩<|qa rfl rfl<|q7<|q8<|q6<|q0 rfl rfl<|q0 rfl rfl<|q0 rfl rfl ?_
     obtain ⟨e27,h28,h22⟩:=bindE h22
     refine q12 [(0,0)] [(0,0)] [.d (.sl 3 (p0.map qe)),.d (.int .i64 (w64 (p1 + (w64 ((w64 (Int.tdiv (w64 (p2 - p1)) 4)) * 2))))),.ref 0 1 0 0,.d (.fn p3F p3C)] (.d (.int .i64 e27.1)) [(0,.dat 1 [[.int .i64 e27.2]])] [(0,.dat 1 [[.int .i64 e27.2]])] 1 (q42 p3 p3F p3C p3Ok p0 (w64 (p1 + (w64 ((w64 (Int.tdiv (w64 (p2 - p1)) 4)) * 2)))) e25.2 e27 h28) rfl rfl rfl (qx [(0,0)] [] [] rfl ⟨⟨_,rfl,.d (.refl _)⟩,⟨_,rfl,.d (.refl _)⟩,⟨_,rfl,.ref rfl (by decide) (ltd rfl)⟩,⟨_,rfl,.d (.refl _)⟩,trivial⟩ ⟨⟨ltd rfl,.inr ⟨by decide,_,rfl,.dat _ _⟩⟩,trivial⟩) (qx [(0,0)] [] [] rfl ⟨⟨_,rfl,.d (.refl _)⟩,trivial⟩ ⟨⟨ltd rfl,.inr ⟨by decide,_,rfl,.dat _ _⟩⟩,trivial⟩) rfl ⟨.inl rfl,trivial⟩<|qa rfl rfl<|q7<|q6<|q0 rfl rfl<|q0 rfl rfl<|q0 rfl rfl ?_
     obtain ⟨e29,h30,h22⟩:=bindE h22
     refine q12 [(0,0)] [(0,0)] [.d (.sl 3 (p0.map qe)),.d (.int .i64 (w64 (p1 + (w64 ((w64 (Int.tdiv (w64 (p2 - p1)) 4)) * 3))))),.ref 0 1 0 0,.d (.fn p3F p3C)] (.d (.int .i64 e29.1)) [(0,.dat 1 [[.int .i64 e29.2]])] [(0,.dat 1 [[.int .i64 e29.2]])] 1 (q42 p3 p3F p3C p3Ok p0 (w64 (p1 + (w64 ((w64 (Int.tdiv (w64 (p2 - p1)) 4)) * 3)))) e27.2 e29 h30) rfl rfl rfl (qx [(0,0)] [] [] rfl ⟨⟨_,rfl,.d (.refl _)⟩,⟨_,rfl,.d (.refl _)⟩,⟨_,rfl,.ref rfl (by decide) (ltd rfl)⟩,⟨_,rfl,.d (.refl _)⟩,trivial⟩ ⟨⟨ltd rfl,.inr ⟨by decide,_,rfl,.dat _ _⟩⟩,trivial⟩) (qx [(0,0)] [] [] rfl ⟨⟨_,rfl,.d (.refl _)⟩,trivial⟩ ⟨⟨ltd rfl,.inr ⟨by decide,_,rfl,.dat _ _⟩⟩,trivial⟩) rfl ⟨.inl rfl,trivial⟩<|qa rfl rfl<|q7<|qf ?_
     obtain rfl:=someE h22
     exact ⟨_,rfl,wkE [(0,0)] [] [] rfl ⟨⟨_,rfl,.d (.refl _)⟩,⟨_,rfl,.d (.refl _)⟩,⟨_,rfl,.ref rfl (by decide) (ltd rfl)⟩,⟨_,rfl,.d (.refl _)⟩,⟨_,rfl,.d (.refl _)⟩,⟨_,rfl,.d (.refl _)⟩,trivial⟩ ⟨⟨ltd rfl,.inr ⟨by decide,_,rfl,.dat _ _⟩⟩,trivial⟩⟩
    ·refine qg<|qf ?_
     obtain rfl:=someE h22
     exact ⟨_,rfl,wkE [(0,0)] [] [] rfl ⟨⟨_,rfl,.d (.refl _)⟩,⟨_,rfl,.d (.refl _)⟩,⟨_,rfl,.ref rfl (by decide) (ltd rfl)⟩,⟨_,rfl,.d (.refl _)⟩,⟨_,rfl,.d (.refl _)⟩,⟨_,rfl,.d (.refl _)⟩,trivial⟩ ⟨⟨ltd rfl,.inr ⟨by decide,_,rfl,.dat _ _⟩⟩,trivial⟩⟩
   ·intro b24 hb
    subst hb
    refine q6<|q0 rfl rfl<|q0 rfl rfl<|q0 rfl rfl<|q0 rfl rfl<|q0 rfl rfl ?_
    obtain ⟨e31,h32,h13⟩:=bindE h13
    refine q12 [(0,0)] [(0,0)] [.d (.sl 3 (p0.map qe)),.d (.int .i64 b24.1),.d (.int .i64 b24.2.1),.d (.int .i64 b24.2.2.1),.ref 0 1 0 0,.d (.fn p3F p3C)] (.d (.int .i64 e31.1)) [(0,.dat 1 [[.int .i64 e31.2]])] [(0,.dat 1 [[.int .i64 e31.2]])] 1 (q5v p3 p3F p3C p3Ok p0 b24.1 b24.2.1 b24.2.2.1 b24.2.2.2 e31 h32) rfl rfl rfl (qx [(0,0)] [] [] rfl ⟨⟨_,rfl,.d (.refl _)⟩,⟨_,rfl,.d (.refl _)⟩,⟨_,rfl,.d (.refl _)⟩,⟨_,rfl,.d (.refl _)⟩,⟨_,rfl,.ref rfl (by decide) (ltd rfl)⟩,⟨_,rfl,.d (.refl _)⟩,trivial⟩ ⟨⟨ltd rfl,.inr ⟨by decide,_,rfl,.dat _ _⟩⟩,trivial⟩) (qx [(0,0)] [] [] rfl ⟨⟨_,rfl,.d (.refl _)⟩,trivial⟩ ⟨⟨ltd rfl,.inr ⟨by decide,_,rfl,.dat _ _⟩⟩,trivial⟩) rfl ⟨.inl rfl,trivial⟩<|qa rfl rfl<|q7<|qf ?_
    obtain rfl:=someE h13
    exact ⟨_,rfl,wkE [(0,0)] [] [] rfl ⟨⟨_,rfl,.ref rfl (by decide) (ltd rfl)⟩,⟨_,rfl,.d (.refl _)⟩,trivial⟩ ⟨⟨ltd rfl,.inr ⟨by decide,_,rfl,.dat _ _⟩⟩,trivial⟩⟩
  ·refine qg<|qf ?_
   obtain rfl:=someE h13
   exact ⟨_,rfl,wkE [(0,0)] [] [] rfl ⟨⟨_,rfl,.ref rfl (by decide) (ltd rfl)⟩,⟨_,rfl,.d (.refl _)⟩,trivial⟩ ⟨⟨ltd rfl,.inr ⟨by decide,_,rfl,.dat _ _⟩⟩,trivial⟩⟩
 ·intro b15 hb
  subst hb
  refine q8<|q6<|q9 (.d (.int .i64 b15.2)) rfl rfl<|q7<|ql<|q8<|q6<|q9 (.d (.bool (b15.2 == 0))) rfl rfl<|qa rfl rfl<|q7 ?_
  refine qd rfl h0 (fun _ h0=>?_) (fun _ h0=>?_)
  ·refine q8<|q6<|q0 rfl rfl<|qa rfl rfl<|qa rfl rfl<|q7<|qm ?_
   obtain rfl:=someE h0
   exact finD (.inr rfl) (v:=.d (.tup [.int .i64 b15.1,.int .i64 1])) rfl rfl (.refl _)
  ·refine q8<|q6<|q9 (.d (.bool (b15.2 == 12))) rfl rfl<|qa rfl rfl<|q7 ?_
   refine qd rfl h0 (fun _ h0=>?_) (fun _ h0=>?_)
   ·refine q8<|q6<|q0 rfl rfl<|qa rfl rfl<|qa rfl rfl<|q7<|qm ?_
    obtain rfl:=someE h0
    exact finD (.inr rfl) (v:=.d (.tup [.int .i64 b15.1,.int .i64 2])) rfl rfl (.refl _)
   ·refine q8<|q6<|q0 rfl rfl<|qa rfl rfl<|qa rfl rfl<|q7<|qm ?_
    obtain rfl:=someE h0
    exact finD (.inr rfl) (v:=.d (.tup [.int .i64 b15.1,.int .i64 0])) rfl rfl (.refl _)
theorem q74 (q1 : span_end→span_end→Option Int) (q1F : FuncId) (q1C : List DV) (_q1Ok : ∀ (x0 : span_end) (x1 : span_end) (r : Int),q1 x0 x1 = some r→Pure Try.prog tab q1F ([.agg [.int .i64 x0.at_,.int .i64 x0.list_,.int .i64 x0.by_],.agg [.int .i64 x1.at_,.int .i64 x1.list_,.int .i64 x1.by_]] ++ q1C) (.int .i64 r)) (p0 : List span_end) (p1 : Int) (p2 : Int) (r : List span_end) (h0 : q35 q1 p0 p1 p2 = some r) : EvCall Try.prog tab 124 [.hs 0 3 0 p0.length,.d (.int .i64 p1),.d (.int .i64 p2),.d (.fn q1F q1C)] [(0,.dat 3 (p0.map qe))] 1 (.d (.tup [])) [(0,.dat 3 (r.map qe))] 1:=by
 unfold q35 at h0
 refine q18 Try.func124 rfl (by kernel_rfl) (by kernel_rfl) rfl<|q8<|q6<|q0 rfl rfl<|qa rfl rfl<|q7<|q8<|q6<|q0 rfl rfl<|q9 (.d (.int .i64 (w64 (p2 - 1)))) rfl rfl<|qa rfl rfl<|q7 ?_
 obtain ⟨m120,h121,h0⟩:=bindE h0
 refine ql<|qo (q2f) (fun (a119 : Int × Int × List span_end)=>⟨[(0,.hs 0 3 0 a119.2.2.length),(8,.d (.int .i64 a119.1)),(9,.d (.int .i64 a119.2.1))],[(0,.dat 3 (a119.2.2.map qe))],1⟩) (p1,w64 (p2 - 1),p0) m120 h121 (wkE [] [] [] rfl ⟨⟨_,rfl,.hs rfl (by decide) (ltd rfl)⟩,⟨_,rfl,.d (.refl _)⟩,⟨_,rfl,.d (.refl _)⟩,trivial⟩ ⟨⟨ltd rfl,.inr ⟨by decide,_,rfl,.dat _ _⟩⟩,trivial⟩) ?_
 intro a119 y117 h118
 unfold q2f at h118
 refine q8<|q8<|q6<|q0 rfl rfl<|q0 rfl rfl<|q9 (.d (.bool (decide (a119.1 < a119.2.1)))) rfl rfl<|q7 ?_
 refine qd rfl h118 (fun _ h118=>?_) (fun _ h118=>?_)
 ·refine qg<|ql<|q8<|qk [(some [0],[0]),(some [],[]),(some [0],[0]),(some [],[]),(some [0],[]),(some [],[]),(some [],[]),(some [],[]),(some [0],[]),(some [],[]),(some [],[]),(some [],[]),(some [],[]),(some [],[]),(some [],[]),(some [],[])] (by kernel_rfl)<|q0 rfl rfl<|q0 rfl rfl<|q0 rfl rfl<|q0 rfl rfl<|q0 rfl rfl<|q0 rfl rfl ?_
  obtain ⟨v123,h124,h118⟩:=bindE h118
  refine qj h124 rfl rfl rfl rfl rfl rfl rfl<|qr (.d (.agg [.int .i64 v123.at_,.int .i64 v123.list_,.int .i64 v123.by_])) h124 rfl rfl rfl rfl rfl rfl<|q0 rfl rfl<|q0 rfl rfl ?_
  obtain ⟨v125,h126,h118⟩:=bindE h118
  refine qj h126 rfl rfl rfl rfl rfl rfl rfl<|qr (.d (.agg [.int .i64 v125.at_,.int .i64 v125.list_,.int .i64 v125.by_])) h126 rfl rfl rfl rfl rfl rfl ?_
  obtain ⟨v127,h128,h118⟩:=bindE h118
  refine qj h128 rfl rfl rfl rfl rfl rfl rfl<|q19 (ds:=[.int .i64 v123.at_,.int .i64 v123.list_,.int .i64 v123.by_]) v123 h128 rfl rfl rfl rfl rfl rfl rfl rfl (leb rfl) rfl ?_
  obtain ⟨v129,h130,h118⟩:=bindE h118
  refine qj h130 (by simp) rfl rfl rfl rfl rfl rfl<|q19 (ds:=[.int .i64 v125.at_,.int .i64 v125.list_,.int .i64 v125.by_]) v125 h130 rfl rfl rfl rfl rfl rfl rfl rfl (leb rfl) rfl<|q7<|q8<|q6<|q0 rfl rfl<|q9 (.d (.int .i64 (w64 (a119.1 + 1)))) rfl rfl<|qa rfl rfl<|q7<|q6<|q0 rfl rfl<|q9 (.d (.int .i64 (w64 (a119.2.1 - 1)))) rfl rfl<|qa rfl rfl<|q7<|qf<|qv<|qf ?_
  exact ⟨_,(Option.some.inj h118).symm,wkE [] [] [] rfl ⟨⟨_,rfl,q16 (by simp) rfl (by decide) (ltd rfl)⟩,⟨_,rfl,.d (.refl _)⟩,⟨_,rfl,.d (.refl _)⟩,trivial⟩ ⟨⟨ltd rfl,.inr ⟨by decide,_,rfl,.dat _ _⟩⟩,trivial⟩⟩
 ·refine qp ?_
  refine ⟨_,(Option.some.inj h118).symm,fun hm=>?_⟩
  subst hm
  obtain rfl:=someE h0
  exact ⟨.inl rfl,_,rfl,wkE [] [] [] rfl ⟨⟨_,rfl,.d (.refl _)⟩,trivial⟩ ⟨⟨ltd rfl,.inr ⟨by decide,_,rfl,.dat _ _⟩⟩,trivial⟩⟩
theorem q69 (q1 : span_end→span_end→Option Int) (q1F : FuncId) (q1C : List DV) (q1Ok : ∀ (x0 : span_end) (x1 : span_end) (r : Int),q1 x0 x1 = some r→Pure Try.prog tab q1F ([.agg [.int .i64 x0.at_,.int .i64 x0.list_,.int .i64 x0.by_],.agg [.int .i64 x1.at_,.int .i64 x1.list_,.int .i64 x1.by_]] ++ q1C) (.int .i64 r)) (p0 : List span_end) (p1 : Int) (p2 : Int) (r : Bool × List span_end) (h0 : q1g q1 p0 p1 p2 = some r) : EvCall Try.prog tab 125 [.hs 0 3 0 p0.length,.d (.int .i64 p1),.d (.int .i64 p2),.d (.fn q1F q1C)] [(0,.dat 3 (p0.map qe))] 1 (.d (.bool r.1)) [(0,.dat 3 (r.2.map qe))] 1:=by
 unfold q1g at h0
 refine q18 Try.func125 rfl (by kernel_rfl) (by kernel_rfl) rfl<|q8<|q6<|qa rfl rfl<|q7<|q8<|q6<|q0 rfl rfl<|q9 (.d (.int .i64 (w64 (p1 + 1)))) rfl rfl<|qa rfl rfl<|q7<|q8<|q8<|q6<|qa rfl rfl<|q7 ?_
 obtain ⟨m439,h440,h0⟩:=bindE h0
 refine qn (fun b441=>.inl b441 = m439) (fun (b441 : List span_end)=>⟨[],[(0,.dat 3 (b441.map qe))],1⟩) (by simp) ?_ ?_
 ·refine qo (q1a p2 q1 p1) (fun (a438 : Int × Int × List span_end)=>⟨[(0,.hs 0 3 0 a438.2.2.length),(1,.d (.int .i64 p1)),(2,.d (.int .i64 p2)),(3,.d (.fn q1F q1C)),(9,.d (.int .i64 a438.1)),(10,.d (.int .i64 a438.2.1))],[(0,.dat 3 (a438.2.2.map qe))],1⟩) (w64 (p1 + 1),0,p0) m439 h440 (wkE [] [] [] rfl ⟨⟨_,rfl,.hs rfl (by decide) (ltd rfl)⟩,⟨_,rfl,.d (.refl _)⟩,⟨_,rfl,.d (.refl _)⟩,⟨_,rfl,.d (.refl _)⟩,⟨_,rfl,.d (.refl _)⟩,⟨_,rfl,.d (.refl _)⟩,trivial⟩ ⟨⟨ltd rfl,.inr ⟨by decide,_,rfl,.dat _ _⟩⟩,trivial⟩) ?_
  intro a438 y436 h437
  unfold q1a at h437
  refine q8<|q8<|q6<|q0 rfl rfl<|q9 (.d (.bool (decide (a438.2.1 < 5)))) rfl rfl<|q7 ?_
  refine qd rfl h437 (fun _ h437=>?_) (fun _ h437=>?_)
  ·refine qg<|q8 ?_
   obtain ⟨m621,h620,h437⟩:=bindE h437
   refine qn (fun b622=>.inl b622 = m621) (fun (b622 : Int × List span_end)=>⟨[(0,.hs 0 3 0 b622.2.length),(1,.d (.int .i64 p1)),(2,.d (.int .i64 p2)),(3,.d (.fn q1F q1C)),(9,.d (.int .i64 b622.1)),(10,.d (.int .i64 a438.2.1))],[(0,.dat 3 (b622.2.map qe))],1⟩) (by simp) ?_ ?_
   ·refine q8 ?_
    obtain ⟨m682,h683,h620⟩:=bindE h620
    refine qn (fun b684=>b684 = m682) (fun (b684 : Int)=>⟨[(0,.hs 0 3 0 a438.2.2.length),(1,.d (.int .i64 p1)),(2,.d (.int .i64 p2)),(3,.d (.fn q1F q1C)),(9,.d (.int .i64 b684)),(10,.d (.int .i64 a438.2.1))],[(0,.dat 3 (a438.2.2.map qe))],1⟩) (by simp) ?_ ?_
    ·refine qo (q1r p2 a438 q1) (fun (a681 : Int)=>⟨[(0,.hs 0 3 0 a438.2.2.length),(1,.d (.int .i64 p1)),(2,.d (.int .i64 p2)),(3,.d (.fn q1F q1C)),(9,.d (.int .i64 a681)),(10,.d (.int .i64 a438.2.1))],[(0,.dat 3 (a438.2.2.map qe))],1⟩) a438.1 m682 h683 (wkE [] [] [] rfl ⟨⟨_,rfl,.hs rfl (by decide) (ltd rfl)⟩,⟨_,rfl,.d (.refl _)⟩,⟨_,rfl,.d (.refl _)⟩,⟨_,rfl,.d (.refl _)⟩,⟨_,rfl,.d (.refl _)⟩,⟨_,rfl,.d (.refl _)⟩,trivial⟩ ⟨⟨ltd rfl,.inr ⟨by decide,_,rfl,.dat _ _⟩⟩,trivial⟩) ?_
     intro a681 y679 h680
     unfold q1r at h680
     refine q8<|q8<|qk [(some [],[]),(some [],[]),(some [],[]),(some [],[]),(some [0],[]),(some [],[]),(some [],[]),(some [],[]),(some [],[]),(some [0],[]),(some [],[]),(some [],[]),(some [],[]),(some [],[]),(some [],[]),(some [],[]),(some [],[]),(some [],[])] (by kernel_rfl)<|q0 rfl rfl<|q0 rfl rfl<|q9 (.d (.bool (decide (a681 < p2)))) rfl rfl ?_
     obtain ⟨c691,h692,h680⟩:=bindE h680
     refine qt 15 (fun A st=>∃ (j693 j694 j695 j696 j697 j698 j699 j700 j701 j702 j703 j704 j705 j706 : V),st = A [(36,.d (.bool c691)),(35,j706),(34,j705),(33,j704),(32,j703),(31,j702),(30,j701),(29,j700),(28,j699),(27,j698),(26,j697),(25,j696),(24,j695),(23,j694),(22,j693)]) ?_ ?_
     ·refine qz rfl rfl h692 (fun h692=>?_) (fun h692=>?_)
      ·refine q0 rfl rfl<|q0 rfl rfl<|q0 rfl rfl ?_
       obtain ⟨v707,h708,h692⟩:=bindE h692
       refine qj h708 rfl rfl rfl rfl rfl rfl rfl<|qr (.d (.agg [.int .i64 v707.at_,.int .i64 v707.list_,.int .i64 v707.by_])) h708 rfl rfl rfl rfl rfl rfl<|q0 rfl rfl<|q0 rfl rfl<|q9 (.d (.int .i64 (w64 (a681 - 1)))) rfl rfl ?_
       obtain ⟨v709,h710,h692⟩:=bindE h692
       refine qj h710 rfl rfl rfl rfl rfl rfl rfl<|qr (.d (.agg [.int .i64 v709.at_,.int .i64 v709.list_,.int .i64 v709.by_])) h710 rfl rfl rfl rfl rfl rfl ?_
       obtain ⟨r711,h712,h692⟩:=bindE h692
       refine q6i [.d (.agg [.int .i64 v707.at_,.int .i64 v707.list_,.int .i64 v707.by_]),.d (.agg [.int .i64 v709.at_,.int .i64 v709.list_,.int .i64 v709.by_])] (q1Ok v707 v709 r711 h712) rfl rfl rfl (.inl rfl)<|q9 (.d (.bool (decide (r711 < 0)))) rfl rfl<|q9 (.d (.bool (!(decide (r711 < 0))))) rfl rfl<|q9 (.d (.bool (!(decide (r711 < 0))))) rfl rfl<|q7 ?_
       obtain rfl:=someE h692
       exact ⟨_,_,_,_,_,_,_,_,_,_,_,_,_,_,rfl⟩
      ·refine qc rfl<|qc rfl<|qc rfl<|qc rfl<|qc rfl<|qc rfl<|qc rfl<|qc rfl<|qc rfl<|qc rfl<|qc rfl<|qc rfl<|qc rfl<|q9 (.d (.bool false)) rfl rfl<|q7 ?_
       obtain rfl:=someE h692
       exact ⟨_,_,_,_,_,_,_,_,_,_,_,_,_,_,rfl⟩
     ·rintro _ ⟨j693,j694,j695,j696,j697,j698,j699,j700,j701,j702,j703,j704,j705,j706,rfl⟩
      refine q7 ?_
      refine qd rfl h680 (fun _ h680=>?_) (fun _ h680=>?_)
      ·refine qg<|ql<|q6<|q0 rfl rfl<|q9 (.d (.int .i64 (w64 (a681 + 1)))) rfl rfl<|qa rfl rfl<|q7<|qf<|qv<|qf ?_
       exact ⟨_,(Option.some.inj h680).symm,wkE [] [] [] rfl ⟨⟨_,rfl,.hs rfl (by decide) (ltd rfl)⟩,⟨_,rfl,.d (.refl _)⟩,⟨_,rfl,.d (.refl _)⟩,⟨_,rfl,.d (.refl _)⟩,⟨_,rfl,.d (.refl _)⟩,⟨_,rfl,.d (.refl _)⟩,trivial⟩ ⟨⟨ltd rfl,.inr ⟨by decide,_,rfl,.dat _ _⟩⟩,trivial⟩⟩
      ·refine qp ?_
       refine ⟨_,(Option.some.inj h680).symm,fun hm=>?_⟩
       subst hm
       exact ⟨_,rfl,wkE [] [] [] rfl ⟨⟨_,rfl,.hs rfl (by decide) (ltd rfl)⟩,⟨_,rfl,.d (.refl _)⟩,⟨_,rfl,.d (.refl _)⟩,⟨_,rfl,.d (.refl _)⟩,⟨_,rfl,.d (.refl _)⟩,⟨_,rfl,.d (.refl _)⟩,trivial⟩ ⟨⟨ltd rfl,.inr ⟨by decide,_,rfl,.dat _ _⟩⟩,trivial⟩⟩
    ·intro b684 hb
     subst hb
     refine q8<|q8<|q6<|q0 rfl rfl<|q0 rfl rfl<|q9 (.d (.bool (b684 == p2))) rfl rfl<|q7 ?_
     refine qd rfl h620 (fun _ h620=>?_) (fun _ h620=>?_)
     ·refine q8<|q6<|qa rfl rfl<|q7<|qm ?_
      obtain rfl:=someE h620
      refine ⟨_,(Option.some.inj h437).symm,fun hm=>?_⟩
      subst hm
      obtain rfl:=someE h0
      exact ⟨.inr rfl,_,rfl,wkE [] [] [] rfl ⟨⟨_,rfl,.d (.refl _)⟩,trivial⟩ ⟨⟨ltd rfl,.inr ⟨by decide,_,rfl,.dat _ _⟩⟩,trivial⟩⟩
     ·refine qg<|q8<|q8<|q6<|q0 rfl rfl<|q0 rfl rfl<|q9 (.d (.int .i64 (w64 (p2 - p1)))) rfl rfl<|q9 (.d (.bool (decide ((w64 (p2 - p1)) < 50)))) rfl rfl<|q7 ?_
      refine qd rfl h620 (fun _ h620=>?_) (fun _ h620=>?_)
      ·refine q8<|q6<|qa rfl rfl<|q7<|qm ?_
       obtain rfl:=someE h620
       refine ⟨_,(Option.some.inj h437).symm,fun hm=>?_⟩
       subst hm
       obtain rfl:=someE h0
       exact ⟨.inr rfl,_,rfl,wkE [] [] [] rfl ⟨⟨_,rfl,.d (.refl _)⟩,trivial⟩ ⟨⟨ltd rfl,.inr ⟨by decide,_,rfl,.dat _ _⟩⟩,trivial⟩⟩
      ·refine qg<|q8<|qk [(some [0],[0]),(some [],[]),(some [0],[0]),(some [],[]),(some [0],[]),(some [],[]),(some [],[]),(some [],[]),(some [0],[]),(some [],[]),(some [],[]),(some [],[]),(some [],[]),(some [],[]),(some [],[]),(some [],[]),(some [],[]),(some [],[])] (by kernel_rfl)<|q0 rfl rfl<|q0 rfl rfl<|q0 rfl rfl<|q0 rfl rfl<|q9 (.d (.int .i64 (w64 (b684 - 1)))) rfl rfl<|q0 rfl rfl<|q0 rfl rfl<|q9 (.d (.int .i64 (w64 (b684 - 1)))) rfl rfl ?_
       obtain ⟨v713,h714,h620⟩:=bindE h620
       refine qj h714 rfl rfl rfl rfl rfl rfl rfl<|qr (.d (.agg [.int .i64 v713.at_,.int .i64 v713.list_,.int .i64 v713.by_])) h714 rfl rfl rfl rfl rfl rfl<|q0 rfl rfl<|q0 rfl rfl ?_
       obtain ⟨v715,h716,h620⟩:=bindE h620
       refine qj h716 rfl rfl rfl rfl rfl rfl rfl<|qr (.d (.agg [.int .i64 v715.at_,.int .i64 v715.list_,.int .i64 v715.by_])) h716 rfl rfl rfl rfl rfl rfl ?_
       obtain ⟨v717,h718,h620⟩:=bindE h620
       refine qj h718 rfl rfl rfl rfl rfl rfl rfl<|q19 (ds:=[.int .i64 v713.at_,.int .i64 v713.list_,.int .i64 v713.by_]) v713 h718 rfl rfl rfl rfl rfl rfl rfl rfl (leb rfl) rfl ?_
       obtain ⟨v719,h720,h620⟩:=bindE h620
       refine qj h720 (by simp) rfl rfl rfl rfl rfl rfl<|q19 (ds:=[.int .i64 v715.at_,.int .i64 v715.list_,.int .i64 v715.by_]) v715 h720 rfl rfl rfl rfl rfl rfl rfl rfl (leb rfl) rfl<|q7<|q8<|q8<|q6<|q0 rfl rfl<|q0 rfl rfl<|q9 (.d (.int .i64 (w64 (b684 - p1)))) rfl rfl<|q9 (.d (.bool (decide ((w64 (b684 - p1)) ≥ 2)))) rfl rfl<|q7 ?_
       obtain ⟨m778,h777,h620⟩:=bindE h620
       refine q5c (fun b779=>b779 = m778) (fun (b779 : List span_end)=>⟨[(0,.hs 0 3 0 b779.length),(1,.d (.int .i64 p1)),(2,.d (.int .i64 p2)),(3,.d (.fn q1F q1C)),(9,.d (.int .i64 b684)),(10,.d (.int .i64 a438.2.1))],[(0,.dat 3 (b779.map qe))],1⟩) (by simp) ?_ ?_
       ·refine qd rfl h777 (fun _ h777=>?_) (fun _ h777=>?_)
        ·refine q8<|q6<|q0 rfl rfl<|q9 (.d (.int .i64 (w64 (b684 - 1)))) rfl rfl<|qa rfl rfl<|q7 ?_
         obtain ⟨m839,h840,h777⟩:=bindE h777
         refine ql<|qo (q1s q1) (fun (a838 : Int × List span_end)=>⟨[(0,.hs 0 3 0 a838.2.length),(1,.d (.int .i64 p1)),(2,.d (.int .i64 p2)),(3,.d (.fn q1F q1C)),(9,.d (.int .i64 b684)),(10,.d (.int .i64 a438.2.1)),(11,.d (.int .i64 a838.1))],[(0,.dat 3 (a838.2.map qe))],1⟩) (w64 (b684 - 1),(a438.2.2.set b684.toNat v713).set (w64 (b684 - 1)).toNat v715) m839 h840 (wkE [] [] [] rfl ⟨⟨_,rfl,q16 (by simp) rfl (by decide) (ltd rfl)⟩,⟨_,rfl,.d (.refl _)⟩,⟨_,rfl,.d (.refl _)⟩,⟨_,rfl,.d (.refl _)⟩,⟨_,rfl,.d (.refl _)⟩,⟨_,rfl,.d (.refl _)⟩,⟨_,rfl,.d (.refl _)⟩,trivial⟩ ⟨⟨ltd rfl,.inr ⟨by decide,_,rfl,.dat _ _⟩⟩,trivial⟩) ?_
         intro a838 y836 h837
         unfold q1s at h837
         refine q8<|q8<|q6<|q0 rfl rfl<|q9 (.d (.bool (decide (a838.1 ≥ 1)))) rfl rfl<|q7 ?_
         refine qd rfl h837 (fun _ h837=>?_) (fun _ h837=>?_)
         ·refine qg<|q8<|ql<|q8<|q8<|qk [(some [],[]),(some [],[]),(some [],[]),(some [0],[]),(some [],[]),(some [],[]),(some [],[]),(some [],[]),(some [0],[]),(some [],[]),(some [],[]),(some [],[]),(some [],[])] (by kernel_rfl)<|q0 rfl rfl<|q0 rfl rfl<|q0 rfl rfl ?_
          obtain ⟨v856,h857,h837⟩:=bindE h837
          refine qj h857 rfl rfl rfl rfl rfl rfl rfl<|qr (.d (.agg [.int .i64 v856.at_,.int .i64 v856.list_,.int .i64 v856.by_])) h857 rfl rfl rfl rfl rfl rfl<|q0 rfl rfl<|q0 rfl rfl<|q9 (.d (.int .i64 (w64 (a838.1 - 1)))) rfl rfl ?_
          obtain ⟨v858,h859,h837⟩:=bindE h837
          refine qj h859 rfl rfl rfl rfl rfl rfl rfl<|qr (.d (.agg [.int .i64 v858.at_,.int .i64 v858.list_,.int .i64 v858.by_])) h859 rfl rfl rfl rfl rfl rfl ?_
          obtain ⟨r860,h861,h837⟩:=bindE h837
          refine q6i [.d (.agg [.int .i64 v856.at_,.int .i64 v856.list_,.int .i64 v856.by_]),.d (.agg [.int .i64 v858.at_,.int .i64 v858.list_,.int .i64 v858.by_])] (q1Ok v856 v858 r860 h861) rfl rfl rfl (.inl rfl)<|q9 (.d (.bool (decide (r860 < 0)))) rfl rfl<|q9 (.d (.bool (!(decide (r860 < 0))))) rfl rfl<|q7 ?_
          refine qd rfl h837 (fun _ h837=>?_) (fun _ h837=>?_)
          ·refine qp ?_
           refine ⟨_,(Option.some.inj h837).symm,fun hm=>?_⟩
           subst hm
           obtain rfl:=someE h777
           exact ⟨_,rfl,wkE [] [] [] rfl ⟨⟨_,rfl,.hs rfl (by decide) (ltd rfl)⟩,⟨_,rfl,.d (.refl _)⟩,⟨_,rfl,.d (.refl _)⟩,⟨_,rfl,.d (.refl _)⟩,⟨_,rfl,.d (.refl _)⟩,⟨_,rfl,.d (.refl _)⟩,trivial⟩ ⟨⟨ltd rfl,.inr ⟨by decide,_,rfl,.dat _ _⟩⟩,trivial⟩⟩
          ·refine qg<|qk [(some [0],[0]),(some [],[]),(some [0],[0]),(some [],[]),(some [0],[]),(some [],[]),(some [],[]),(some [],[]),(some [0],[]),(some [],[]),(some [],[]),(some [],[]),(some [],[]),(some [],[]),(some [],[]),(some [],[]),(some [],[]),(some [],[])] (by kernel_rfl)<|q0 rfl rfl<|q0 rfl rfl<|q0 rfl rfl<|q0 rfl rfl<|q9 (.d (.int .i64 (w64 (a838.1 - 1)))) rfl rfl<|q0 rfl rfl<|q0 rfl rfl<|q9 (.d (.int .i64 (w64 (a838.1 - 1)))) rfl rfl ?_
           obtain ⟨v862,h863,h837⟩:=bindE h837
           refine qj h863 rfl rfl rfl rfl rfl rfl rfl<|qr (.d (.agg [.int .i64 v862.at_,.int .i64 v862.list_,.int .i64 v862.by_])) h863 rfl rfl rfl rfl rfl rfl<|q0 rfl rfl<|q0 rfl rfl ?_
           obtain ⟨v864,h865,h837⟩:=bindE h837
           refine qj h865 rfl rfl rfl rfl rfl rfl rfl<|qr (.d (.agg [.int .i64 v864.at_,.int .i64 v864.list_,.int .i64 v864.by_])) h865 rfl rfl rfl rfl rfl rfl ?_
           obtain ⟨v866,h867,h837⟩:=bindE h837
           refine qj h867 rfl rfl rfl rfl rfl rfl rfl<|q19 (ds:=[.int .i64 v862.at_,.int .i64 v862.list_,.int .i64 v862.by_]) v862 h867 rfl rfl rfl rfl rfl rfl rfl rfl (leb rfl) rfl ?_
           obtain ⟨v868,h869,h837⟩:=bindE h837
           refine qj h869 (by simp) rfl rfl rfl rfl rfl rfl<|q19 (ds:=[.int .i64 v864.at_,.int .i64 v864.list_,.int .i64 v864.by_]) v864 h869 rfl rfl rfl rfl rfl rfl rfl rfl (leb rfl) rfl<|q7<|qf<|qv<|q6<|q0 rfl rfl<|q9 (.d (.int .i64 (w64 (a838.1 - 1)))) rfl rfl<|qa rfl rfl<|q7<|qf ?_
           exact ⟨_,(Option.some.inj h837).symm,wkE [] [] [] rfl ⟨⟨_,rfl,q16 (by simp) rfl (by decide) (ltd rfl)⟩,⟨_,rfl,.d (.refl _)⟩,⟨_,rfl,.d (.refl _)⟩,⟨_,rfl,.d (.refl _)⟩,⟨_,rfl,.d (.refl _)⟩,⟨_,rfl,.d (.refl _)⟩,⟨_,rfl,.d (.refl _)⟩,trivial⟩ ⟨⟨ltd rfl,.inr ⟨by decide,_,rfl,.dat _ _⟩⟩,trivial⟩⟩
         ·refine qp ?_
          refine ⟨_,(Option.some.inj h837).symm,fun hm=>?_⟩
          subst hm
          obtain rfl:=someE h777
          exact ⟨_,rfl,wkE [] [] [] rfl ⟨⟨_,rfl,.hs rfl (by decide) (ltd rfl)⟩,⟨_,rfl,.d (.refl _)⟩,⟨_,rfl,.d (.refl _)⟩,⟨_,rfl,.d (.refl _)⟩,⟨_,rfl,.d (.refl _)⟩,⟨_,rfl,.d (.refl _)⟩,trivial⟩ ⟨⟨ltd rfl,.inr ⟨by decide,_,rfl,.dat _ _⟩⟩,trivial⟩⟩
        ·refine qg<|qf ?_
         obtain rfl:=someE h777
         exact ⟨_,rfl,wkE [] [] [] rfl ⟨⟨_,rfl,q16 (by simp) rfl (by decide) (ltd rfl)⟩,⟨_,rfl,.d (.refl _)⟩,⟨_,rfl,.d (.refl _)⟩,⟨_,rfl,.d (.refl _)⟩,⟨_,rfl,.d (.refl _)⟩,⟨_,rfl,.d (.refl _)⟩,trivial⟩ ⟨⟨ltd rfl,.inr ⟨by decide,_,rfl,.dat _ _⟩⟩,trivial⟩⟩
       ·intro b779 hb
        subst hb
        refine q8<|q6<|q0 rfl rfl<|q0 rfl rfl<|q9 (.d (.int .i64 (w64 (p2 - b684)))) rfl rfl<|q9 (.d (.bool (decide ((w64 (p2 - b684)) ≥ 2)))) rfl rfl<|q7 ?_
        refine qd rfl h620 (fun _ h620=>?_) (fun _ h620=>?_)
        ·refine q8<|q6<|q0 rfl rfl<|q9 (.d (.int .i64 (w64 (b684 + 1)))) rfl rfl<|qa rfl rfl<|q7 ?_
         obtain ⟨m929,h930,h620⟩:=bindE h620
         refine ql<|qo (q1t p2 q1 b684) (fun (a928 : Int × List span_end)=>⟨[(0,.hs 0 3 0 a928.2.length),(1,.d (.int .i64 p1)),(2,.d (.int .i64 p2)),(3,.d (.fn q1F q1C)),(9,.d (.int .i64 b684)),(10,.d (.int .i64 a438.2.1)),(12,.d (.int .i64 a928.1))],[(0,.dat 3 (a928.2.map qe))],1⟩) (w64 (b684 + 1),b779) m929 h930 (wkE [] [] [] rfl ⟨⟨_,rfl,.hs rfl (by decide) (ltd rfl)⟩,⟨_,rfl,.d (.refl _)⟩,⟨_,rfl,.d (.refl _)⟩,⟨_,rfl,.d (.refl _)⟩,⟨_,rfl,.d (.refl _)⟩,⟨_,rfl,.d (.refl _)⟩,⟨_,rfl,.d (.refl _)⟩,trivial⟩ ⟨⟨ltd rfl,.inr ⟨by decide,_,rfl,.dat _ _⟩⟩,trivial⟩) ?_
         intro a928 y926 h927
         unfold q1t at h927
         refine q8<|q8<|q6<|q0 rfl rfl<|q0 rfl rfl<|q9 (.d (.bool (decide (a928.1 < p2)))) rfl rfl<|q7 ?_
         refine qd rfl h927 (fun _ h927=>?_) (fun _ h927=>?_)
         ·refine qg<|q8<|ql<|q8<|q8<|qk [(some [],[]),(some [],[]),(some [],[]),(some [0],[]),(some [],[]),(some [],[]),(some [],[]),(some [],[]),(some [0],[]),(some [],[]),(some [],[]),(some [],[]),(some [],[])] (by kernel_rfl)<|q0 rfl rfl<|q0 rfl rfl<|q0 rfl rfl ?_
          obtain ⟨v946,h947,h927⟩:=bindE h927
          refine qj h947 rfl rfl rfl rfl rfl rfl rfl<|qr (.d (.agg [.int .i64 v946.at_,.int .i64 v946.list_,.int .i64 v946.by_])) h947 rfl rfl rfl rfl rfl rfl<|q0 rfl rfl<|q0 rfl rfl<|q9 (.d (.int .i64 (w64 (a928.1 - 1)))) rfl rfl ?_
          obtain ⟨v948,h949,h927⟩:=bindE h927
          refine qj h949 rfl rfl rfl rfl rfl rfl rfl<|qr (.d (.agg [.int .i64 v948.at_,.int .i64 v948.list_,.int .i64 v948.by_])) h949 rfl rfl rfl rfl rfl rfl ?_
          obtain ⟨r950,h951,h927⟩:=bindE h927
          refine q6i [.d (.agg [.int .i64 v946.at_,.int .i64 v946.list_,.int .i64 v946.by_]),.d (.agg [.int .i64 v948.at_,.int .i64 v948.list_,.int .i64 v948.by_])] (q1Ok v946 v948 r950 h951) rfl rfl rfl (.inl rfl)<|q9 (.d (.bool (decide (r950 < 0)))) rfl rfl<|q9 (.d (.bool (!(decide (r950 < 0))))) rfl rfl<|q7 ?_
          refine qd rfl h927 (fun _ h927=>?_) (fun _ h927=>?_)
          ·refine qp ?_
           refine ⟨_,(Option.some.inj h927).symm,fun hm=>?_⟩
           subst hm
           obtain rfl:=someE h620
           exact ⟨_,rfl,wkE [] [] [] rfl ⟨⟨_,rfl,.hs rfl (by decide) (ltd rfl)⟩,⟨_,rfl,.d (.refl _)⟩,⟨_,rfl,.d (.refl _)⟩,⟨_,rfl,.d (.refl _)⟩,⟨_,rfl,.d (.refl _)⟩,⟨_,rfl,.d (.refl _)⟩,trivial⟩ ⟨⟨ltd rfl,.inr ⟨by decide,_,rfl,.dat _ _⟩⟩,trivial⟩⟩
          ·refine qg<|qk [(some [0],[0]),(some [],[]),(some [0],[0]),(some [],[]),(some [0],[]),(some [],[]),(some [],[]),(some [],[]),(some [0],[]),(some [],[]),(some [],[]),(some [],[]),(some [],[]),(some [],[]),(some [],[]),(some [],[]),(some [],[]),(some [],[])] (by kernel_rfl)<|q0 rfl rfl<|q0 rfl rfl<|q0 rfl rfl<|q0 rfl rfl<|q9 (.d (.int .i64 (w64 (a928.1 - 1)))) rfl rfl<|q0 rfl rfl<|q0 rfl rfl<|q9 (.d (.int .i64 (w64 (a928.1 - 1)))) rfl rfl ?_
           obtain ⟨v952,h953,h927⟩:=bindE h927
           refine qj h953 rfl rfl rfl rfl rfl rfl rfl<|qr (.d (.agg [.int .i64 v952.at_,.int .i64 v952.list_,.int .i64 v952.by_])) h953 rfl rfl rfl rfl rfl rfl<|q0 rfl rfl<|q0 rfl rfl ?_
           obtain ⟨v954,h955,h927⟩:=bindE h927
           refine qj h955 rfl rfl rfl rfl rfl rfl rfl<|qr (.d (.agg [.int .i64 v954.at_,.int .i64 v954.list_,.int .i64 v954.by_])) h955 rfl rfl rfl rfl rfl rfl ?_
           obtain ⟨v956,h957,h927⟩:=bindE h927
           refine qj h957 rfl rfl rfl rfl rfl rfl rfl<|q19 (ds:=[.int .i64 v952.at_,.int .i64 v952.list_,.int .i64 v952.by_]) v952 h957 rfl rfl rfl rfl rfl rfl rfl rfl (leb rfl) rfl ?_
           obtain ⟨v958,h959,h927⟩:=bindE h927
           refine qj h959 (by simp) rfl rfl rfl rfl rfl rfl<|q19 (ds:=[.int .i64 v954.at_,.int .i64 v954.list_,.int .i64 v954.by_]) v954 h959 rfl rfl rfl rfl rfl rfl rfl rfl (leb rfl) rfl<|q7<|qf<|qv<|q6<|q0 rfl rfl<|q9 (.d (.int .i64 (w64 (a928.1 + 1)))) rfl rfl<|qa rfl rfl<|q7<|qf ?_
           exact ⟨_,(Option.some.inj h927).symm,wkE [] [] [] rfl ⟨⟨_,rfl,q16 (by simp) rfl (by decide) (ltd rfl)⟩,⟨_,rfl,.d (.refl _)⟩,⟨_,rfl,.d (.refl _)⟩,⟨_,rfl,.d (.refl _)⟩,⟨_,rfl,.d (.refl _)⟩,⟨_,rfl,.d (.refl _)⟩,⟨_,rfl,.d (.refl _)⟩,trivial⟩ ⟨⟨ltd rfl,.inr ⟨by decide,_,rfl,.dat _ _⟩⟩,trivial⟩⟩
         ·refine qp ?_
          refine ⟨_,(Option.some.inj h927).symm,fun hm=>?_⟩
          subst hm
          obtain rfl:=someE h620
          exact ⟨_,rfl,wkE [] [] [] rfl ⟨⟨_,rfl,.hs rfl (by decide) (ltd rfl)⟩,⟨_,rfl,.d (.refl _)⟩,⟨_,rfl,.d (.refl _)⟩,⟨_,rfl,.d (.refl _)⟩,⟨_,rfl,.d (.refl _)⟩,⟨_,rfl,.d (.refl _)⟩,trivial⟩ ⟨⟨ltd rfl,.inr ⟨by decide,_,rfl,.dat _ _⟩⟩,trivial⟩⟩
        ·refine qg<|qf ?_
         obtain rfl:=someE h620
         exact ⟨_,rfl,wkE [] [] [] rfl ⟨⟨_,rfl,.hs rfl (by decide) (ltd rfl)⟩,⟨_,rfl,.d (.refl _)⟩,⟨_,rfl,.d (.refl _)⟩,⟨_,rfl,.d (.refl _)⟩,⟨_,rfl,.d (.refl _)⟩,⟨_,rfl,.d (.refl _)⟩,trivial⟩ ⟨⟨ltd rfl,.inr ⟨by decide,_,rfl,.dat _ _⟩⟩,trivial⟩⟩
   ·intro b622 hb
    subst hb
    refine q6<|q0 rfl rfl<|q9 (.d (.int .i64 (w64 (a438.2.1 + 1)))) rfl rfl<|qa rfl rfl<|q7<|qf ?_
    exact ⟨_,(Option.some.inj h437).symm,wkE [] [] [] rfl ⟨⟨_,rfl,.hs rfl (by decide) (ltd rfl)⟩,⟨_,rfl,.d (.refl _)⟩,⟨_,rfl,.d (.refl _)⟩,⟨_,rfl,.d (.refl _)⟩,⟨_,rfl,.d (.refl _)⟩,⟨_,rfl,.d (.refl _)⟩,trivial⟩ ⟨⟨ltd rfl,.inr ⟨by decide,_,rfl,.dat _ _⟩⟩,trivial⟩⟩
  ·refine qp ?_
   refine ⟨_,(Option.some.inj h437).symm,fun hm=>?_⟩
   subst hm
   exact ⟨_,rfl,wkE [] [] [] rfl trivial ⟨⟨ltd rfl,.inr ⟨by decide,_,rfl,.dat _ _⟩⟩,trivial⟩⟩
 ·intro b441 hb
  subst hb
  refine q8<|q6<|qa rfl rfl<|q7<|qm ?_
  obtain rfl:=someE h0
  exact ⟨.inr rfl,_,rfl,wkE [] [] [] rfl ⟨⟨_,rfl,.d (.refl _)⟩,trivial⟩ ⟨⟨ltd rfl,.inr ⟨by decide,_,rfl,.dat _ _⟩⟩,trivial⟩⟩
theorem q6t (q1 : span_end→span_end→Option Int) (q1F : FuncId) (q1C : List DV) (q1Ok : ∀ (x0 : span_end) (x1 : span_end) (r : Int),q1 x0 x1 = some r→Pure Try.prog tab q1F ([.agg [.int .i64 x0.at_,.int .i64 x0.list_,.int .i64 x0.by_],.agg [.int .i64 x1.at_,.int .i64 x1.list_,.int .i64 x1.by_]] ++ q1C) (.int .i64 r)) (p0 : List span_end) (p1 : Int) (p2 : Int) (p3 : Int) (r : Int × List span_end) (h0 : q2m q1 p0 p1 p2 p3 = some r) : EvCall Try.prog tab 126 [.hs 0 3 0 p0.length,.d (.int .i64 p1),.d (.int .i64 p2),.d (.int .i64 p3),.d (.fn q1F q1C)] [(0,.dat 3 (p0.map qe))] 1 (.d (.int .i64 r.1)) [(0,.dat 3 (r.2.map qe))] 1:=by
 unfold q2m at h0
 refine q18 Try.func126 rfl (by kernel_rfl) (by kernel_rfl) rfl<|q8<|q6<|qa rfl rfl<|q7<|q8<|qk [(some [0],[0]),(some [],[]),(some [0],[0]),(some [],[]),(some [0],[]),(some [],[]),(some [],[]),(some [],[]),(some [0],[]),(some [],[]),(some [],[]),(some [],[]),(some [],[]),(some [],[]),(some [],[]),(some [],[])] (by kernel_rfl)<|q0 rfl rfl<|q0 rfl rfl<|q0 rfl rfl<|q0 rfl rfl<|q0 rfl rfl<|q0 rfl rfl ?_
 obtain ⟨v101,h102,h0⟩:=bindE h0
 refine qj h102 rfl rfl rfl rfl rfl rfl rfl<|qr (.d (.agg [.int .i64 v101.at_,.int .i64 v101.list_,.int .i64 v101.by_])) h102 rfl rfl rfl rfl rfl rfl<|q0 rfl rfl<|q0 rfl rfl ?_
 obtain ⟨v103,h104,h0⟩:=bindE h0
 refine qj h104 rfl rfl rfl rfl rfl rfl rfl<|qr (.d (.agg [.int .i64 v103.at_,.int .i64 v103.list_,.int .i64 v103.by_])) h104 rfl rfl rfl rfl rfl rfl ?_
 obtain ⟨v105,h106,h0⟩:=bindE h0
 refine qj h106 rfl rfl rfl rfl rfl rfl rfl<|q19 (ds:=[.int .i64 v101.at_,.int .i64 v101.list_,.int .i64 v101.by_]) v101 h106 rfl rfl rfl rfl rfl rfl rfl rfl (leb rfl) rfl ?_
 obtain ⟨v107,h108,h0⟩:=bindE h0
 refine qj h108 (by simp) rfl rfl rfl rfl rfl rfl<|q19 (ds:=[.int .i64 v103.at_,.int .i64 v103.list_,.int .i64 v103.by_]) v103 h108 rfl rfl rfl rfl rfl rfl rfl rfl (leb rfl) rfl<|q7<|q8<|q6<|q0 rfl rfl<|q9 (.d (.int .i64 (w64 (p1 + 1)))) rfl rfl<|q0 rfl rfl<|q9 (.d (.int .i64 (w64 (p2 - 1)))) rfl rfl<|qa rfl rfl<|qa rfl rfl<|q7<|q8 ?_
 obtain ⟨m319,h320,h0⟩:=bindE h0
 refine qn (fun b321=>b321 = m319) (fun (b321 : Int × List span_end)=>⟨[(11,.d (.int .i64 b321.1))],[(0,.dat 3 (b321.2.map qe))],1⟩) (by simp) ?_ ?_
 ·refine qo (q27 p1 q1) (fun (a318 : Int × Int × List span_end)=>⟨[(0,.hs 0 3 0 a318.2.2.length),(1,.d (.int .i64 p1)),(4,.d (.fn q1F q1C)),(11,.d (.int .i64 a318.1)),(12,.d (.int .i64 a318.2.1))],[(0,.dat 3 (a318.2.2.map qe))],1⟩) (w64 (p1 + 1),w64 (p2 - 1),(p0.set p1.toNat v101).set p3.toNat v103) m319 h320 (wkE [] [] [] rfl ⟨⟨_,rfl,q16 (by simp) rfl (by decide) (ltd rfl)⟩,⟨_,rfl,.d (.refl _)⟩,⟨_,rfl,.d (.refl _)⟩,⟨_,rfl,.d (.refl _)⟩,⟨_,rfl,.d (.refl _)⟩,trivial⟩ ⟨⟨ltd rfl,.inr ⟨by decide,_,rfl,.dat _ _⟩⟩,trivial⟩) ?_
  intro a318 y316 h317
  unfold q27 at h317
  refine ql<|q8 ?_
  obtain ⟨m379,h380,h317⟩:=bindE h317
  refine qn (fun b381=>b381 = m379) (fun (b381 : Int)=>⟨[(0,.hs 0 3 0 a318.2.2.length),(1,.d (.int .i64 p1)),(4,.d (.fn q1F q1C)),(11,.d (.int .i64 b381)),(12,.d (.int .i64 a318.2.1))],[(0,.dat 3 (a318.2.2.map qe))],1⟩) (by simp) ?_ ?_
  ·refine qo (q25 a318 p1 q1) (fun (a378 : Int)=>⟨[(0,.hs 0 3 0 a318.2.2.length),(1,.d (.int .i64 p1)),(4,.d (.fn q1F q1C)),(11,.d (.int .i64 a378)),(12,.d (.int .i64 a318.2.1))],[(0,.dat 3 (a318.2.2.map qe))],1⟩) a318.1 m379 h380 (wkE [] [] [] rfl ⟨⟨_,rfl,.hs rfl (by decide) (ltd rfl)⟩,⟨_,rfl,.d (.refl _)⟩,⟨_,rfl,.d (.refl _)⟩,⟨_,rfl,.d (.refl _)⟩,⟨_,rfl,.d (.refl _)⟩,trivial⟩ ⟨⟨ltd rfl,.inr ⟨by decide,_,rfl,.dat _ _⟩⟩,trivial⟩) ?_
   intro a378 y376 h377
   unfold q25 at h377
   refine q8<|q8<|qk [(some [],[]),(some [],[]),(some [],[]),(some [],[]),(some [0],[]),(some [],[]),(some [],[]),(some [],[]),(some [0],[]),(some [],[]),(some [],[]),(some [],[]),(some [],[]),(some [],[]),(some [],[]),(some [],[]),(some [],[])] (by kernel_rfl)<|q0 rfl rfl<|q0 rfl rfl<|q9 (.d (.bool (decide (a378≤a318.2.1)))) rfl rfl ?_
   obtain ⟨c388,h389,h377⟩:=bindE h377
   refine qt 14 (fun A st=>∃ (j390 j391 j392 j393 j394 j395 j396 j397 j398 j399 j400 j401 j402 : V),st = A [(47,.d (.bool c388)),(46,j402),(45,j401),(44,j400),(43,j399),(42,j398),(41,j397),(40,j396),(39,j395),(38,j394),(37,j393),(36,j392),(35,j391),(34,j390)]) ?_ ?_
   ·refine qz rfl rfl h389 (fun h389=>?_) (fun h389=>?_)
    ·refine q0 rfl rfl<|q0 rfl rfl<|q0 rfl rfl ?_
     obtain ⟨v403,h404,h389⟩:=bindE h389
     refine qj h404 rfl rfl rfl rfl rfl rfl rfl<|qr (.d (.agg [.int .i64 v403.at_,.int .i64 v403.list_,.int .i64 v403.by_])) h404 rfl rfl rfl rfl rfl rfl<|q0 rfl rfl<|q0 rfl rfl ?_
     obtain ⟨v405,h406,h389⟩:=bindE h389
     refine qj h406 rfl rfl rfl rfl rfl rfl rfl<|qr (.d (.agg [.int .i64 v405.at_,.int .i64 v405.list_,.int .i64 v405.by_])) h406 rfl rfl rfl rfl rfl rfl ?_
     obtain ⟨r407,h408,h389⟩:=bindE h389
     refine q6i [.d (.agg [.int .i64 v403.at_,.int .i64 v403.list_,.int .i64 v403.by_]),.d (.agg [.int .i64 v405.at_,.int .i64 v405.list_,.int .i64 v405.by_])] (q1Ok v403 v405 r407 h408) rfl rfl rfl (.inl rfl)<|q9 (.d (.bool (decide (r407 < 0)))) rfl rfl<|q9 (.d (.bool (!(decide (r407 < 0))))) rfl rfl<|q9 (.d (.bool (!(decide (r407 < 0))))) rfl rfl<|q7 ?_
     obtain rfl:=someE h389
     exact ⟨_,_,_,_,_,_,_,_,_,_,_,_,_,rfl⟩
    ·refine qc rfl<|qc rfl<|qc rfl<|qc rfl<|qc rfl<|qc rfl<|qc rfl<|qc rfl<|qc rfl<|qc rfl<|qc rfl<|qc rfl<|q9 (.d (.bool false)) rfl rfl<|q7 ?_
     obtain rfl:=someE h389
     exact ⟨_,_,_,_,_,_,_,_,_,_,_,_,_,rfl⟩
   ·rintro _ ⟨j390,j391,j392,j393,j394,j395,j396,j397,j398,j399,j400,j401,j402,rfl⟩
    refine q7 ?_
    refine qd rfl h377 (fun _ h377=>?_) (fun _ h377=>?_)
    ·refine qg<|ql<|q6<|q0 rfl rfl<|q9 (.d (.int .i64 (w64 (a378 + 1)))) rfl rfl<|qa rfl rfl<|q7<|qf<|qv<|qf ?_
     exact ⟨_,(Option.some.inj h377).symm,wkE [] [] [] rfl ⟨⟨_,rfl,.hs rfl (by decide) (ltd rfl)⟩,⟨_,rfl,.d (.refl _)⟩,⟨_,rfl,.d (.refl _)⟩,⟨_,rfl,.d (.refl _)⟩,⟨_,rfl,.d (.refl _)⟩,trivial⟩ ⟨⟨ltd rfl,.inr ⟨by decide,_,rfl,.dat _ _⟩⟩,trivial⟩⟩
    ·refine qp ?_
     refine ⟨_,(Option.some.inj h377).symm,fun hm=>?_⟩
     subst hm
     exact ⟨_,rfl,wkE [] [] [] rfl ⟨⟨_,rfl,.hs rfl (by decide) (ltd rfl)⟩,⟨_,rfl,.d (.refl _)⟩,⟨_,rfl,.d (.refl _)⟩,⟨_,rfl,.d (.refl _)⟩,⟨_,rfl,.d (.refl _)⟩,trivial⟩ ⟨⟨ltd rfl,.inr ⟨by decide,_,rfl,.dat _ _⟩⟩,trivial⟩⟩
  ·intro b381 hb
   subst hb
   refine q8 ?_
   obtain ⟨m464,h465,h317⟩:=bindE h317
   refine qn (fun b466=>b466 = m464) (fun (b466 : Int)=>⟨[(0,.hs 0 3 0 a318.2.2.length),(1,.d (.int .i64 p1)),(4,.d (.fn q1F q1C)),(11,.d (.int .i64 b381)),(12,.d (.int .i64 b466))],[(0,.dat 3 (a318.2.2.map qe))],1⟩) (by simp) ?_ ?_
   ·refine qo (q26 b381 a318 p1 q1) (fun (a463 : Int)=>⟨[(0,.hs 0 3 0 a318.2.2.length),(1,.d (.int .i64 p1)),(4,.d (.fn q1F q1C)),(11,.d (.int .i64 b381)),(12,.d (.int .i64 a463))],[(0,.dat 3 (a318.2.2.map qe))],1⟩) a318.2.1 m464 h465 (wkE [] [] [] rfl ⟨⟨_,rfl,.hs rfl (by decide) (ltd rfl)⟩,⟨_,rfl,.d (.refl _)⟩,⟨_,rfl,.d (.refl _)⟩,⟨_,rfl,.d (.refl _)⟩,⟨_,rfl,.d (.refl _)⟩,trivial⟩ ⟨⟨ltd rfl,.inr ⟨by decide,_,rfl,.dat _ _⟩⟩,trivial⟩) ?_
    intro a463 y461 h462
    unfold q26 at h462
    refine q8<|q8<|qk [(some [],[]),(some [],[]),(some [],[]),(some [0],[]),(some [],[]),(some [],[]),(some [],[]),(some [0],[]),(some [],[]),(some [],[]),(some [],[]),(some [],[]),(some [],[]),(some [],[]),(some [],[]),(some [],[])] (by kernel_rfl)<|q0 rfl rfl<|q0 rfl rfl<|q9 (.d (.bool (decide (b381≤a463)))) rfl rfl ?_
    obtain ⟨c473,h474,h462⟩:=bindE h462
    refine qt 13 (fun A st=>∃ (j475 j476 j477 j478 j479 j480 j481 j482 j483 j484 j485 j486 : V),st = A [(65,.d (.bool c473)),(64,j486),(63,j485),(62,j484),(61,j483),(60,j482),(59,j481),(58,j480),(57,j479),(56,j478),(55,j477),(54,j476),(53,j475)]) ?_ ?_
    ·refine qz rfl rfl h474 (fun h474=>?_) (fun h474=>?_)
     ·refine q0 rfl rfl<|q0 rfl rfl<|q0 rfl rfl ?_
      obtain ⟨v487,h488,h474⟩:=bindE h474
      refine qj h488 rfl rfl rfl rfl rfl rfl rfl<|qr (.d (.agg [.int .i64 v487.at_,.int .i64 v487.list_,.int .i64 v487.by_])) h488 rfl rfl rfl rfl rfl rfl<|q0 rfl rfl<|q0 rfl rfl ?_
      obtain ⟨v489,h490,h474⟩:=bindE h474
      refine qj h490 rfl rfl rfl rfl rfl rfl rfl<|qr (.d (.agg [.int .i64 v489.at_,.int .i64 v489.list_,.int .i64 v489.by_])) h490 rfl rfl rfl rfl rfl rfl ?_
      obtain ⟨r491,h492,h474⟩:=bindE h474
      refine q6i [.d (.agg [.int .i64 v487.at_,.int .i64 v487.list_,.int .i64 v487.by_]),.d (.agg [.int .i64 v489.at_,.int .i64 v489.list_,.int .i64 v489.by_])] (q1Ok v487 v489 r491 h492) rfl rfl rfl (.inl rfl)<|q9 (.d (.bool (decide (r491 < 0)))) rfl rfl<|q9 (.d (.bool (decide (r491 < 0)))) rfl rfl<|q7 ?_
      obtain rfl:=someE h474
      exact ⟨_,_,_,_,_,_,_,_,_,_,_,_,rfl⟩
     ·refine qc rfl<|qc rfl<|qc rfl<|qc rfl<|qc rfl<|qc rfl<|qc rfl<|qc rfl<|qc rfl<|qc rfl<|qc rfl<|q9 (.d (.bool false)) rfl rfl<|q7 ?_
      obtain rfl:=someE h474
      exact ⟨_,_,_,_,_,_,_,_,_,_,_,_,rfl⟩
    ·rintro _ ⟨j475,j476,j477,j478,j479,j480,j481,j482,j483,j484,j485,j486,rfl⟩
     refine q7 ?_
     refine qd rfl h462 (fun _ h462=>?_) (fun _ h462=>?_)
     ·refine qg<|ql<|q6<|q0 rfl rfl<|q9 (.d (.int .i64 (w64 (a463 - 1)))) rfl rfl<|qa rfl rfl<|q7<|qf<|qv<|qf ?_
      exact ⟨_,(Option.some.inj h462).symm,wkE [] [] [] rfl ⟨⟨_,rfl,.hs rfl (by decide) (ltd rfl)⟩,⟨_,rfl,.d (.refl _)⟩,⟨_,rfl,.d (.refl _)⟩,⟨_,rfl,.d (.refl _)⟩,⟨_,rfl,.d (.refl _)⟩,trivial⟩ ⟨⟨ltd rfl,.inr ⟨by decide,_,rfl,.dat _ _⟩⟩,trivial⟩⟩
     ·refine qp ?_
      refine ⟨_,(Option.some.inj h462).symm,fun hm=>?_⟩
      subst hm
      exact ⟨_,rfl,wkE [] [] [] rfl ⟨⟨_,rfl,.hs rfl (by decide) (ltd rfl)⟩,⟨_,rfl,.d (.refl _)⟩,⟨_,rfl,.d (.refl _)⟩,⟨_,rfl,.d (.refl _)⟩,⟨_,rfl,.d (.refl _)⟩,trivial⟩ ⟨⟨ltd rfl,.inr ⟨by decide,_,rfl,.dat _ _⟩⟩,trivial⟩⟩
   ·intro b466 hb
    subst hb
    refine q8<|q8<|q6<|q0 rfl rfl<|q0 rfl rfl<|q9 (.d (.bool (decide (b381 > b466)))) rfl rfl<|q7 ?_
    refine qd rfl h317 (fun _ h317=>?_) (fun _ h317=>?_)
    ·refine qp ?_
     refine ⟨_,(Option.some.inj h317).symm,fun hm=>?_⟩
     subst hm
     exact ⟨_,rfl,wkE [] [] [] rfl ⟨⟨_,rfl,.d (.refl _)⟩,trivial⟩ ⟨⟨ltd rfl,.inr ⟨by decide,_,rfl,.dat _ _⟩⟩,trivial⟩⟩
    ·refine qg<|q8<|qk [(some [0],[0]),(some [],[]),(some [0],[0]),(some [],[]),(some [0],[]),(some [],[]),(some [],[]),(some [],[]),(some [0],[]),(some [],[]),(some [],[]),(some [],[]),(some [],[]),(some [],[]),(some [],[]),(some [],[])] (by kernel_rfl)<|q0 rfl rfl<|q0 rfl rfl<|q0 rfl rfl<|q0 rfl rfl<|q0 rfl rfl<|q0 rfl rfl ?_
     obtain ⟨v493,h494,h317⟩:=bindE h317
     refine qj h494 rfl rfl rfl rfl rfl rfl rfl<|qr (.d (.agg [.int .i64 v493.at_,.int .i64 v493.list_,.int .i64 v493.by_])) h494 rfl rfl rfl rfl rfl rfl<|q0 rfl rfl<|q0 rfl rfl ?_
     obtain ⟨v495,h496,h317⟩:=bindE h317
     refine qj h496 rfl rfl rfl rfl rfl rfl rfl<|qr (.d (.agg [.int .i64 v495.at_,.int .i64 v495.list_,.int .i64 v495.by_])) h496 rfl rfl rfl rfl rfl rfl ?_
     obtain ⟨v497,h498,h317⟩:=bindE h317
     refine qj h498 rfl rfl rfl rfl rfl rfl rfl<|q19 (ds:=[.int .i64 v493.at_,.int .i64 v493.list_,.int .i64 v493.by_]) v493 h498 rfl rfl rfl rfl rfl rfl rfl rfl (leb rfl) rfl ?_
     obtain ⟨v499,h500,h317⟩:=bindE h317
     refine qj h500 (by simp) rfl rfl rfl rfl rfl rfl<|q19 (ds:=[.int .i64 v495.at_,.int .i64 v495.list_,.int .i64 v495.by_]) v495 h500 rfl rfl rfl rfl rfl rfl rfl rfl (leb rfl) rfl<|q7<|q8<|q6<|q0 rfl rfl<|q9 (.d (.int .i64 (w64 (b381 + 1)))) rfl rfl<|qa rfl rfl<|q7<|q6<|q0 rfl rfl<|q9 (.d (.int .i64 (w64 (b466 - 1)))) rfl rfl<|qa rfl rfl<|q7<|qf<|qv<|qf ?_
     exact ⟨_,(Option.some.inj h317).symm,wkE [] [] [] rfl ⟨⟨_,rfl,q16 (by simp) rfl (by decide) (ltd rfl)⟩,⟨_,rfl,.d (.refl _)⟩,⟨_,rfl,.d (.refl _)⟩,⟨_,rfl,.d (.refl _)⟩,⟨_,rfl,.d (.refl _)⟩,trivial⟩ ⟨⟨ltd rfl,.inr ⟨by decide,_,rfl,.dat _ _⟩⟩,trivial⟩⟩
 ·intro b321 hb
  subst hb
  refine q8<|q6<|q0 rfl rfl<|qa rfl rfl<|q7<|qm ?_
  obtain rfl:=someE h0
  exact ⟨.inr rfl,_,rfl,wkE [] [] [] rfl ⟨⟨_,rfl,.d (.refl _)⟩,trivial⟩ ⟨⟨ltd rfl,.inr ⟨by decide,_,rfl,.dat _ _⟩⟩,trivial⟩⟩
theorem q7l (q1 : span_end→span_end→Option Int) (q1F : FuncId) (q1C : List DV) (q1Ok : ∀ (x0 : span_end) (x1 : span_end) (r : Int),q1 x0 x1 = some r→Pure Try.prog tab q1F ([.agg [.int .i64 x0.at_,.int .i64 x0.list_,.int .i64 x0.by_],.agg [.int .i64 x1.at_,.int .i64 x1.list_,.int .i64 x1.by_]] ++ q1C) (.int .i64 r)) (p0 : List span_end) (p1 : Int) (p2 : Int) (p3 : Int) (r : Int × Bool × List span_end) (h0 : q3p q1 p0 p1 p2 p3 = some r) : EvCall Try.prog tab 127 [.hs 0 3 0 p0.length,.d (.int .i64 p1),.d (.int .i64 p2),.d (.int .i64 p3),.d (.fn q1F q1C)] [(0,.dat 3 (p0.map qe))] 1 (.d (.tup [.int .i64 r.1,.bool r.2.1])) [(0,.dat 3 (r.2.2.map qe))] 1:=by
 unfold q3p at h0
 refine q18 Try.func127 rfl (by kernel_rfl) (by kernel_rfl) rfl<|q8<|q6<|qa rfl rfl<|qa rfl rfl<|q7<|q8<|qk [(some [0],[0]),(some [],[]),(some [0],[0]),(some [],[]),(some [0],[]),(some [],[]),(some [],[]),(some [],[]),(some [0],[]),(some [],[]),(some [],[]),(some [],[]),(some [],[]),(some [],[]),(some [],[]),(some [],[])] (by kernel_rfl)<|q0 rfl rfl<|q0 rfl rfl<|q0 rfl rfl<|q0 rfl rfl<|q0 rfl rfl<|q0 rfl rfl ?_
 obtain ⟨v101,h102,h0⟩:=bindE h0
 refine qj h102 rfl rfl rfl rfl rfl rfl rfl<|qr (.d (.agg [.int .i64 v101.at_,.int .i64 v101.list_,.int .i64 v101.by_])) h102 rfl rfl rfl rfl rfl rfl<|q0 rfl rfl<|q0 rfl rfl ?_
 obtain ⟨v103,h104,h0⟩:=bindE h0
 refine qj h104 rfl rfl rfl rfl rfl rfl rfl<|qr (.d (.agg [.int .i64 v103.at_,.int .i64 v103.list_,.int .i64 v103.by_])) h104 rfl rfl rfl rfl rfl rfl ?_
 obtain ⟨v105,h106,h0⟩:=bindE h0
 refine qj h106 rfl rfl rfl rfl rfl rfl rfl<|q19 (ds:=[.int .i64 v101.at_,.int .i64 v101.list_,.int .i64 v101.by_]) v101 h106 rfl rfl rfl rfl rfl rfl rfl rfl (leb rfl) rfl ?_
 obtain ⟨v107,h108,h0⟩:=bindE h0
 refine qj h108 (by simp) rfl rfl rfl rfl rfl rfl<|q19 (ds:=[.int .i64 v103.at_,.int .i64 v103.list_,.int .i64 v103.by_]) v103 h108 rfl rfl rfl rfl rfl rfl rfl rfl (leb rfl) rfl<|q7<|q8<|q6<|q0 rfl rfl<|q9 (.d (.int .i64 (w64 (p1 + 1)))) rfl rfl<|q0 rfl rfl<|q9 (.d (.int .i64 (w64 (p2 - 1)))) rfl rfl<|qa rfl rfl<|qa rfl rfl<|q7<|q8 ?_
 obtain ⟨m164,h165,h0⟩:=bindE h0
 refine qn (fun b166=>b166 = m164) (fun (b166 : Int)=>⟨[(0,.hs 0 3 0 ((p0.set p1.toNat v101).set p3.toNat v103).length),(1,.d (.int .i64 p1)),(4,.d (.fn q1F q1C)),(12,.d (.int .i64 b166)),(13,.d (.int .i64 (w64 (p2 - 1))))],[(0,.dat 3 (((p0.set p1.toNat v101).set p3.toNat v103).map qe))],1⟩) (by simp) ?_ ?_
 ·refine qo (q36 p2 p0 p1 v101 p3 v103 q1) (fun (a163 : Int)=>⟨[(0,.hs 0 3 0 ((p0.set p1.toNat v101).set p3.toNat v103).length),(1,.d (.int .i64 p1)),(4,.d (.fn q1F q1C)),(12,.d (.int .i64 a163)),(13,.d (.int .i64 (w64 (p2 - 1))))],[(0,.dat 3 (((p0.set p1.toNat v101).set p3.toNat v103).map qe))],1⟩) (w64 (p1 + 1)) m164 h165 (wkE [] [] [] rfl ⟨⟨_,rfl,q16 (by simp) rfl (by decide) (ltd rfl)⟩,⟨_,rfl,.d (.refl _)⟩,⟨_,rfl,.d (.refl _)⟩,⟨_,rfl,.d (.refl _)⟩,⟨_,rfl,.d (.refl _)⟩,trivial⟩ ⟨⟨ltd rfl,.inr ⟨by decide,_,rfl,.dat _ _⟩⟩,trivial⟩) ?_
  intro a163 y161 h162
  unfold q36 at h162
  refine q8<|q8<|qk [(some [],[]),(some [],[]),(some [],[]),(some [0],[]),(some [],[]),(some [],[]),(some [],[]),(some [0],[]),(some [],[]),(some [],[]),(some [],[]),(some [],[]),(some [],[]),(some [],[]),(some [],[]),(some [],[])] (by kernel_rfl)<|q0 rfl rfl<|q0 rfl rfl<|q9 (.d (.bool (decide (a163≤(w64 (p2 - 1)))))) rfl rfl ?_
  obtain ⟨c173,h174,h162⟩:=bindE h162
  refine qt 13 (fun A st=>∃ (j175 j176 j177 j178 j179 j180 j181 j182 j183 j184 j185 j186 : V),st = A [(47,.d (.bool c173)),(46,j186),(45,j185),(44,j184),(43,j183),(42,j182),(41,j181),(40,j180),(39,j179),(38,j178),(37,j177),(36,j176),(35,j175)]) ?_ ?_
  ·refine qz rfl rfl h174 (fun h174=>?_) (fun h174=>?_)
   ·refine q0 rfl rfl<|q0 rfl rfl<|q0 rfl rfl ?_
    obtain ⟨v187,h188,h174⟩:=bindE h174
    refine qj h188 rfl rfl rfl rfl rfl rfl rfl<|qr (.d (.agg [.int .i64 v187.at_,.int .i64 v187.list_,.int .i64 v187.by_])) h188 rfl rfl rfl rfl rfl rfl<|q0 rfl rfl<|q0 rfl rfl ?_
    obtain ⟨v189,h190,h174⟩:=bindE h174
    refine qj h190 rfl rfl rfl rfl rfl rfl rfl<|qr (.d (.agg [.int .i64 v189.at_,.int .i64 v189.list_,.int .i64 v189.by_])) h190 rfl rfl rfl rfl rfl rfl ?_
    obtain ⟨r191,h192,h174⟩:=bindE h174
    refine q6i [.d (.agg [.int .i64 v187.at_,.int .i64 v187.list_,.int .i64 v187.by_]),.d (.agg [.int .i64 v189.at_,.int .i64 v189.list_,.int .i64 v189.by_])] (q1Ok v187 v189 r191 h192) rfl rfl rfl (.inl rfl)<|q9 (.d (.bool (decide (r191 < 0)))) rfl rfl<|q9 (.d (.bool (decide (r191 < 0)))) rfl rfl<|q7 ?_
    obtain rfl:=someE h174
    exact ⟨_,_,_,_,_,_,_,_,_,_,_,_,rfl⟩
   ·refine qc rfl<|qc rfl<|qc rfl<|qc rfl<|qc rfl<|qc rfl<|qc rfl<|qc rfl<|qc rfl<|qc rfl<|qc rfl<|q9 (.d (.bool false)) rfl rfl<|q7 ?_
    obtain rfl:=someE h174
    exact ⟨_,_,_,_,_,_,_,_,_,_,_,_,rfl⟩
  ·rintro _ ⟨j175,j176,j177,j178,j179,j180,j181,j182,j183,j184,j185,j186,rfl⟩
   refine q7 ?_
   refine qd rfl h162 (fun _ h162=>?_) (fun _ h162=>?_)
   ·refine qg<|ql<|q6<|q0 rfl rfl<|q9 (.d (.int .i64 (w64 (a163 + 1)))) rfl rfl<|qa rfl rfl<|q7<|qf<|qv<|qf ?_
    exact ⟨_,(Option.some.inj h162).symm,wkE [] [] [] rfl ⟨⟨_,rfl,.hs rfl (by decide) (ltd rfl)⟩,⟨_,rfl,.d (.refl _)⟩,⟨_,rfl,.d (.refl _)⟩,⟨_,rfl,.d (.refl _)⟩,⟨_,rfl,.d (.refl _)⟩,trivial⟩ ⟨⟨ltd rfl,.inr ⟨by decide,_,rfl,.dat _ _⟩⟩,trivial⟩⟩
   ·refine qp ?_
    refine ⟨_,(Option.some.inj h162).symm,fun hm=>?_⟩
    subst hm
    exact ⟨_,rfl,wkE [] [] [] rfl ⟨⟨_,rfl,.hs rfl (by decide) (ltd rfl)⟩,⟨_,rfl,.d (.refl _)⟩,⟨_,rfl,.d (.refl _)⟩,⟨_,rfl,.d (.refl _)⟩,⟨_,rfl,.d (.refl _)⟩,trivial⟩ ⟨⟨ltd rfl,.inr ⟨by decide,_,rfl,.dat _ _⟩⟩,trivial⟩⟩
 ·intro b166 hb
  subst hb
  refine q8 ?_
  obtain ⟨m250,h251,h0⟩:=bindE h0
  refine qn (fun b252=>b252 = m250) (fun (b252 : Int)=>⟨[(0,.hs 0 3 0 ((p0.set p1.toNat v101).set p3.toNat v103).length),(1,.d (.int .i64 p1)),(4,.d (.fn q1F q1C)),(12,.d (.int .i64 b166)),(13,.d (.int .i64 b252))],[(0,.dat 3 (((p0.set p1.toNat v101).set p3.toNat v103).map qe))],1⟩) (by simp) ?_ ?_
  ·refine qo (q37 b166 p0 p1 v101 p3 v103 q1) (fun (a249 : Int)=>⟨[(0,.hs 0 3 0 ((p0.set p1.toNat v101).set p3.toNat v103).length),(1,.d (.int .i64 p1)),(4,.d (.fn q1F q1C)),(12,.d (.int .i64 b166)),(13,.d (.int .i64 a249))],[(0,.dat 3 (((p0.set p1.toNat v101).set p3.toNat v103).map qe))],1⟩) (w64 (p2 - 1)) m250 h251 (wkE [] [] [] rfl ⟨⟨_,rfl,.hs rfl (by decide) (ltd rfl)⟩,⟨_,rfl,.d (.refl _)⟩,⟨_,rfl,.d (.refl _)⟩,⟨_,rfl,.d (.refl _)⟩,⟨_,rfl,.d (.refl _)⟩,trivial⟩ ⟨⟨ltd rfl,.inr ⟨by decide,_,rfl,.dat _ _⟩⟩,trivial⟩) ?_
   intro a249 y247 h248
   unfold q37 at h248
   refine q8<|q8<|qk [(some [],[]),(some [],[]),(some [],[]),(some [],[]),(some [0],[]),(some [],[]),(some [],[]),(some [],[]),(some [0],[]),(some [],[]),(some [],[]),(some [],[]),(some [],[]),(some [],[]),(some [],[]),(some [],[]),(some [],[])] (by kernel_rfl)<|q0 rfl rfl<|q0 rfl rfl<|q9 (.d (.bool (decide (b166≤a249)))) rfl rfl ?_
   obtain ⟨c259,h260,h248⟩:=bindE h248
   refine qt 14 (fun A st=>∃ (j261 j262 j263 j264 j265 j266 j267 j268 j269 j270 j271 j272 j273 : V),st = A [(66,.d (.bool c259)),(65,j273),(64,j272),(63,j271),(62,j270),(61,j269),(60,j268),(59,j267),(58,j266),(57,j265),(56,j264),(55,j263),(54,j262),(53,j261)]) ?_ ?_
   ·refine qz rfl rfl h260 (fun h260=>?_) (fun h260=>?_)
    ·refine q0 rfl rfl<|q0 rfl rfl<|q0 rfl rfl ?_
     obtain ⟨v274,h275,h260⟩:=bindE h260
     refine qj h275 rfl rfl rfl rfl rfl rfl rfl<|qr (.d (.agg [.int .i64 v274.at_,.int .i64 v274.list_,.int .i64 v274.by_])) h275 rfl rfl rfl rfl rfl rfl<|q0 rfl rfl<|q0 rfl rfl ?_
     obtain ⟨v276,h277,h260⟩:=bindE h260
     refine qj h277 rfl rfl rfl rfl rfl rfl rfl<|qr (.d (.agg [.int .i64 v276.at_,.int .i64 v276.list_,.int .i64 v276.by_])) h277 rfl rfl rfl rfl rfl rfl ?_
     obtain ⟨r278,h279,h260⟩:=bindE h260
     refine q6i [.d (.agg [.int .i64 v274.at_,.int .i64 v274.list_,.int .i64 v274.by_]),.d (.agg [.int .i64 v276.at_,.int .i64 v276.list_,.int .i64 v276.by_])] (q1Ok v274 v276 r278 h279) rfl rfl rfl (.inl rfl)<|q9 (.d (.bool (decide (r278 < 0)))) rfl rfl<|q9 (.d (.bool (!(decide (r278 < 0))))) rfl rfl<|q9 (.d (.bool (!(decide (r278 < 0))))) rfl rfl<|q7 ?_
     obtain rfl:=someE h260
     exact ⟨_,_,_,_,_,_,_,_,_,_,_,_,_,rfl⟩
    ·refine qc rfl<|qc rfl<|qc rfl<|qc rfl<|qc rfl<|qc rfl<|qc rfl<|qc rfl<|qc rfl<|qc rfl<|qc rfl<|qc rfl<|q9 (.d (.bool false)) rfl rfl<|q7 ?_
     obtain rfl:=someE h260
     exact ⟨_,_,_,_,_,_,_,_,_,_,_,_,_,rfl⟩
   ·rintro _ ⟨j261,j262,j263,j264,j265,j266,j267,j268,j269,j270,j271,j272,j273,rfl⟩
    refine q7 ?_
    refine qd rfl h248 (fun _ h248=>?_) (fun _ h248=>?_)
    ·refine qg<|ql<|q6<|q0 rfl rfl<|q9 (.d (.int .i64 (w64 (a249 - 1)))) rfl rfl<|qa rfl rfl<|q7<|qf<|qv<|qf ?_
     exact ⟨_,(Option.some.inj h248).symm,wkE [] [] [] rfl ⟨⟨_,rfl,.hs rfl (by decide) (ltd rfl)⟩,⟨_,rfl,.d (.refl _)⟩,⟨_,rfl,.d (.refl _)⟩,⟨_,rfl,.d (.refl _)⟩,⟨_,rfl,.d (.refl _)⟩,trivial⟩ ⟨⟨ltd rfl,.inr ⟨by decide,_,rfl,.dat _ _⟩⟩,trivial⟩⟩
    ·refine qp ?_
     refine ⟨_,(Option.some.inj h248).symm,fun hm=>?_⟩
     subst hm
     exact ⟨_,rfl,wkE [] [] [] rfl ⟨⟨_,rfl,.hs rfl (by decide) (ltd rfl)⟩,⟨_,rfl,.d (.refl _)⟩,⟨_,rfl,.d (.refl _)⟩,⟨_,rfl,.d (.refl _)⟩,⟨_,rfl,.d (.refl _)⟩,trivial⟩ ⟨⟨ltd rfl,.inr ⟨by decide,_,rfl,.dat _ _⟩⟩,trivial⟩⟩
  ·intro b252 hb
   subst hb
   refine q8<|q8<|q6<|q0 rfl rfl<|q0 rfl rfl<|q9 (.d (.bool (decide (b166 > b252)))) rfl rfl<|q7 ?_
   refine qd rfl h0 (fun _ h0=>?_) (fun _ h0=>?_)
   ·refine q8<|qk [(some [0],[0]),(some [],[]),(some [0],[0]),(some [],[]),(some [0],[]),(some [],[]),(some [],[]),(some [],[]),(some [0],[]),(some [],[]),(some [],[]),(some [],[]),(some [],[]),(some [],[]),(some [],[]),(some [],[])] (by kernel_rfl)<|q0 rfl rfl<|q0 rfl rfl<|q0 rfl rfl<|q0 rfl rfl<|q0 rfl rfl<|q0 rfl rfl ?_
    obtain ⟨v288,h289,h0⟩:=bindE h0
    refine qj h289 rfl rfl rfl rfl rfl rfl rfl<|qr (.d (.agg [.int .i64 v288.at_,.int .i64 v288.list_,.int .i64 v288.by_])) h289 rfl rfl rfl rfl rfl rfl<|q0 rfl rfl<|q0 rfl rfl ?_
    obtain ⟨v290,h291,h0⟩:=bindE h0
    refine qj h291 rfl rfl rfl rfl rfl rfl rfl<|qr (.d (.agg [.int .i64 v290.at_,.int .i64 v290.list_,.int .i64 v290.by_])) h291 rfl rfl rfl rfl rfl rfl ?_
    obtain ⟨v292,h293,h0⟩:=bindE h0
    refine qj h293 rfl rfl rfl rfl rfl rfl rfl<|q19 (ds:=[.int .i64 v288.at_,.int .i64 v288.list_,.int .i64 v288.by_]) v288 h293 rfl rfl rfl rfl rfl rfl rfl rfl (leb rfl) rfl ?_
    obtain ⟨v294,h295,h0⟩:=bindE h0
    refine qj h295 (by simp) rfl rfl rfl rfl rfl rfl<|q19 (ds:=[.int .i64 v290.at_,.int .i64 v290.list_,.int .i64 v290.by_]) v290 h295 rfl rfl rfl rfl rfl rfl rfl rfl (leb rfl) rfl<|q7<|q8<|q6<|q0 rfl rfl<|qa rfl rfl<|qa rfl rfl<|q7<|qm ?_
    obtain rfl:=someE h0
    exact ⟨.inr rfl,_,rfl,wkE [] [] [] rfl ⟨⟨_,rfl,.d (.refl _)⟩,trivial⟩ ⟨⟨ltd rfl,.inr ⟨by decide,_,rfl,.dat _ _⟩⟩,trivial⟩⟩
   ·refine qg<|q8<|qk [(some [0],[0]),(some [],[]),(some [0],[0]),(some [],[]),(some [0],[]),(some [],[]),(some [],[]),(some [],[]),(some [0],[]),(some [],[]),(some [],[]),(some [],[]),(some [],[]),(some [],[]),(some [],[]),(some [],[])] (by kernel_rfl)<|q0 rfl rfl<|q0 rfl rfl<|q0 rfl rfl<|q0 rfl rfl<|q0 rfl rfl<|q0 rfl rfl ?_
    obtain ⟨v296,h297,h0⟩:=bindE h0
    refine qj h297 rfl rfl rfl rfl rfl rfl rfl<|qr (.d (.agg [.int .i64 v296.at_,.int .i64 v296.list_,.int .i64 v296.by_])) h297 rfl rfl rfl rfl rfl rfl<|q0 rfl rfl<|q0 rfl rfl ?_
    obtain ⟨v298,h299,h0⟩:=bindE h0
    refine qj h299 rfl rfl rfl rfl rfl rfl rfl<|qr (.d (.agg [.int .i64 v298.at_,.int .i64 v298.list_,.int .i64 v298.by_])) h299 rfl rfl rfl rfl rfl rfl ?_
    obtain ⟨v300,h301,h0⟩:=bindE h0
    refine qj h301 rfl rfl rfl rfl rfl rfl rfl<|q19 (ds:=[.int .i64 v296.at_,.int .i64 v296.list_,.int .i64 v296.by_]) v296 h301 rfl rfl rfl rfl rfl rfl rfl rfl (leb rfl) rfl ?_
    obtain ⟨v302,h303,h0⟩:=bindE h0
    refine qj h303 (by simp) rfl rfl rfl rfl rfl rfl<|q19 (ds:=[.int .i64 v298.at_,.int .i64 v298.list_,.int .i64 v298.by_]) v298 h303 rfl rfl rfl rfl rfl rfl rfl rfl (leb rfl) rfl<|q7<|q8<|q6<|q0 rfl rfl<|q9 (.d (.int .i64 (w64 (b166 + 1)))) rfl rfl<|qa rfl rfl<|q7<|q8<|q6<|q0 rfl rfl<|q9 (.d (.int .i64 (w64 (b252 - 1)))) rfl rfl<|qa rfl rfl<|q7<|q8 ?_
    obtain ⟨m515,h516,h0⟩:=bindE h0
    refine qn (fun b517=>b517 = m515) (fun (b517 : Int × List span_end)=>⟨[(0,.hs 0 3 0 b517.2.length),(1,.d (.int .i64 p1)),(13,.d (.int .i64 b517.1))],[(0,.dat 3 (b517.2.map qe))],1⟩) (by simp) ?_ ?_
    ·refine qo (q3a p1 q1) (fun (a514 : Int × Int × List span_end)=>⟨[(0,.hs 0 3 0 a514.2.2.length),(1,.d (.int .i64 p1)),(4,.d (.fn q1F q1C)),(12,.d (.int .i64 a514.1)),(13,.d (.int .i64 a514.2.1))],[(0,.dat 3 (a514.2.2.map qe))],1⟩) (w64 (b166 + 1),w64 (b252 - 1),(((p0.set p1.toNat v101).set p3.toNat v103).set b166.toNat v296).set b252.toNat v298) m515 h516 (wkE [] [] [] rfl ⟨⟨_,rfl,q16 (by simp) rfl (by decide) (ltd rfl)⟩,⟨_,rfl,.d (.refl _)⟩,⟨_,rfl,.d (.refl _)⟩,⟨_,rfl,.d (.refl _)⟩,⟨_,rfl,.d (.refl _)⟩,trivial⟩ ⟨⟨ltd rfl,.inr ⟨by decide,_,rfl,.dat _ _⟩⟩,trivial⟩) ?_
     intro a514 y512 h513
     unfold q3a at h513
     refine ql<|q8 ?_
     obtain ⟨m573,h574,h513⟩:=bindE h513
     refine qn (fun b575=>b575 = m573) (fun (b575 : Int)=>⟨[(0,.hs 0 3 0 a514.2.2.length),(1,.d (.int .i64 p1)),(4,.d (.fn q1F q1C)),(12,.d (.int .i64 b575)),(13,.d (.int .i64 a514.2.1))],[(0,.dat 3 (a514.2.2.map qe))],1⟩) (by simp) ?_ ?_
     ·refine qo (q38 a514 p1 q1) (fun (a572 : Int)=>⟨[(0,.hs 0 3 0 a514.2.2.length),(1,.d (.int .i64 p1)),(4,.d (.fn q1F q1C)),(12,.d (.int .i64 a572)),(13,.d (.int .i64 a514.2.1))],[(0,.dat 3 (a514.2.2.map qe))],1⟩) a514.1 m573 h574 (wkE [] [] [] rfl ⟨⟨_,rfl,.hs rfl (by decide) (ltd rfl)⟩,⟨_,rfl,.d (.refl _)⟩,⟨_,rfl,.d (.refl _)⟩,⟨_,rfl,.d (.refl _)⟩,⟨_,rfl,.d (.refl _)⟩,trivial⟩ ⟨⟨ltd rfl,.inr ⟨by decide,_,rfl,.dat _ _⟩⟩,trivial⟩) ?_
      intro a572 y570 h571
      unfold q38 at h571
      refine q8<|q8<|qk [(some [],[]),(some [],[]),(some [],[]),(some [0],[]),(some [],[]),(some [],[]),(some [],[]),(some [0],[]),(some [],[]),(some [],[]),(some [],[]),(some [],[]),(some [],[]),(some [],[]),(some [],[]),(some [],[])] (by kernel_rfl)<|q0 rfl rfl<|q0 rfl rfl<|q9 (.d (.bool (decide (a572≤a514.2.1)))) rfl rfl ?_
      obtain ⟨c582,h583,h571⟩:=bindE h571
      refine qt 13 (fun A st=>∃ (j584 j585 j586 j587 j588 j589 j590 j591 j592 j593 j594 j595 : V),st = A [(120,.d (.bool c582)),(119,j595),(118,j594),(117,j593),(116,j592),(115,j591),(114,j590),(113,j589),(112,j588),(111,j587),(110,j586),(109,j585),(108,j584)]) ?_ ?_
      ·refine qz rfl rfl h583 (fun h583=>?_) (fun h583=>?_)
       ·refine q0 rfl rfl<|q0 rfl rfl<|q0 rfl rfl ?_
        obtain ⟨v596,h597,h583⟩:=bindE h583
        refine qj h597 rfl rfl rfl rfl rfl rfl rfl<|qr (.d (.agg [.int .i64 v596.at_,.int .i64 v596.list_,.int .i64 v596.by_])) h597 rfl rfl rfl rfl rfl rfl<|q0 rfl rfl<|q0 rfl rfl ?_
        obtain ⟨v598,h599,h583⟩:=bindE h583
        refine qj h599 rfl rfl rfl rfl rfl rfl rfl<|qr (.d (.agg [.int .i64 v598.at_,.int .i64 v598.list_,.int .i64 v598.by_])) h599 rfl rfl rfl rfl rfl rfl ?_
        obtain ⟨r600,h601,h583⟩:=bindE h583
        refine q6i [.d (.agg [.int .i64 v596.at_,.int .i64 v596.list_,.int .i64 v596.by_]),.d (.agg [.int .i64 v598.at_,.int .i64 v598.list_,.int .i64 v598.by_])] (q1Ok v596 v598 r600 h601) rfl rfl rfl (.inl rfl)<|q9 (.d (.bool (decide (r600 < 0)))) rfl rfl<|q9 (.d (.bool (decide (r600 < 0)))) rfl rfl<|q7 ?_
        obtain rfl:=someE h583
        exact ⟨_,_,_,_,_,_,_,_,_,_,_,_,rfl⟩
       ·refine qc rfl<|qc rfl<|qc rfl<|qc rfl<|qc rfl<|qc rfl<|qc rfl<|qc rfl<|qc rfl<|qc rfl<|qc rfl<|q9 (.d (.bool false)) rfl rfl<|q7 ?_
        obtain rfl:=someE h583
        exact ⟨_,_,_,_,_,_,_,_,_,_,_,_,rfl⟩
      ·rintro _ ⟨j584,j585,j586,j587,j588,j589,j590,j591,j592,j593,j594,j595,rfl⟩
       refine q7 ?_
       refine qd rfl h571 (fun _ h571=>?_) (fun _ h571=>?_)
       ·refine qg<|ql<|q6<|q0 rfl rfl<|q9 (.d (.int .i64 (w64 (a572 + 1)))) rfl rfl<|qa rfl rfl<|q7<|qf<|qv<|qf ?_
        exact ⟨_,(Option.some.inj h571).symm,wkE [] [] [] rfl ⟨⟨_,rfl,.hs rfl (by decide) (ltd rfl)⟩,⟨_,rfl,.d (.refl _)⟩,⟨_,rfl,.d (.refl _)⟩,⟨_,rfl,.d (.refl _)⟩,⟨_,rfl,.d (.refl _)⟩,trivial⟩ ⟨⟨ltd rfl,.inr ⟨by decide,_,rfl,.dat _ _⟩⟩,trivial⟩⟩
       ·refine qp ?_
        refine ⟨_,(Option.some.inj h571).symm,fun hm=>?_⟩
        subst hm
        exact ⟨_,rfl,wkE [] [] [] rfl ⟨⟨_,rfl,.hs rfl (by decide) (ltd rfl)⟩,⟨_,rfl,.d (.refl _)⟩,⟨_,rfl,.d (.refl _)⟩,⟨_,rfl,.d (.refl _)⟩,⟨_,rfl,.d (.refl _)⟩,trivial⟩ ⟨⟨ltd rfl,.inr ⟨by decide,_,rfl,.dat _ _⟩⟩,trivial⟩⟩
     ·intro b575 hb
      subst hb
      refine q8 ?_
      obtain ⟨m659,h660,h513⟩:=bindE h513
      refine qn (fun b661=>b661 = m659) (fun (b661 : Int)=>⟨[(0,.hs 0 3 0 a514.2.2.length),(1,.d (.int .i64 p1)),(4,.d (.fn q1F q1C)),(12,.d (.int .i64 b575)),(13,.d (.int .i64 b661))],[(0,.dat 3 (a514.2.2.map qe))],1⟩) (by simp) ?_ ?_
      ·refine qo (q39 b575 a514 p1 q1) (fun (a658 : Int)=>⟨[(0,.hs 0 3 0 a514.2.2.length),(1,.d (.int .i64 p1)),(4,.d (.fn q1F q1C)),(12,.d (.int .i64 b575)),(13,.d (.int .i64 a658))],[(0,.dat 3 (a514.2.2.map qe))],1⟩) a514.2.1 m659 h660 (wkE [] [] [] rfl ⟨⟨_,rfl,.hs rfl (by decide) (ltd rfl)⟩,⟨_,rfl,.d (.refl _)⟩,⟨_,rfl,.d (.refl _)⟩,⟨_,rfl,.d (.refl _)⟩,⟨_,rfl,.d (.refl _)⟩,trivial⟩ ⟨⟨ltd rfl,.inr ⟨by decide,_,rfl,.dat _ _⟩⟩,trivial⟩) ?_
       intro a658 y656 h657
       unfold q39 at h657
       refine q8<|q8<|qk [(some [],[]),(some [],[]),(some [],[]),(some [],[]),(some [0],[]),(some [],[]),(some [],[]),(some [],[]),(some [0],[]),(some [],[]),(some [],[]),(some [],[]),(some [],[]),(some [],[]),(some [],[]),(some [],[]),(some [],[])] (by kernel_rfl)<|q0 rfl rfl<|q0 rfl rfl<|q9 (.d (.bool (decide (b575≤a658)))) rfl rfl ?_
       obtain ⟨c668,h669,h657⟩:=bindE h657
       refine qt 14 (fun A st=>∃ (j670 j671 j672 j673 j674 j675 j676 j677 j678 j679 j680 j681 j682 : V),st = A [(139,.d (.bool c668)),(138,j682),(137,j681),(136,j680),(135,j679),(134,j678),(133,j677),(132,j676),(131,j675),(130,j674),(129,j673),(128,j672),(127,j671),(126,j670)]) ?_ ?_
       ·refine qz rfl rfl h669 (fun h669=>?_) (fun h669=>?_)
        ·refine q0 rfl rfl<|q0 rfl rfl<|q0 rfl rfl ?_
         obtain ⟨v683,h684,h669⟩:=bindE h669
         refine qj h684 rfl rfl rfl rfl rfl rfl rfl<|qr (.d (.agg [.int .i64 v683.at_,.int .i64 v683.list_,.int .i64 v683.by_])) h684 rfl rfl rfl rfl rfl rfl<|q0 rfl rfl<|q0 rfl rfl ?_
         obtain ⟨v685,h686,h669⟩:=bindE h669
         refine qj h686 rfl rfl rfl rfl rfl rfl rfl<|qr (.d (.agg [.int .i64 v685.at_,.int .i64 v685.list_,.int .i64 v685.by_])) h686 rfl rfl rfl rfl rfl rfl ?_
         obtain ⟨r687,h688,h669⟩:=bindE h669
         refine q6i [.d (.agg [.int .i64 v683.at_,.int .i64 v683.list_,.int .i64 v683.by_]),.d (.agg [.int .i64 v685.at_,.int .i64 v685.list_,.int .i64 v685.by_])] (q1Ok v683 v685 r687 h688) rfl rfl rfl (.inl rfl)<|q9 (.d (.bool (decide (r687 < 0)))) rfl rfl<|q9 (.d (.bool (!(decide (r687 < 0))))) rfl rfl<|q9 (.d (.bool (!(decide (r687 < 0))))) rfl rfl<|q7 ?_
         obtain rfl:=someE h669
         exact ⟨_,_,_,_,_,_,_,_,_,_,_,_,_,rfl⟩
        ·refine qc rfl<|qc rfl<|qc rfl<|qc rfl<|qc rfl<|qc rfl<|qc rfl<|qc rfl<|qc rfl<|qc rfl<|qc rfl<|qc rfl<|q9 (.d (.bool false)) rfl rfl<|q7 ?_
         obtain rfl:=someE h669
         exact ⟨_,_,_,_,_,_,_,_,_,_,_,_,_,rfl⟩
       ·rintro _ ⟨j670,j671,j672,j673,j674,j675,j676,j677,j678,j679,j680,j681,j682,rfl⟩
        refine q7 ?_
        refine qd rfl h657 (fun _ h657=>?_) (fun _ h657=>?_)
        ·refine qg<|ql<|q6<|q0 rfl rfl<|q9 (.d (.int .i64 (w64 (a658 - 1)))) rfl rfl<|qa rfl rfl<|q7<|qf<|qv<|qf ?_
         exact ⟨_,(Option.some.inj h657).symm,wkE [] [] [] rfl ⟨⟨_,rfl,.hs rfl (by decide) (ltd rfl)⟩,⟨_,rfl,.d (.refl _)⟩,⟨_,rfl,.d (.refl _)⟩,⟨_,rfl,.d (.refl _)⟩,⟨_,rfl,.d (.refl _)⟩,trivial⟩ ⟨⟨ltd rfl,.inr ⟨by decide,_,rfl,.dat _ _⟩⟩,trivial⟩⟩
        ·refine qp ?_
         refine ⟨_,(Option.some.inj h657).symm,fun hm=>?_⟩
         subst hm
         exact ⟨_,rfl,wkE [] [] [] rfl ⟨⟨_,rfl,.hs rfl (by decide) (ltd rfl)⟩,⟨_,rfl,.d (.refl _)⟩,⟨_,rfl,.d (.refl _)⟩,⟨_,rfl,.d (.refl _)⟩,⟨_,rfl,.d (.refl _)⟩,trivial⟩ ⟨⟨ltd rfl,.inr ⟨by decide,_,rfl,.dat _ _⟩⟩,trivial⟩⟩
      ·intro b661 hb
       subst hb
       refine q8<|q8<|q6<|q0 rfl rfl<|q0 rfl rfl<|q9 (.d (.bool (decide (b575 > b661)))) rfl rfl<|q7 ?_
       refine qd rfl h513 (fun _ h513=>?_) (fun _ h513=>?_)
       ·refine qp ?_
        refine ⟨_,(Option.some.inj h513).symm,fun hm=>?_⟩
        subst hm
        exact ⟨_,rfl,wkE [] [] [] rfl ⟨⟨_,rfl,.hs rfl (by decide) (ltd rfl)⟩,⟨_,rfl,.d (.refl _)⟩,⟨_,rfl,.d (.refl _)⟩,trivial⟩ ⟨⟨ltd rfl,.inr ⟨by decide,_,rfl,.dat _ _⟩⟩,trivial⟩⟩
       ·refine qg<|q8<|qk [(some [0],[0]),(some [],[]),(some [0],[0]),(some [],[]),(some [0],[]),(some [],[]),(some [],[]),(some [],[]),(some [0],[]),(some [],[]),(some [],[]),(some [],[]),(some [],[]),(some [],[]),(some [],[]),(some [],[])] (by kernel_rfl)<|q0 rfl rfl<|q0 rfl rfl<|q0 rfl rfl<|q0 rfl rfl<|q0 rfl rfl<|q0 rfl rfl ?_
        obtain ⟨v689,h690,h513⟩:=bindE h513
        refine qj h690 rfl rfl rfl rfl rfl rfl rfl<|qr (.d (.agg [.int .i64 v689.at_,.int .i64 v689.list_,.int .i64 v689.by_])) h690 rfl rfl rfl rfl rfl rfl<|q0 rfl rfl<|q0 rfl rfl ?_
        obtain ⟨v691,h692,h513⟩:=bindE h513
        refine qj h692 rfl rfl rfl rfl rfl rfl rfl<|qr (.d (.agg [.int .i64 v691.at_,.int .i64 v691.list_,.int .i64 v691.by_])) h692 rfl rfl rfl rfl rfl rfl ?_
        obtain ⟨v693,h694,h513⟩:=bindE h513
        refine qj h694 rfl rfl rfl rfl rfl rfl rfl<|q19 (ds:=[.int .i64 v689.at_,.int .i64 v689.list_,.int .i64 v689.by_]) v689 h694 rfl rfl rfl rfl rfl rfl rfl rfl (leb rfl) rfl ?_
        obtain ⟨v695,h696,h513⟩:=bindE h513
        refine qj h696 (by simp) rfl rfl rfl rfl rfl rfl<|q19 (ds:=[.int .i64 v691.at_,.int .i64 v691.list_,.int .i64 v691.by_]) v691 h696 rfl rfl rfl rfl rfl rfl rfl rfl (leb rfl) rfl<|q7<|q8<|q6<|q0 rfl rfl<|q9 (.d (.int .i64 (w64 (b575 + 1)))) rfl rfl<|qa rfl rfl<|q7<|q6<|q0 rfl rfl<|q9 (.d (.int .i64 (w64 (b661 - 1)))) rfl rfl<|qa rfl rfl<|q7<|qf<|qv<|qf ?_
        exact ⟨_,(Option.some.inj h513).symm,wkE [] [] [] rfl ⟨⟨_,rfl,q16 (by simp) rfl (by decide) (ltd rfl)⟩,⟨_,rfl,.d (.refl _)⟩,⟨_,rfl,.d (.refl _)⟩,⟨_,rfl,.d (.refl _)⟩,⟨_,rfl,.d (.refl _)⟩,trivial⟩ ⟨⟨ltd rfl,.inr ⟨by decide,_,rfl,.dat _ _⟩⟩,trivial⟩⟩
    ·intro b517 hb
     subst hb
     refine q8<|qk [(some [0],[0]),(some [],[]),(some [0],[0]),(some [],[]),(some [0],[]),(some [],[]),(some [],[]),(some [],[]),(some [0],[]),(some [],[]),(some [],[]),(some [],[]),(some [],[]),(some [],[]),(some [],[]),(some [],[])] (by kernel_rfl)<|q0 rfl rfl<|q0 rfl rfl<|q0 rfl rfl<|q0 rfl rfl<|q0 rfl rfl<|q0 rfl rfl ?_
     obtain ⟨v697,h698,h0⟩:=bindE h0
     refine qj h698 rfl rfl rfl rfl rfl rfl rfl<|qr (.d (.agg [.int .i64 v697.at_,.int .i64 v697.list_,.int .i64 v697.by_])) h698 rfl rfl rfl rfl rfl rfl<|q0 rfl rfl<|q0 rfl rfl ?_
     obtain ⟨v699,h700,h0⟩:=bindE h0
     refine qj h700 rfl rfl rfl rfl rfl rfl rfl<|qr (.d (.agg [.int .i64 v699.at_,.int .i64 v699.list_,.int .i64 v699.by_])) h700 rfl rfl rfl rfl rfl rfl ?_
     obtain ⟨v701,h702,h0⟩:=bindE h0
     refine qj h702 rfl rfl rfl rfl rfl rfl rfl<|q19 (ds:=[.int .i64 v697.at_,.int .i64 v697.list_,.int .i64 v697.by_]) v697 h702 rfl rfl rfl rfl rfl rfl rfl rfl (leb rfl) rfl ?_
     obtain ⟨v703,h704,h0⟩:=bindE h0
     refine qj h704 (by simp) rfl rfl rfl rfl rfl rfl<|q19 (ds:=[.int .i64 v699.at_,.int .i64 v699.list_,.int .i64 v699.by_]) v699 h704 rfl rfl rfl rfl rfl rfl rfl rfl (leb rfl) rfl<|q7<|q8<|q6<|q0 rfl rfl<|qa rfl rfl<|qa rfl rfl<|q7<|qm ?_
     obtain rfl:=someE h0
     exact ⟨.inr rfl,_,rfl,wkE [] [] [] rfl ⟨⟨_,rfl,.d (.refl _)⟩,trivial⟩ ⟨⟨ltd rfl,.inr ⟨by decide,_,rfl,.dat _ _⟩⟩,trivial⟩⟩
theorem q7m (rec : List span_end→Int→Int→Int→Option (List span_end)) (q1 : span_end→span_end→Option Int) (q1F : FuncId) (q1C : List DV) (q1Ok : ∀ (x0 : span_end) (x1 : span_end) (r : Int),q1 x0 x1 = some r→Pure Try.prog tab q1F ([.agg [.int .i64 x0.at_,.int .i64 x0.list_,.int .i64 x0.by_],.agg [.int .i64 x1.at_,.int .i64 x1.list_,.int .i64 x1.by_]] ++ q1C) (.int .i64 r)) (hrec : ∀ (p0 : List span_end) (p1 : Int) (p2 : Int) (p3 : Int) (r : List span_end),rec p0 p1 p2 p3 = some r→EvCall Try.prog tab 117 [.hs 0 3 0 p0.length,.d (.int .i64 p1),.d (.int .i64 p2),.d (.int .i64 p3),.d (.fn q1F q1C)] [(0,.dat 3 (p0.map qe))] 1 (.d (.tup [])) [(0,.dat 3 (r.map qe))] 1) (p0 : List span_end) (p1 : Int) (p2 : Int) (p3 : Int) (r : List span_end) (h0 : q2i rec q1 p0 p1 p2 p3 = some r) : EvCall Try.prog tab 117 [.hs 0 3 0 p0.length,.d (.int .i64 p1),.d (.int .i64 p2),.d (.int .i64 p3),.d (.fn q1F q1C)] [(0,.dat 3 (p0.map qe))] 1 (.d (.tup [])) [(0,.dat 3 (r.map qe))] 1:=by
 unfold q2i at h0
 refine q18 Try.func117 rfl (by kernel_rfl) (by kernel_rfl) rfl<|q8<|q6<|qa rfl rfl<|q7<|q8<|q6<|qa rfl rfl<|q7 ?_
 obtain ⟨m310,h311,h0⟩:=bindE h0
 refine ql<|qo (q2c q1 rec) (fun (a309 : Int × Int × Int × Bool × Bool × List span_end)=>⟨[(0,.hs 0 3 0 a309.2.2.2.2.2.length),(1,.d (.int .i64 a309.1)),(2,.d (.int .i64 a309.2.1)),(3,.d (.int .i64 a309.2.2.1)),(4,.d (.fn q1F q1C)),(10,.d (.bool a309.2.2.2.1)),(11,.d (.bool a309.2.2.2.2.1))],[(0,.dat 3 (a309.2.2.2.2.2.map qe))],1⟩) (p1,p2,p3,true,true,p0) m310 h311 (wkE [] [] [] rfl ⟨⟨_,rfl,.hs rfl (by decide) (ltd rfl)⟩,⟨_,rfl,.d (.refl _)⟩,⟨_,rfl,.d (.refl _)⟩,⟨_,rfl,.d (.refl _)⟩,⟨_,rfl,.d (.refl _)⟩,⟨_,rfl,.d (.refl _)⟩,⟨_,rfl,.d (.refl _)⟩,trivial⟩ ⟨⟨ltd rfl,.inr ⟨by decide,_,rfl,.dat _ _⟩⟩,trivial⟩) ?_
 intro a309 y307 h308
 unfold q2c at h308
 refine ql<|q8<|q6<|q0 rfl rfl<|q0 rfl rfl<|q9 (.d (.int .i64 (w64 (a309.2.1 - a309.1)))) rfl rfl<|qa rfl rfl<|q7<|q8<|q8<|q6<|q0 rfl rfl<|q9 (.d (.bool (decide ((w64 (a309.2.1 - a309.1))≤12)))) rfl rfl<|q7 ?_
 refine qd rfl h308 (fun _ h308=>?_) (fun _ h308=>?_)
 ·refine q8<|q6<|q0 rfl rfl<|q0 rfl rfl<|q0 rfl rfl<|q0 rfl rfl ?_
  obtain ⟨e318,h319,h308⟩:=bindE h308
  obtain ⟨u320,h321,h308⟩:=bindE h308
  have h322:=q1o h321
  refine q12 [(0,0)] [(0,0)] [.hs 0 3 0 a309.2.2.2.2.2.length,.d (.int .i64 a309.1),.d (.int .i64 a309.2.1),.d (.fn q1F q1C)] (.d (.tup [])) [(0,.dat 3 (e318.map qe))] [(0,.dat 3 (e318.map qe))] 1 (q6v q1 q1F q1C q1Ok a309.2.2.2.2.2 a309.1 a309.2.1 e318 h319) rfl rfl rfl (qx [(0,0)] [] [] rfl ⟨⟨_,rfl,.hs rfl (by decide) (ltd rfl)⟩,⟨_,rfl,.d (.refl _)⟩,⟨_,rfl,.d (.refl _)⟩,⟨_,rfl,.d (.refl _)⟩,trivial⟩ ⟨⟨ltd rfl,.inr ⟨by decide,_,rfl,.dat _ _⟩⟩,trivial⟩) (qx [(0,0)] [] [] rfl ⟨⟨_,rfl,.d (.refl _)⟩,trivial⟩ ⟨⟨ltd rfl,.inr ⟨by decide,_,rfl,.dat _ _⟩⟩,trivial⟩) rfl ⟨.inl rfl,trivial⟩<|q7<|qm ?_
  refine ⟨_,(Option.some.inj h308).symm,fun hm=>?_⟩
  subst hm
  obtain rfl:=someE h0
  exact ⟨.inr rfl,_,rfl,wkE [] [] [] rfl ⟨⟨_,rfl,.d (.refl _)⟩,trivial⟩ ⟨⟨ltd rfl,.inr ⟨by decide,_,rfl,.dat _ _⟩⟩,trivial⟩⟩
 ·refine qg<|q8<|q8<|q6<|q0 rfl rfl<|q9 (.d (.bool (a309.2.2.1 == 0))) rfl rfl<|q7 ?_
  refine qd rfl h308 (fun _ h308=>?_) (fun _ h308=>?_)
  ·refine q8<|q6<|q0 rfl rfl<|q0 rfl rfl<|q0 rfl rfl<|q0 rfl rfl ?_
   obtain ⟨e328,h329,h308⟩:=bindE h308
   obtain ⟨u330,h331,h308⟩:=bindE h308
   have h332:=q1o h331
   refine q12 [(0,0)] [(0,0)] [.hs 0 3 0 a309.2.2.2.2.2.length,.d (.int .i64 a309.1),.d (.int .i64 a309.2.1),.d (.fn q1F q1C)] (.d (.tup [])) [(0,.dat 3 (e328.map qe))] [(0,.dat 3 (e328.map qe))] 1 (q7p q1 q1F q1C q1Ok a309.2.2.2.2.2 a309.1 a309.2.1 e328 h329) rfl rfl rfl (qx [(0,0)] [] [] rfl ⟨⟨_,rfl,.hs rfl (by decide) (ltd rfl)⟩,⟨_,rfl,.d (.refl _)⟩,⟨_,rfl,.d (.refl _)⟩,⟨_,rfl,.d (.refl _)⟩,trivial⟩ ⟨⟨ltd rfl,.inr ⟨by decide,_,rfl,.dat _ _⟩⟩,trivial⟩) (qx [(0,0)] [] [] rfl ⟨⟨_,rfl,.d (.refl _)⟩,trivial⟩ ⟨⟨ltd rfl,.inr ⟨by decide,_,rfl,.dat _ _⟩⟩,trivial⟩) rfl ⟨.inl rfl,trivial⟩<|q7<|qm ?_
   refine ⟨_,(Option.some.inj h308).symm,fun hm=>?_⟩
   subst hm
   obtain rfl:=someE h0
   exact ⟨.inr rfl,_,rfl,wkE [] [] [] rfl ⟨⟨_,rfl,.d (.refl _)⟩,trivial⟩ ⟨⟨ltd rfl,.inr ⟨by decide,_,rfl,.dat _ _⟩⟩,trivial⟩⟩
  ·refine qg<|q8<|q8<|q6<|q0 rfl rfl<|q9 (.d (.bool (!a309.2.2.2.1))) rfl rfl<|q7 ?_
   obtain ⟨m339,h338,h308⟩:=bindE h308
   refine q5c (fun b340=>b340 = m339) (fun (b340 : Int × List span_end)=>⟨[(0,.hs 0 3 0 b340.2.length),(1,.d (.int .i64 a309.1)),(2,.d (.int .i64 a309.2.1)),(3,.d (.int .i64 b340.1)),(4,.d (.fn q1F q1C)),(10,.d (.bool a309.2.2.2.1)),(11,.d (.bool a309.2.2.2.2.1)),(12,.d (.int .i64 (w64 (a309.2.1 - a309.1))))],[(0,.dat 3 (b340.2.map qe))],1⟩) (by simp) ?_ ?_
   ·refine qd rfl h338 (fun _ h338=>?_) (fun _ h338=>?_)
    ·refine q8<|q6<|q0 rfl rfl<|q0 rfl rfl<|q0 rfl rfl<|q0 rfl rfl ?_
     obtain ⟨e341,h342,h338⟩:=bindE h338
     obtain ⟨u343,h344,h338⟩:=bindE h338
     have h345:=q1o h344
     refine q12 [(0,0)] [(0,0)] [.hs 0 3 0 a309.2.2.2.2.2.length,.d (.int .i64 a309.1),.d (.int .i64 a309.2.1),.d (.fn q1F q1C)] (.d (.tup [])) [(0,.dat 3 (e341.map qe))] [(0,.dat 3 (e341.map qe))] 1 (q6w q1 q1F q1C q1Ok a309.2.2.2.2.2 a309.1 a309.2.1 e341 h342) rfl rfl rfl (qx [(0,0)] [] [] rfl ⟨⟨_,rfl,.hs rfl (by decide) (ltd rfl)⟩,⟨_,rfl,.d (.refl _)⟩,⟨_,rfl,.d (.refl _)⟩,⟨_,rfl,.d (.refl _)⟩,trivial⟩ ⟨⟨ltd rfl,.inr ⟨by decide,_,rfl,.dat _ _⟩⟩,trivial⟩) (qx [(0,0)] [] [] rfl ⟨⟨_,rfl,.d (.refl _)⟩,trivial⟩ ⟨⟨ltd rfl,.inr ⟨by decide,_,rfl,.dat _ _⟩⟩,trivial⟩) rfl ⟨.inl rfl,trivial⟩<|q7<|q6<|q0 rfl rfl<|q9 (.d (.int .i64 (w64 (a309.2.2.1 - 1)))) rfl rfl<|qa rfl rfl<|q7<|qf ?_
     obtain rfl:=someE h338
     exact ⟨_,rfl,wkE [] [] [] rfl ⟨⟨_,rfl,q16 (by simp [h345]) rfl (by decide) (ltd rfl)⟩,⟨_,rfl,.d (.refl _)⟩,⟨_,rfl,.d (.refl _)⟩,⟨_,rfl,.d (.refl _)⟩,⟨_,rfl,.d (.refl _)⟩,⟨_,rfl,.d (.refl _)⟩,⟨_,rfl,.d (.refl _)⟩,⟨_,rfl,.d (.refl _)⟩,trivial⟩ ⟨⟨ltd rfl,.inr ⟨by decide,_,rfl,.dat _ _⟩⟩,trivial⟩⟩
    ·refine qg<|qf ?_
     obtain rfl:=someE h338
     exact ⟨_,rfl,wkE [] [] [] rfl ⟨⟨_,rfl,.hs rfl (by decide) (ltd rfl)⟩,⟨_,rfl,.d (.refl _)⟩,⟨_,rfl,.d (.refl _)⟩,⟨_,rfl,.d (.refl _)⟩,⟨_,rfl,.d (.refl _)⟩,⟨_,rfl,.d (.refl _)⟩,⟨_,rfl,.d (.refl _)⟩,⟨_,rfl,.d (.refl _)⟩,trivial⟩ ⟨⟨ltd rfl,.inr ⟨by decide,_,rfl,.dat _ _⟩⟩,trivial⟩⟩
   ·intro b340 hb
    subst hb
    refine q8<|q6<|q0 rfl rfl<|q0 rfl rfl<|q0 rfl rfl<|q0 rfl rfl ?_
    obtain ⟨r346,h347,h308⟩:=bindE h308
    refine q11 [.hs 0 3 0 b340.2.length,.d (.int .i64 a309.1),.d (.int .i64 a309.2.1),.d (.fn q1F q1C)] (q7w b340.2 a309.1 a309.2.1 q1 q1F q1C q1Ok r346 h347) rfl rfl (q9v (q8v rfl rfl) (q9v rfl (q9v rfl (q9v rfl rfl)))) (.inr rfl)<|q0 rfl rfl<|q9 (.d (.int .i64 r346.1)) rfl rfl<|q9 (.d (.int .i64 r346.2)) rfl rfl<|qa rfl rfl<|qa rfl rfl<|q7<|q8<|q8<|q6<|q0 rfl rfl<|q9 (.d (.bool (r346.2 == 2))) rfl rfl<|q7 ?_
    obtain ⟨m354,h353,h308⟩:=bindE h308
    refine q5c (fun b355=>b355 = m354) (fun (b355 : Int × Int × List span_end)=>⟨[(0,.hs 0 3 0 b355.2.2.length),(1,.d (.int .i64 a309.1)),(2,.d (.int .i64 a309.2.1)),(3,.d (.int .i64 b340.1)),(4,.d (.fn q1F q1C)),(10,.d (.bool a309.2.2.2.1)),(11,.d (.bool a309.2.2.2.2.1)),(12,.d (.int .i64 (w64 (a309.2.1 - a309.1)))),(13,.d (.int .i64 b355.1)),(14,.d (.int .i64 b355.2.1))],[(0,.dat 3 (b355.2.2.map qe))],1⟩) (by simp) ?_ ?_
    ·refine qd rfl h353 (fun _ h353=>?_) (fun _ h353=>?_)
     ·refine q8<|q6<|q0 rfl rfl<|q0 rfl rfl<|q0 rfl rfl<|q0 rfl rfl ?_
      obtain ⟨e356,h357,h353⟩:=bindE h353
      obtain ⟨u358,h359,h353⟩:=bindE h353
      have h360:=q1o h359
      refine q12 [(0,0)] [(0,0)] [.hs 0 3 0 b340.2.length,.d (.int .i64 a309.1),.d (.int .i64 a309.2.1),.d (.fn q1F q1C)] (.d (.tup [])) [(0,.dat 3 (e356.map qe))] [(0,.dat 3 (e356.map qe))] 1 (q74 q1 q1F q1C q1Ok b340.2 a309.1 a309.2.1 e356 h357) rfl rfl rfl (qx [(0,0)] [] [] rfl ⟨⟨_,rfl,.hs rfl (by decide) (ltd rfl)⟩,⟨_,rfl,.d (.refl _)⟩,⟨_,rfl,.d (.refl _)⟩,⟨_,rfl,.d (.refl _)⟩,trivial⟩ ⟨⟨ltd rfl,.inr ⟨by decide,_,rfl,.dat _ _⟩⟩,trivial⟩) (qx [(0,0)] [] [] rfl ⟨⟨_,rfl,.d (.refl _)⟩,trivial⟩ ⟨⟨ltd rfl,.inr ⟨by decide,_,rfl,.dat _ _⟩⟩,trivial⟩) rfl ⟨.inl rfl,trivial⟩<|q7<|q8<|q6<|q0 rfl rfl<|q9 (.d (.int .i64 (w64 (a309.2.1 - 1)))) rfl rfl<|q0 rfl rfl<|q0 rfl rfl<|q9 (.d (.int .i64 (w64 (r346.1 - a309.1)))) rfl rfl<|q9 (.d (.int .i64 (w64 ((w64 (a309.2.1 - 1)) - (w64 (r346.1 - a309.1)))))) rfl rfl<|qa rfl rfl<|q7<|q6<|qa rfl rfl<|q7<|qf ?_
      obtain rfl:=someE h353
      exact ⟨_,rfl,wkE [] [] [] rfl ⟨⟨_,rfl,q16 (by simp [h360]) rfl (by decide) (ltd rfl)⟩,⟨_,rfl,.d (.refl _)⟩,⟨_,rfl,.d (.refl _)⟩,⟨_,rfl,.d (.refl _)⟩,⟨_,rfl,.d (.refl _)⟩,⟨_,rfl,.d (.refl _)⟩,⟨_,rfl,.d (.refl _)⟩,⟨_,rfl,.d (.refl _)⟩,⟨_,rfl,.d (.refl _)⟩,⟨_,rfl,.d (.refl _)⟩,trivial⟩ ⟨⟨ltd rfl,.inr ⟨by decide,_,rfl,.dat _ _⟩⟩,trivial⟩⟩
     ·refine qg<|qf ?_
      obtain rfl:=someE h353
      exact ⟨_,rfl,wkE [] [] [] rfl ⟨⟨_,rfl,.hs rfl (by decide) (ltd rfl)⟩,⟨_,rfl,.d (.refl _)⟩,⟨_,rfl,.d (.refl _)⟩,⟨_,rfl,.d (.refl _)⟩,⟨_,rfl,.d (.refl _)⟩,⟨_,rfl,.d (.refl _)⟩,⟨_,rfl,.d (.refl _)⟩,⟨_,rfl,.d (.refl _)⟩,⟨_,rfl,.d (.refl _)⟩,⟨_,rfl,.d (.refl _)⟩,trivial⟩ ⟨⟨ltd rfl,.inr ⟨by decide,_,rfl,.dat _ _⟩⟩,trivial⟩⟩
    ·intro b355 hb
     subst hb
     refine q8<|q8<|q6<|q0 rfl rfl ?_
     obtain ⟨c361,h362,h308⟩:=bindE h308
     refine qt 3 (fun A st=>∃ (j363 j364 : V),st = A [(71,.d (.bool c361)),(70,j364),(69,j363)]) ?_ ?_
     ·refine qz rfl rfl h362 (fun h362=>?_) (fun h362=>?_)
      ·refine q0 rfl rfl<|q9 (.d (.bool a309.2.2.2.2.1)) rfl rfl<|q7 ?_
       obtain rfl:=someE h362
       exact ⟨_,_,rfl⟩
      ·refine qc rfl<|q9 (.d (.bool false)) rfl rfl<|q7 ?_
       obtain rfl:=someE h362
       exact ⟨_,_,rfl⟩
     ·rintro _ ⟨j363,j364,rfl⟩
      obtain ⟨c365,h366,h308⟩:=bindE h308
      refine qt 4 (fun A st=>∃ (j367 j368 j369 : V),st = A [(75,.d (.bool c365)),(74,j369),(73,j368),(72,j367)]) ?_ ?_
      ·refine qz rfl rfl h366 (fun h366=>?_) (fun h366=>?_)
       ·refine q0 rfl rfl<|q9 (.d (.bool (b355.2.1 == 1))) rfl rfl<|q9 (.d (.bool (b355.2.1 == 1))) rfl rfl<|q7 ?_
        obtain rfl:=someE h366
        exact ⟨_,_,_,rfl⟩
       ·refine qc rfl<|qc rfl<|q9 (.d (.bool false)) rfl rfl<|q7 ?_
        obtain rfl:=someE h366
        exact ⟨_,_,_,rfl⟩
      ·rintro _ ⟨j367,j368,j369,rfl⟩
       refine q7 ?_
       obtain ⟨m376,h375,h308⟩:=bindE h308
       refine q5c (fun b377=>.inl b377 = m376) (fun (b377 : List span_end)=>⟨[(0,.hs 0 3 0 b377.length),(1,.d (.int .i64 a309.1)),(2,.d (.int .i64 a309.2.1)),(3,.d (.int .i64 b340.1)),(4,.d (.fn q1F q1C)),(10,.d (.bool a309.2.2.2.1)),(11,.d (.bool a309.2.2.2.2.1)),(12,.d (.int .i64 (w64 (a309.2.1 - a309.1)))),(13,.d (.int .i64 b355.1))],[(0,.dat 3 (b377.map qe))],1⟩) (by simp) ?_ ?_
       ·refine qd rfl h375 (fun _ h375=>?_) (fun _ h375=>?_)
        ·refine q8<|q6<|q0 rfl rfl<|q0 rfl rfl<|q0 rfl rfl<|q0 rfl rfl ?_
         obtain ⟨e378,h379,h375⟩:=bindE h375
         obtain ⟨u380,h381,h375⟩:=bindE h375
         have h382:=q1o h381
         refine q12 [(0,0)] [(0,0)] [.hs 0 3 0 b355.2.2.length,.d (.int .i64 a309.1),.d (.int .i64 a309.2.1),.d (.fn q1F q1C)] (.d (.bool e378.1)) [(0,.dat 3 (e378.2.map qe))] [(0,.dat 3 (e378.2.map qe))] 1 (q69 q1 q1F q1C q1Ok b355.2.2 a309.1 a309.2.1 e378 h379) rfl rfl rfl (qx [(0,0)] [] [] rfl ⟨⟨_,rfl,.hs rfl (by decide) (ltd rfl)⟩,⟨_,rfl,.d (.refl _)⟩,⟨_,rfl,.d (.refl _)⟩,⟨_,rfl,.d (.refl _)⟩,trivial⟩ ⟨⟨ltd rfl,.inr ⟨by decide,_,rfl,.dat _ _⟩⟩,trivial⟩) (qx [(0,0)] [] [] rfl ⟨⟨_,rfl,.d (.refl _)⟩,trivial⟩ ⟨⟨ltd rfl,.inr ⟨by decide,_,rfl,.dat _ _⟩⟩,trivial⟩) rfl ⟨.inl rfl,trivial⟩<|q7 ?_
         refine qd rfl h375 (fun _ h375=>?_) (fun _ h375=>?_)
         ·refine qm ?_
          obtain rfl:=someE h375
          refine ⟨_,(Option.some.inj h308).symm,fun hm=>?_⟩
          subst hm
          obtain rfl:=someE h0
          exact ⟨.inr rfl,_,rfl,wkE [] [] [] rfl ⟨⟨_,rfl,.d (.refl _)⟩,trivial⟩ ⟨⟨ltd rfl,.inr ⟨by decide,_,rfl,.dat _ _⟩⟩,trivial⟩⟩
         ·refine qg<|qf ?_
          obtain rfl:=someE h375
          exact ⟨_,rfl,wkE [] [] [] rfl ⟨⟨_,rfl,q16 (by simp [h382]) rfl (by decide) (ltd rfl)⟩,⟨_,rfl,.d (.refl _)⟩,⟨_,rfl,.d (.refl _)⟩,⟨_,rfl,.d (.refl _)⟩,⟨_,rfl,.d (.refl _)⟩,⟨_,rfl,.d (.refl _)⟩,⟨_,rfl,.d (.refl _)⟩,⟨_,rfl,.d (.refl _)⟩,⟨_,rfl,.d (.refl _)⟩,trivial⟩ ⟨⟨ltd rfl,.inr ⟨by decide,_,rfl,.dat _ _⟩⟩,trivial⟩⟩
        ·refine qg<|qf ?_
         obtain rfl:=someE h375
         exact ⟨_,rfl,wkE [] [] [] rfl ⟨⟨_,rfl,.hs rfl (by decide) (ltd rfl)⟩,⟨_,rfl,.d (.refl _)⟩,⟨_,rfl,.d (.refl _)⟩,⟨_,rfl,.d (.refl _)⟩,⟨_,rfl,.d (.refl _)⟩,⟨_,rfl,.d (.refl _)⟩,⟨_,rfl,.d (.refl _)⟩,⟨_,rfl,.d (.refl _)⟩,⟨_,rfl,.d (.refl _)⟩,trivial⟩ ⟨⟨ltd rfl,.inr ⟨by decide,_,rfl,.dat _ _⟩⟩,trivial⟩⟩
       ·intro b377 hb
        subst hb
        refine q8<|q8<|qk [(some [],[]),(some [],[]),(some [],[]),(some [],[]),(some [0],[]),(some [],[]),(some [],[]),(some [],[]),(some [0],[]),(some [],[]),(some [],[]),(some [],[]),(some [],[]),(some [],[]),(some [],[]),(some [],[]),(some [],[])] (by kernel_rfl)<|q0 rfl rfl<|q9 (.d (.bool (decide (a309.1 > 0)))) rfl rfl ?_
        obtain ⟨c389,h390,h308⟩:=bindE h308
        refine qt 15 (fun A st=>∃ (j391 j392 j393 j394 j395 j396 j397 j398 j399 j400 j401 j402 j403 j404 : V),st = A [(97,.d (.bool c389)),(96,j404),(95,j403),(94,j402),(93,j401),(92,j400),(91,j399),(90,j398),(89,j397),(88,j396),(87,j395),(86,j394),(85,j393),(84,j392),(83,j391)]) ?_ ?_
        ·refine qz rfl rfl h390 (fun h390=>?_) (fun h390=>?_)
         ·refine q0 rfl rfl<|q0 rfl rfl<|q0 rfl rfl<|q9 (.d (.int .i64 (w64 (a309.1 - 1)))) rfl rfl ?_
          obtain ⟨v405,h406,h390⟩:=bindE h390
          refine qj h406 rfl rfl rfl rfl rfl rfl rfl<|qr (.d (.agg [.int .i64 v405.at_,.int .i64 v405.list_,.int .i64 v405.by_])) h406 rfl rfl rfl rfl rfl rfl<|q0 rfl rfl<|q0 rfl rfl ?_
          obtain ⟨v407,h408,h390⟩:=bindE h390
          refine qj h408 rfl rfl rfl rfl rfl rfl rfl<|qr (.d (.agg [.int .i64 v407.at_,.int .i64 v407.list_,.int .i64 v407.by_])) h408 rfl rfl rfl rfl rfl rfl ?_
          obtain ⟨r409,h410,h390⟩:=bindE h390
          refine q6i [.d (.agg [.int .i64 v405.at_,.int .i64 v405.list_,.int .i64 v405.by_]),.d (.agg [.int .i64 v407.at_,.int .i64 v407.list_,.int .i64 v407.by_])] (q1Ok v405 v407 r409 h410) rfl rfl rfl (.inl rfl)<|q9 (.d (.bool (decide (r409 < 0)))) rfl rfl<|q9 (.d (.bool (!(decide (r409 < 0))))) rfl rfl<|q9 (.d (.bool (!(decide (r409 < 0))))) rfl rfl<|q7 ?_
          obtain rfl:=someE h390
          exact ⟨_,_,_,_,_,_,_,_,_,_,_,_,_,_,rfl⟩
         ·refine qc rfl<|qc rfl<|qc rfl<|qc rfl<|qc rfl<|qc rfl<|qc rfl<|qc rfl<|qc rfl<|qc rfl<|qc rfl<|qc rfl<|qc rfl<|q9 (.d (.bool false)) rfl rfl<|q7 ?_
          obtain rfl:=someE h390
          exact ⟨_,_,_,_,_,_,_,_,_,_,_,_,_,_,rfl⟩
        ·rintro _ ⟨j391,j392,j393,j394,j395,j396,j397,j398,j399,j400,j401,j402,j403,j404,rfl⟩
         refine q7 ?_
         refine qd rfl h308 (fun _ h308=>?_) (fun _ h308=>?_)
         ·refine q8<|q6<|q0 rfl rfl<|q0 rfl rfl<|q0 rfl rfl<|q0 rfl rfl<|q0 rfl rfl ?_
          obtain ⟨e416,h417,h308⟩:=bindE h308
          obtain ⟨u418,h419,h308⟩:=bindE h308
          have h420:=q1o h419
          refine q12 [(0,0)] [(0,0)] [.hs 0 3 0 b377.length,.d (.int .i64 a309.1),.d (.int .i64 a309.2.1),.d (.int .i64 b355.1),.d (.fn q1F q1C)] (.d (.int .i64 e416.1)) [(0,.dat 3 (e416.2.map qe))] [(0,.dat 3 (e416.2.map qe))] 1 (q6t q1 q1F q1C q1Ok b377 a309.1 a309.2.1 b355.1 e416 h417) rfl rfl rfl (qx [(0,0)] [] [] rfl ⟨⟨_,rfl,.hs rfl (by decide) (ltd rfl)⟩,⟨_,rfl,.d (.refl _)⟩,⟨_,rfl,.d (.refl _)⟩,⟨_,rfl,.d (.refl _)⟩,⟨_,rfl,.d (.refl _)⟩,trivial⟩ ⟨⟨ltd rfl,.inr ⟨by decide,_,rfl,.dat _ _⟩⟩,trivial⟩) (qx [(0,0)] [] [] rfl ⟨⟨_,rfl,.d (.refl _)⟩,trivial⟩ ⟨⟨ltd rfl,.inr ⟨by decide,_,rfl,.dat _ _⟩⟩,trivial⟩) rfl ⟨.inl rfl,trivial⟩<|qa rfl rfl<|q7<|q8<|q6<|q0 rfl rfl<|qa rfl rfl<|q7<|qp<|qhg<|qf ?_
          exact ⟨_,(Option.some.inj h308).symm,wkE [] [] [] rfl ⟨⟨_,rfl,q16 (by simp [h420]) rfl (by decide) (ltd rfl)⟩,⟨_,rfl,.d (.refl _)⟩,⟨_,rfl,.d (.refl _)⟩,⟨_,rfl,.d (.refl _)⟩,⟨_,rfl,.d (.refl _)⟩,⟨_,rfl,.d (.refl _)⟩,⟨_,rfl,.d (.refl _)⟩,trivial⟩ ⟨⟨ltd rfl,.inr ⟨by decide,_,rfl,.dat _ _⟩⟩,trivial⟩⟩
         ·refine qg<|q8<|q6<|q0 rfl rfl<|q0 rfl rfl<|q0 rfl rfl<|q0 rfl rfl<|q0 rfl rfl ?_
          obtain ⟨e421,h422,h308⟩:=bindE h308
          obtain ⟨u423,h424,h308⟩:=bindE h308
          have h425:=q1o h424
          refine q12 [(0,0)] [(0,0)] [.hs 0 3 0 b377.length,.d (.int .i64 a309.1),.d (.int .i64 a309.2.1),.d (.int .i64 b355.1),.d (.fn q1F q1C)] (.d (.tup [.int .i64 e421.1,.bool e421.2.1])) [(0,.dat 3 (e421.2.2.map qe))] [(0,.dat 3 (e421.2.2.map qe))] 1 (q7l q1 q1F q1C q1Ok b377 a309.1 a309.2.1 b355.1 e421 h422) rfl rfl rfl (qx [(0,0)] [] [] rfl ⟨⟨_,rfl,.hs rfl (by decide) (ltd rfl)⟩,⟨_,rfl,.d (.refl _)⟩,⟨_,rfl,.d (.refl _)⟩,⟨_,rfl,.d (.refl _)⟩,⟨_,rfl,.d (.refl _)⟩,trivial⟩ ⟨⟨ltd rfl,.inr ⟨by decide,_,rfl,.dat _ _⟩⟩,trivial⟩) (qx [(0,0)] [] [] rfl ⟨⟨_,rfl,.d (.refl _)⟩,trivial⟩ ⟨⟨ltd rfl,.inr ⟨by decide,_,rfl,.dat _ _⟩⟩,trivial⟩) rfl ⟨.inl rfl,trivial⟩<|q0 rfl rfl<|q9 (.d (.int .i64 e421.1)) rfl rfl<|q9 (.d (.bool e421.2.1)) rfl rfl<|qa rfl rfl<|qa rfl rfl<|q7<|q8<|q6<|q0 rfl rfl<|qa rfl rfl<|q7<|q8<|q6<|q0 rfl rfl<|q0 rfl rfl<|q9 (.d (.int .i64 (w64 (e421.1 - a309.1)))) rfl rfl<|q0 rfl rfl<|q0 rfl rfl<|q9 (.d (.int .i64 (w64 (a309.2.1 - e421.1)))) rfl rfl<|qa rfl rfl<|qa rfl rfl<|q7<|q8<|q6<|q0 rfl rfl<|q9 (.d (.int .i64 (w64 (Int.tdiv (w64 (a309.2.1 - a309.1)) 8)))) rfl rfl<|qa rfl rfl<|q7<|q8<|q6<|q0 rfl rfl<|q0 rfl rfl<|q9 (.d (.bool (decide ((w64 (e421.1 - a309.1)) < (w64 (a309.2.1 - e421.1)))))) rfl rfl<|q7 ?_
          refine qd rfl h308 (fun _ h308=>?_) (fun _ h308=>?_)
          ·refine q8<|q6<|q0 rfl rfl<|q0 rfl rfl<|q9 (.d (.bool (decide ((w64 (e421.1 - a309.1)) ≥ (w64 (Int.tdiv (w64 (a309.2.1 - a309.1)) 8)))))) rfl rfl<|qa rfl rfl<|q7<|q8<|q6<|q0 rfl rfl<|q0 rfl rfl<|q0 rfl rfl<|q0 rfl rfl<|q0 rfl rfl ?_
           obtain ⟨e426,h427,h308⟩:=bindE h308
           obtain ⟨u428,h429,h308⟩:=bindE h308
           have h430:=q1o h429
           refine q12 [(0,0)] [(0,0)] [.hs 0 3 0 b377.length,.d (.int .i64 a309.1),.d (.int .i64 e421.1),.d (.int .i64 b340.1),.d (.fn q1F q1C)] (.d (.tup [])) [(0,.dat 3 (e426.map qe))] [(0,.dat 3 (e426.map qe))] 1 (hrec e421.2.2 a309.1 e421.1 b340.1 e426 h427) rfl rfl rfl (qx [(0,0)] [] [] rfl ⟨⟨_,rfl,q16 (by simp [h425]) rfl (by decide) (ltd rfl)⟩,⟨_,rfl,.d (.refl _)⟩,⟨_,rfl,.d (.refl _)⟩,⟨_,rfl,.d (.refl _)⟩,⟨_,rfl,.d (.refl _)⟩,trivial⟩ ⟨⟨ltd rfl,.inr ⟨by decide,_,rfl,.dat _ _⟩⟩,trivial⟩) (qx [(0,0)] [] [] rfl ⟨⟨_,rfl,.d (.refl _)⟩,trivial⟩ ⟨⟨ltd rfl,.inr ⟨by decide,_,rfl,.dat _ _⟩⟩,trivial⟩) rfl ⟨.inl rfl,trivial⟩<|q7<|q6<|q0 rfl rfl<|q9 (.d (.int .i64 (w64 (e421.1 + 1)))) rfl rfl<|qa rfl rfl<|q7<|qf<|qv<|qf ?_
           exact ⟨_,(Option.some.inj h308).symm,wkE [] [] [] rfl ⟨⟨_,rfl,q16 (by simp [h425,h430]) rfl (by decide) (ltd rfl)⟩,⟨_,rfl,.d (.refl _)⟩,⟨_,rfl,.d (.refl _)⟩,⟨_,rfl,.d (.refl _)⟩,⟨_,rfl,.d (.refl _)⟩,⟨_,rfl,.d (.refl _)⟩,⟨_,rfl,.d (.refl _)⟩,trivial⟩ ⟨⟨ltd rfl,.inr ⟨by decide,_,rfl,.dat _ _⟩⟩,trivial⟩⟩
          ·refine q8<|q6<|q0 rfl rfl<|q0 rfl rfl<|q9 (.d (.bool (decide ((w64 (a309.2.1 - e421.1)) ≥ (w64 (Int.tdiv (w64 (a309.2.1 - a309.1)) 8)))))) rfl rfl<|qa rfl rfl<|q7<|q8<|q6<|q0 rfl rfl<|q0 rfl rfl<|q9 (.d (.int .i64 (w64 (e421.1 + 1)))) rfl rfl<|q0 rfl rfl<|q0 rfl rfl<|q0 rfl rfl ?_
           obtain ⟨e431,h432,h308⟩:=bindE h308
           obtain ⟨u433,h434,h308⟩:=bindE h308
           have h435:=q1o h434
           refine q12 [(0,0)] [(0,0)] [.hs 0 3 0 b377.length,.d (.int .i64 (w64 (e421.1 + 1))),.d (.int .i64 a309.2.1),.d (.int .i64 b340.1),.d (.fn q1F q1C)] (.d (.tup [])) [(0,.dat 3 (e431.map qe))] [(0,.dat 3 (e431.map qe))] 1 (hrec e421.2.2 (w64 (e421.1 + 1)) a309.2.1 b340.1 e431 h432) rfl rfl rfl (qx [(0,0)] [] [] rfl ⟨⟨_,rfl,q16 (by simp [h425]) rfl (by decide) (ltd rfl)⟩,⟨_,rfl,.d (.refl _)⟩,⟨_,rfl,.d (.refl _)⟩,⟨_,rfl,.d (.refl _)⟩,⟨_,rfl,.d (.refl _)⟩,trivial⟩ ⟨⟨ltd rfl,.inr ⟨by decide,_,rfl,.dat _ _⟩⟩,trivial⟩) (qx [(0,0)] [] [] rfl ⟨⟨_,rfl,.d (.refl _)⟩,trivial⟩ ⟨⟨ltd rfl,.inr ⟨by decide,_,rfl,.dat _ _⟩⟩,trivial⟩) rfl ⟨.inl rfl,trivial⟩<|q7<|q6<|q0 rfl rfl<|qa rfl rfl<|q7<|qf<|qv<|qf ?_
           exact ⟨_,(Option.some.inj h308).symm,wkE [] [] [] rfl ⟨⟨_,rfl,q16 (by simp [h425,h435]) rfl (by decide) (ltd rfl)⟩,⟨_,rfl,.d (.refl _)⟩,⟨_,rfl,.d (.refl _)⟩,⟨_,rfl,.d (.refl _)⟩,⟨_,rfl,.d (.refl _)⟩,⟨_,rfl,.d (.refl _)⟩,⟨_,rfl,.d (.refl _)⟩,trivial⟩ ⟨⟨ltd rfl,.inr ⟨by decide,_,rfl,.dat _ _⟩⟩,trivial⟩⟩
theorem q7x (n : Nat) (q1 : span_end→span_end→Option Int) (q1F : FuncId) (q1C : List DV) (q1Ok : ∀ (x0 : span_end) (x1 : span_end) (r : Int),q1 x0 x1 = some r→Pure Try.prog tab q1F ([.agg [.int .i64 x0.at_,.int .i64 x0.list_,.int .i64 x0.by_],.agg [.int .i64 x1.at_,.int .i64 x1.list_,.int .i64 x1.by_]] ++ q1C) (.int .i64 r)) : ∀ (p0 : List span_end) (p1 : Int) (p2 : Int) (p3 : Int) (r : List span_end),q32 n q1 p0 p1 p2 p3 = some r→EvCall Try.prog tab 117 [.hs 0 3 0 p0.length,.d (.int .i64 p1),.d (.int .i64 p2),.d (.int .i64 p3),.d (.fn q1F q1C)] [(0,.dat 3 (p0.map qe))] 1 (.d (.tup [])) [(0,.dat 3 (r.map qe))] 1:=by
 induction n with
 | zero=>intro p0 p1 p2 p3 r h0;cases h0
 | succ n ih=>intro p0 p1 p2 p3 r h0;exact q7m (q32 n q1) q1 q1F q1C q1Ok ih p0 p1 p2 p3 r h0
theorem q7e (q1 : span_end→span_end→Option Int) (q1F : FuncId) (q1C : List DV) (q1Ok : ∀ (x0 : span_end) (x1 : span_end) (r : Int),q1 x0 x1 = some r→Pure Try.prog tab q1F ([.agg [.int .i64 x0.at_,.int .i64 x0.list_,.int .i64 x0.by_],.agg [.int .i64 x1.at_,.int .i64 x1.list_,.int .i64 x1.by_]] ++ q1C) (.int .i64 r)) (p0 : List span_end) (r : List span_end) (h0 : q2d q1 p0 = some r) : EvCall Try.prog tab 108 [.hs 0 3 0 p0.length,.d (.fn q1F q1C)] [(0,.dat 3 (p0.map qe))] 1 (.d (.tup [])) [(0,.dat 3 (r.map qe))] 1:=by
 unfold q2d at h0
 refine q18 Try.func108 rfl (by kernel_rfl) (by kernel_rfl) rfl<|q8<|q6<|q0 rfl rfl<|q9 (.d (.int .i64 (p0.length : Int))) rfl rfl<|qa rfl rfl<|q7<|q6<|q0 rfl rfl<|q0 rfl rfl<|q0 rfl rfl<|q9 (.d (.int .u64 (IntKind.wrap .u64 (p0.length : Int)))) rfl rfl ?_
 obtain ⟨r101,h102,h0⟩:=bindE h0
 refine q11 [.d (.int .u64 (IntKind.wrap .u64 (p0.length : Int)))] (q90 (IntKind.wrap .u64 (p0.length : Int)) r101 h102) rfl rfl rfl (.inl rfl)<|q0 rfl rfl ?_
 obtain ⟨e103,h104,h0⟩:=bindE h0
 obtain ⟨u105,h106,h0⟩:=bindE h0
 have h107:=q1o h106
 obtain ⟨nh104,h104⟩:=qgj h104
 refine q12 [(0,0)] [(0,0)] [.hs 0 3 0 p0.length,.d (.int .i64 0),.d (.int .i64 (p0.length : Int)),.d (.int .i64 r101),.d (.fn q1F q1C)] (.d (.tup [])) [(0,.dat 3 (e103.map qe))] [(0,.dat 3 (e103.map qe))] 1 (q7x nh104 q1 q1F q1C q1Ok p0 0 (p0.length : Int) r101 e103 h104) rfl rfl rfl (qx [(0,0)] [] [] rfl ⟨⟨_,rfl,.hs rfl (by decide) (ltd rfl)⟩,⟨_,rfl,.d (.refl _)⟩,⟨_,rfl,.d (.refl _)⟩,⟨_,rfl,.d (.refl _)⟩,⟨_,rfl,.d (.refl _)⟩,trivial⟩ ⟨⟨ltd rfl,.inr ⟨by decide,_,rfl,.dat _ _⟩⟩,trivial⟩) (qx [(0,0)] [] [] rfl ⟨⟨_,rfl,.d (.refl _)⟩,trivial⟩ ⟨⟨ltd rfl,.inr ⟨by decide,_,rfl,.dat _ _⟩⟩,trivial⟩) rfl ⟨.inl rfl,trivial⟩<|q7<|qf ?_
 obtain rfl:=someE h0
 exact ⟨.inl rfl,_,rfl,wkE [] [] [] rfl ⟨⟨_,rfl,.d (.refl _)⟩,trivial⟩ ⟨⟨ltd rfl,.inr ⟨by decide,_,rfl,.dat _ _⟩⟩,trivial⟩⟩
theorem q7q (p0 : List span_end) (r : List span_end) (h0 : q48  p0 = some r) : EvCall Try.prog tab 110 [.hs 0 3 0 p0.length] [(0,.dat 3 (p0.map qe))] 1 (.fn 118 [.ref 1 1 0 0]) [(0,.dat 3 (r.map qe)),(1,.cel 1 [[.hs 0 3 0 r.length]])] 2:=by
 unfold q48 at h0
 refine q18 Try.func110 rfl (by kernel_rfl) (by kernel_rfl) rfl<|q8<|q6<|q3m (.ref 1 1 0 0) (.cel 1 [[.hs 0 3 0 p0.length]]) rfl rfl<|qa rfl rfl<|q7<|q8<|q6<|q9 (.fn 118 [.ref 1 1 0 0]) rfl rfl<|qa rfl rfl<|q7<|qm ?_
 obtain rfl:=someE h0
 exact ⟨.inr rfl,_,rfl,wkE [(1,1)] [] [] rfl ⟨⟨_,rfl,(q5e (.cons (.ref rfl (by decide) (ltd rfl)) .nil))⟩,trivial⟩ ⟨⟨ltd rfl,.inr ⟨by decide,_,rfl,.dat _ _⟩⟩,⟨ltd rfl,.inr ⟨by decide,_,rfl,qq (.cons (.hs rfl (by decide) (ltd rfl)) rfl .nil)⟩⟩,trivial⟩⟩
theorem qh1 (p0 : List (List api_Span)) (r : List (List api_Span) × List span_end) (h0 : q81  p0 = some r) : EvCall Try.prog tab 96 [.hs 0 1 0 p0.length] [(0,.dat 1 (p0.map q2l))] 1 (.fn 118 [.ref 1 1 0 0]) [(0,.dat 1 (r.1.map q2l)),(1,.cel 1 [[.hs 2 3 0 r.2.length]]),(2,.dat 3 (r.2.map qe))] 3:=by
 unfold q81 at h0
 refine q18 Try.func96 rfl (by kernel_rfl) (by kernel_rfl) rfl<|q8<|q6<|qa rfl rfl<|q7<|q8<|q6<|qa rfl rfl<|q7<|q8<|q8<|q6<|q0 rfl rfl<|q9 (.d (.int .i64 (p0.length : Int))) rfl rfl<|q0 rfl rfl<|q7 ?_
 obtain ⟨m143,h144,h0⟩:=bindE h0
 refine qn (fun b145=>b145 = m143) (fun (b145 : List span_end)=>⟨[(3,.hs 1 3 0 b145.length)],[(0,.dat 1 (p0.map q2l)),(1,.dat 3 (b145.map qe))],2⟩) (by simp) ?_ ?_
 ·refine qo (q4f p0) (fun (a142 : Int × List span_end)=>⟨[(3,.hs 1 3 0 a142.2.length),(8,.hs 0 1 0 p0.length),(9,.d (.int .i64 (p0.length : Int))),(10,.d (.int .i64 a142.1))],[(0,.dat 1 (p0.map q2l)),(1,.dat 3 (a142.2.map qe))],2⟩) (0,[]) m143 h144 (wkE [] [] [1] rfl ⟨⟨_,rfl,.nil (by decide) (ltd rfl)⟩,⟨_,rfl,.hs rfl (by decide) (ltd rfl)⟩,⟨_,rfl,.d (.refl _)⟩,⟨_,rfl,.d (.refl _)⟩,trivial⟩ ⟨⟨ltd rfl,.inr ⟨by decide,_,rfl,.dat _ _⟩⟩,⟨ltd rfl,.inl ⟨by decide,_,by decide,rfl⟩⟩,trivial⟩) ?_
  intro a142 y140 h141
  unfold q4f at h141
  refine q8<|q6<|q9 (.d (.bool (decide (a142.1 < (p0.length : Int))))) rfl rfl<|q7<|q8 ?_
  refine qd rfl h141 (fun _ h141=>?_) (fun _ h141=>?_)
  ·refine qg<|q8 ?_
   obtain ⟨m165,h164,h141⟩:=bindE h141
   refine qn (fun b166=>b166 = m165) (fun (b166 : List span_end)=>⟨[(3,.hs 1 3 0 b166.length),(8,.hs 0 1 0 p0.length),(9,.d (.int .i64 (p0.length : Int))),(10,.d (.int .i64 a142.1))],[(0,.dat 1 (p0.map q2l)),(1,.dat 3 (b166.map qe))],2⟩) (by simp) ?_ ?_
   ·refine q8<|q6<|q0 rfl rfl ?_
    obtain ⟨v167,h168,h164⟩:=bindE h164
    refine qj h168 rfl rfl rfl rfl rfl rfl rfl<|qr (.d (.sl 2 (v167.map qh))) h168 rfl rfl rfl rfl rfl rfl<|qa rfl rfl<|qa rfl rfl<|q7<|q8<|q6<|q0 rfl rfl<|q1b rfl rfl rfl rfl<|q0 rfl rfl<|q7 ?_
    obtain ⟨m188,h189,h164⟩:=bindE h164
    refine ql<|qo (q5f v167 a142) (fun (a187 : Int × List span_end)=>⟨[(3,.hs 1 3 0 a187.2.length),(4,.d (.int .i64 a142.1)),(8,.hs 0 1 0 p0.length),(9,.d (.int .i64 (p0.length : Int))),(10,.d (.int .i64 a142.1)),(15,.d (.sl 2 (v167.map qh))),(16,.d (.int .i64 (v167.length : Int))),(17,.d (.int .i64 a187.1))],[(0,.dat 1 (p0.map q2l)),(1,.dat 3 (a187.2.map qe))],2⟩) (0,a142.2) m188 h189 (wkE [(1,1)] [] [] rfl ⟨⟨_,rfl,.hs rfl (by decide) (ltd rfl)⟩,⟨_,rfl,.d (.refl _)⟩,⟨_,rfl,.hs rfl (by decide) (ltd rfl)⟩,⟨_,rfl,.d (.refl _)⟩,⟨_,rfl,.d (.refl _)⟩,⟨_,rfl,.d (.refl _)⟩,⟨_,rfl,.d (.refl _)⟩,⟨_,rfl,.d (.refl _)⟩,trivial⟩ ⟨⟨ltd rfl,.inr ⟨by decide,_,rfl,.dat _ _⟩⟩,⟨ltd rfl,.inr ⟨by decide,_,rfl,.dat _ _⟩⟩,trivial⟩) ?_
    intro a187 y185 h186
    unfold q5f at h186
    refine q8<|q6<|q9 (.d (.bool (decide (a187.1 < (v167.length : Int))))) rfl rfl<|q7<|q8 ?_
    refine qd rfl h186 (fun _ h186=>?_) (fun _ h186=>?_)
    ·refine qg<|q8<|ql<|q8<|q6 ?_
     obtain ⟨v195,h196,h186⟩:=bindE h186
     refine q10 (enc:=qh) h196 rfl rfl rfl rfl rfl rfl<|q9 (.d (.agg [.int .i64 v195.Lo,.int .i64 v195.Hi])) rfl rfl<|q3q rfl rfl<|q1z 2 (.dat 2 [[.int .i64 v195.Lo,.int .i64 v195.Hi]]) rfl rfl<|q7<|q6<|q0 rfl rfl<|q9 (.ref 2 2 0 0) rfl rfl<|q9 (.d (.int .i64 v195.Lo)) rfl rfl<|q0 rfl rfl<|q9 (.d (.agg [.int .i64 v195.Lo,.int .i64 a142.1,.int .i64 1])) rfl rfl<|q9 (.ref 2 2 0 1) rfl rfl<|q9 (.d (.int .i64 v195.Hi)) rfl rfl<|q0 rfl rfl<|q9 (.d (.agg [.int .i64 v195.Hi,.int .i64 a142.1,.int .i64 (-1)])) rfl rfl<|q3m (.hs 3 3 0 [({at_:=v195.Lo,list_:=a142.1,by_:=1} : span_end),({at_:=v195.Hi,list_:=a142.1,by_:=(-1)} : span_end)].length) (.dat 3 ([({at_:=v195.Lo,list_:=a142.1,by_:=1} : span_end),({at_:=v195.Hi,list_:=a142.1,by_:=(-1)} : span_end)].map qe)) rfl rfl ?_
     obtain ⟨z197,h198,h186⟩:=bindE h186
     refine q5o (xs:=a187.2) (ys:=[({at_:=v195.Lo,list_:=a142.1,by_:=1} : span_end),({at_:=v195.Hi,list_:=a142.1,by_:=(-1)} : span_end)]) (enc:=qe) (.hs 3 3 0 [({at_:=v195.Lo,list_:=a142.1,by_:=1} : span_end),({at_:=v195.Hi,list_:=a142.1,by_:=(-1)} : span_end)].length) h198 rfl rfl rfl rfl rfl rfl rfl (q4b rfl rfl) rfl rfl rfl rfl<|qa rfl rfl<|q7<|qf<|qv<|q6<|q9 (.d (.int .i64 (w64 (a187.1 + 1)))) rfl rfl<|q0 rfl rfl<|q7<|qf ?_
     exact ⟨_,(Option.some.inj h186).symm,wkE [(1,4)] [] [] rfl ⟨⟨_,rfl,.hs rfl (by decide) (ltd rfl)⟩,⟨_,rfl,.d (.refl _)⟩,⟨_,rfl,.hs rfl (by decide) (ltd rfl)⟩,⟨_,rfl,.d (.refl _)⟩,⟨_,rfl,.d (.refl _)⟩,⟨_,rfl,.d (.refl _)⟩,⟨_,rfl,.d (.refl _)⟩,⟨_,rfl,.d (.refl _)⟩,trivial⟩ ⟨⟨ltd rfl,.inr ⟨by decide,_,rfl,.dat _ _⟩⟩,⟨ltd rfl,.inr ⟨by decide,_,rfl,.dat _ _⟩⟩,trivial⟩⟩
    ·refine qp ?_
     refine ⟨_,(Option.some.inj h186).symm,fun hm=>?_⟩
     subst hm
     obtain rfl:=someE h164
     exact ⟨_,rfl,wkE [(1,1)] [] [] rfl ⟨⟨_,rfl,.hs rfl (by decide) (ltd rfl)⟩,⟨_,rfl,.hs rfl (by decide) (ltd rfl)⟩,⟨_,rfl,.d (.refl _)⟩,⟨_,rfl,.d (.refl _)⟩,trivial⟩ ⟨⟨ltd rfl,.inr ⟨by decide,_,rfl,.dat _ _⟩⟩,⟨ltd rfl,.inr ⟨by decide,_,rfl,.dat _ _⟩⟩,trivial⟩⟩
   ·intro b166 hb
    subst hb
    refine q6<|q9 (.d (.int .i64 (w64 (a142.1 + 1)))) rfl rfl<|q0 rfl rfl<|q7<|qf ?_
    exact ⟨_,(Option.some.inj h141).symm,wkE [(1,1)] [] [] rfl ⟨⟨_,rfl,.hs rfl (by decide) (ltd rfl)⟩,⟨_,rfl,.hs rfl (by decide) (ltd rfl)⟩,⟨_,rfl,.d (.refl _)⟩,⟨_,rfl,.d (.refl _)⟩,trivial⟩ ⟨⟨ltd rfl,.inr ⟨by decide,_,rfl,.dat _ _⟩⟩,⟨ltd rfl,.inr ⟨by decide,_,rfl,.dat _ _⟩⟩,trivial⟩⟩
  ·refine qp ?_
   refine ⟨_,(Option.some.inj h141).symm,fun hm=>?_⟩
   subst hm
   exact ⟨_,rfl,wkE [(1,1)] [] [] rfl ⟨⟨_,rfl,.hs rfl (by decide) (ltd rfl)⟩,trivial⟩ ⟨⟨ltd rfl,.inr ⟨by decide,_,rfl,.dat _ _⟩⟩,⟨ltd rfl,.inr ⟨by decide,_,rfl,.dat _ _⟩⟩,trivial⟩⟩
 ·intro b145 hb
  subst hb
  refine q8<|q6<|q0 rfl rfl ?_
  obtain ⟨e199,h200,h0⟩:=bindE h0
  obtain ⟨u201,h202,h0⟩:=bindE h0
  have h203:=q1o h202
  refine q12 [(0,1)] [(0,1),(1,0)] [.hs 1 3 0 b145.length,.d (.fn 109 [])] (.d (.tup [])) [(1,.dat 3 (e199.map qe))] [(1,.dat 3 (e199.map qe)),(0,.dat 1 (p0.map q2l))] 2 (q7e (fun x0 x1=>q8l x0 x1) 109 [] (fun x0 x1 r hr=>qii x0 x1 r hr) b145 e199 h200) rfl rfl rfl (qx [(0,1)] [] [] rfl ⟨⟨_,rfl,.hs rfl (by decide) (ltd rfl)⟩,⟨_,rfl,.d (.refl _)⟩,trivial⟩ ⟨⟨ltd rfl,.inr ⟨by decide,_,rfl,.dat _ _⟩⟩,trivial⟩) (qx [(0,1),(1,0)] [] [] rfl ⟨⟨_,rfl,.d (.refl _)⟩,trivial⟩ ⟨⟨ltd rfl,.inr ⟨by decide,_,rfl,.dat _ _⟩⟩,trivial⟩) rfl ⟨.inl rfl,.inr ⟨rfl,rfl⟩,trivial⟩<|q7<|q8<|q6<|q0 rfl rfl ?_
  obtain ⟨e204,h205,h0⟩:=bindE h0
  obtain ⟨u206,h207,h0⟩:=bindE h0
  have h208:=q1o h207
  refine q12 [(0,1)] [(0,2),(1,0),(2,1)] [.hs 1 3 0 b145.length] (.fn 118 [.ref 2 1 0 0]) [(1,.dat 3 (e204.map qe)),(2,.cel 1 [[.hs 1 3 0 e204.length]])] [(1,.dat 3 (e204.map qe)),(2,.cel 1 [[.hs 1 3 0 e204.length]]),(0,.dat 1 (p0.map q2l))] 3 (q7q e199 e204 h205) rfl rfl rfl (qx [(0,1)] [] [] rfl ⟨⟨_,rfl,q16 (by simp [h203]) rfl (by decide) (ltd rfl)⟩,trivial⟩ ⟨⟨ltd rfl,.inr ⟨by decide,_,rfl,.dat _ _⟩⟩,trivial⟩) (qx [(0,2),(1,0),(2,1)] [] [] rfl ⟨⟨_,rfl,(q5e (.cons (.ref rfl (by decide) (ltd rfl)) .nil))⟩,trivial⟩ ⟨⟨ltd rfl,.inr ⟨by decide,_,rfl,.dat _ _⟩⟩,⟨ltd rfl,.inr ⟨by decide,_,rfl,qq (.cons (.hs rfl (by decide) (ltd rfl)) rfl .nil)⟩⟩,trivial⟩) rfl ⟨.inl rfl,.inl rfl,.inr ⟨rfl,rfl⟩,trivial⟩<|qa rfl rfl<|q7<|qm ?_
  obtain rfl:=someE h0
  exact ⟨.inr rfl,_,rfl,wkE [(1,2),(2,1)] [] [] rfl ⟨⟨_,rfl,(q5e (.cons (.ref rfl (by decide) (ltd rfl)) .nil))⟩,trivial⟩ ⟨⟨ltd rfl,.inr ⟨by decide,_,rfl,.dat _ _⟩⟩,⟨ltd rfl,.inr ⟨by decide,_,rfl,qq (.cons (.hs rfl (by decide) (ltd rfl)) rfl .nil)⟩⟩,⟨ltd rfl,.inr ⟨by decide,_,rfl,.dat _ _⟩⟩,trivial⟩⟩
theorem qf2 (p0 : Int) (p1 : Bool) (p2 : Int) (p3 : List api_Span) (r : Bool × Int × List api_Span) (h0 : q6y  p0 p1 p2 p3 = some r) : EvCall Try.prog tab 95 [.d (.int .i64 p0),.ref 0 1 0 0,.ref 1 1 0 0,.ref 2 1 0 0] [(0,.dat 1 [[.bool p1]]),(1,.dat 1 [[.int .i64 p2]]),(2,.cel 1 [[.hs 3 2 0 p3.length]]),(3,.dat 2 (p3.map qh))] 4 (.d (.tup [])) [(0,.dat 1 [[.bool r.1]]),(1,.dat 1 [[.int .i64 r.2.1]]),(2,.cel 1 [[.hs 4 2 0 r.2.2.length]]),(4,.dat 2 (r.2.2.map qh))] 5:=by
 unfold q6y at h0
 refine q18 Try.func95 rfl (by kernel_rfl) (by kernel_rfl) rfl<|q8<|q8<|q6<|q9 (.d (.bool p1)) rfl rfl<|q9 (.d (.bool (!p1))) rfl rfl ?_
 obtain ⟨c101,h102,h0⟩:=bindE h0
 refine qt 5 (fun A st=>∃ (j103 j104 j105 j106 : V),st = A [(12,.d (.bool c101)),(11,j106),(10,j105),(9,j104),(8,j103)]) ?_ ?_
 ·refine qz rfl rfl h102 (fun h102=>?_) (fun h102=>?_)
  ·refine qc rfl<|qc rfl<|qc rfl<|q9 (.d (.bool true)) rfl rfl<|q7 ?_
   obtain rfl:=someE h102
   exact ⟨_,_,_,_,rfl⟩
  ·refine q9 (.d (.int .i64 p2)) rfl rfl<|q0 rfl rfl<|q9 (.d (.bool (p2 == p0))) rfl rfl<|q9 (.d (.bool (p2 == p0))) rfl rfl<|q7 ?_
   obtain rfl:=someE h102
   exact ⟨_,_,_,_,rfl⟩
 ·rintro _ ⟨j103,j104,j105,j106,rfl⟩
  refine q7 ?_
  refine qd rfl h0 (fun _ h0=>?_) (fun _ h0=>?_)
  ·refine qm ?_
   obtain rfl:=someE h0
   exact ⟨.inr rfl,_,rfl,wkE [(4,3)] [] [] rfl ⟨⟨_,rfl,.d (.refl _)⟩,trivial⟩ ⟨⟨ltd rfl,.inr ⟨by decide,_,rfl,.dat _ _⟩⟩,⟨ltd rfl,.inr ⟨by decide,_,rfl,.dat _ _⟩⟩,⟨ltd rfl,.inr ⟨by decide,_,rfl,qq (.cons (.hs rfl (by decide) (ltd rfl)) rfl .nil)⟩⟩,⟨ltd rfl,.inr ⟨by decide,_,rfl,.dat _ _⟩⟩,trivial⟩⟩
  ·refine qg<|q8<|q6<|q9 (.hs 3 2 0 p3.length) rfl rfl<|q9 (.d (.int .i64 (p3.length : Int))) rfl rfl<|qa rfl rfl<|q7<|q8<|qk [(some [],[]),(some [],[]),(some [1],[]),(some [3],[]),(some [],[]),(some [],[]),(some [],[]),(some [],[]),(some [2],[]),(some [],[]),(some [],[]),(some [],[])] (by kernel_rfl)<|q0 rfl rfl<|q9 (.d (.bool (decide ((p3.length : Int) > 0)))) rfl rfl ?_
   obtain ⟨c109,h110,h0⟩:=bindE h0
   refine qt 10 (fun A st=>∃ (j111 j112 j113 j114 j115 j116 j117 j118 j119 : V),st = A [(26,.d (.bool c109)),(25,j119),(24,j118),(23,j117),(22,j116),(21,j115),(20,j114),(19,j113),(18,j112),(17,j111)]) ?_ ?_
   ·refine qz rfl rfl h110 (fun h110=>?_) (fun h110=>?_)
    ·refine q9 (.hs 3 2 0 p3.length) rfl rfl<|q0 rfl rfl<|q9 (.d (.int .i64 (w64 ((p3.length : Int) - 1)))) rfl rfl ?_
     obtain ⟨v120,h121,h110⟩:=bindE h110
     refine qj h121 rfl rfl rfl rfl rfl rfl rfl<|q9 (.ref 3 2 (w64 ((p3.length : Int) - 1)).toNat 1) rfl rfl<|qr (.d (.int .i64 v120.Hi)) h121 rfl rfl rfl rfl rfl rfl<|q9 (.d (.int .i64 p2)) rfl rfl<|q9 (.d (.bool (v120.Hi == p2))) rfl rfl<|q9 (.d (.bool (v120.Hi == p2))) rfl rfl<|q7 ?_
     obtain rfl:=someE h110
     exact ⟨_,_,_,_,_,_,_,_,_,rfl⟩
    ·refine qc rfl<|qc rfl<|qc rfl<|qc rfl<|qc rfl<|qc rfl<|qc rfl<|qc rfl<|q9 (.d (.bool false)) rfl rfl<|q7 ?_
     obtain rfl:=someE h110
     exact ⟨_,_,_,_,_,_,_,_,_,rfl⟩
   ·rintro _ ⟨j111,j112,j113,j114,j115,j116,j117,j118,j119,rfl⟩
    refine q7 ?_
    refine qd rfl h0 (fun _ h0=>?_) (fun _ h0=>?_)
    ·refine q6<|q9 (.hs 3 2 0 p3.length) rfl rfl<|q0 rfl rfl<|q9 (.d (.int .i64 (w64 ((p3.length : Int) - 1)))) rfl rfl<|q0 rfl rfl ?_
     obtain ⟨v122,h123,h0⟩:=bindE h0
     refine qj h123 rfl rfl rfl rfl rfl rfl rfl<|q9 (.ref 3 2 (w64 ((p3.length : Int) - 1)).toNat 1) rfl rfl<|q19 (ds:=[.int .i64 p0]) ({Lo:=v122.Lo,Hi:=p0} : api_Span) h123 rfl rfl rfl rfl rfl rfl rfl rfl (leb rfl) rfl<|q7<|qf ?_
     obtain rfl:=someE h0
     exact ⟨.inl rfl,_,rfl,wkE [(4,3)] [] [] rfl ⟨⟨_,rfl,.d (.refl _)⟩,trivial⟩ ⟨⟨ltd rfl,.inr ⟨by decide,_,rfl,.dat _ _⟩⟩,⟨ltd rfl,.inr ⟨by decide,_,rfl,.dat _ _⟩⟩,⟨ltd rfl,.inr ⟨by decide,_,rfl,qq (.cons (q16 (by simp) rfl (by decide) (ltd rfl)) rfl .nil)⟩⟩,⟨ltd rfl,.inr ⟨by decide,_,rfl,.dat _ _⟩⟩,trivial⟩⟩
    ·refine q6<|q9 (.hs 3 2 0 p3.length) rfl rfl<|q9 (.d (.int .i64 p2)) rfl rfl<|q0 rfl rfl<|q9 (.d (.agg [.int .i64 p2,.int .i64 p0])) rfl rfl<|q3m (.hs 4 2 0 [({Lo:=p2,Hi:=p0} : api_Span)].length) (.dat 2 ([({Lo:=p2,Hi:=p0} : api_Span)].map qh)) rfl rfl ?_
     obtain ⟨z124,h125,h0⟩:=bindE h0
     refine q5o (xs:=p3) (ys:=[({Lo:=p2,Hi:=p0} : api_Span)]) (enc:=qh) (.hs 4 2 0 [({Lo:=p2,Hi:=p0} : api_Span)].length) h125 rfl rfl rfl rfl rfl rfl rfl (q4b rfl rfl) rfl rfl rfl rfl<|q1z 2 (.cel 1 [[.hs 5 2 0 z124.length]]) rfl rfl<|q7<|qf ?_
     obtain rfl:=someE h0
     exact ⟨.inl rfl,_,rfl,wkE [(4,5)] [] [] rfl ⟨⟨_,rfl,.d (.refl _)⟩,trivial⟩ ⟨⟨ltd rfl,.inr ⟨by decide,_,rfl,.dat _ _⟩⟩,⟨ltd rfl,.inr ⟨by decide,_,rfl,.dat _ _⟩⟩,⟨ltd rfl,.inr ⟨by decide,_,rfl,qq (.cons (.hs rfl (by decide) (ltd rfl)) rfl .nil)⟩⟩,⟨ltd rfl,.inr ⟨by decide,_,rfl,.dat _ _⟩⟩,trivial⟩⟩
theorem qlr (p0 : List api_Span) (p1 : List api_Span) (p2 : Bool→Bool→Option Bool) (p2F : FuncId) (p2C : List DV) (p2Ok : ∀ (x0 : Bool) (x1 : Bool) (r : Bool),p2 x0 x1 = some r→Pure Try.prog tab p2F ([.bool x0,.bool x1] ++ p2C) (.bool r)) (r : List api_Span) (h0 : q98 p0 p1 p2 = some r) : Pure Try.prog tab 87 [.sl 2 (p0.map qh),.sl 2 (p1.map qh),.fn p2F p2C] (.sl 2 (r.map qh)):=by
 unfold q98 at h0
 refine qu Try.func87 rfl (by kernel_rfl) (by kernel_rfl) rfl<|q8<|q6<|q3m (.ref 0 1 0 0) (.dat 1 [[.fn p2F p2C]]) rfl rfl<|qa rfl rfl<|q7<|q8<|q6<|q3q rfl rfl<|q7<|q8<|q6<|q3q rfl rfl<|q7<|q8<|q6<|q3q rfl rfl<|q3q rfl rfl<|q1z 3 (.dat 1 [[.int .i64 0]]) rfl rfl<|q1z 4 (.dat 1 [[.bool false]]) rfl rfl<|q7<|q8<|q6<|q9 (.fn 95 [.ref 4 1 0 0,.ref 3 1 0 0,.ref 2 1 0 0]) rfl rfl<|q3q rfl rfl<|q1z 5 (.cel 1 [[.fn 95 [.ref 4 1 0 0,.ref 3 1 0 0,.ref 2 1 0 0]]]) rfl rfl<|q7<|q8<|q8<|q6<|q0 rfl rfl<|q0 rfl rfl<|q3m (.hs 6 1 0 [p0,p1].length) (.dat 1 ([p0,p1].map q2l)) rfl rfl ?_
 obtain ⟨e1,h2,h0⟩:=bindE h0
 obtain ⟨u3,h4,h0⟩:=bindE h0
 have h5:=q1o h4
 refine q12 [(0,6)] [(0,3),(1,3),(2,3),(3,3),(4,3),(5,3),(6,0),(7,1),(8,2)] [.hs 6 1 0 [p0,p1].length] (.fn 118 [.ref 7 1 0 0]) [(6,.dat 1 (e1.1.map q2l)),(7,.cel 1 [[.hs 8 3 0 e1.2.length]]),(8,.dat 3 (e1.2.map qe))] [(6,.dat 1 (e1.1.map q2l)),(7,.cel 1 [[.hs 8 3 0 e1.2.length]]),(8,.dat 3 (e1.2.map qe)),(0,.dat 1 [[.fn p2F p2C]]),(1,.dat 2 [[0,0].flatMap (eI .i64)]),(2,.dat 1 [[.nilsl]]),(3,.dat 1 [[.int .i64 0]]),(4,.dat 1 [[.bool false]]),(5,.cel 1 [[.fn 95 [.ref 4 1 0 0,.ref 3 1 0 0,.ref 2 1 0 0]]])] 9 (qh1 [p0,p1] e1 h2) rfl rfl rfl (qx [(0,6)] [] [] rfl ⟨⟨_,rfl,.hs rfl (by decide) (ltd rfl)⟩,trivial⟩ ⟨⟨ltd rfl,.inr ⟨by decide,_,rfl,.dat _ _⟩⟩,trivial⟩) (qx [(0,3),(1,3),(2,3),(3,3),(4,3),(5,3),(6,0),(7,1),(8,2)] [] [] rfl ⟨⟨_,rfl,(q5e (.cons (.ref rfl (by decide) (ltd rfl)) .nil))⟩,trivial⟩ ⟨⟨ltd rfl,.inr ⟨by decide,_,rfl,.dat _ _⟩⟩,⟨ltd rfl,.inr ⟨by decide,_,rfl,qq (.cons (.hs rfl (by decide) (ltd rfl)) rfl .nil)⟩⟩,⟨ltd rfl,.inr ⟨by decide,_,rfl,.dat _ _⟩⟩,trivial⟩) rfl ⟨.inl rfl,.inl rfl,.inl rfl,.inr ⟨rfl,rfl⟩,.inr ⟨rfl,rfl⟩,.inr ⟨rfl,rfl⟩,.inr ⟨rfl,rfl⟩,.inr ⟨rfl,rfl⟩,.inr ⟨rfl,rfl⟩,trivial⟩<|q7<|ql ?_
 obtain ⟨m152,h151,h0⟩:=bindE h0
 refine qmz (fun b153=>b153 = m152) (fun (b153 : List api_Span)=>⟨[(8,.ref 0 1 0 0)],[(0,.cel 1 [[.hs 1 2 0 b153.length]]),(1,.dat 2 (b153.map qh))],2⟩) ?_ ?_
 ·refine q89 (st':=⟨[(5,.ref 0 1 0 0),(6,.d (.nilsl)),(7,.ref 1 2 0 0),(8,.ref 2 1 0 0),(9,.ref 3 1 0 0),(10,.ref 4 1 0 0),(11,.ref 5 1 0 0),(17,.fn 118 [.ref 6 1 0 0])],[(0,.dat 1 [[.fn p2F p2C]]),(1,.dat 2 [[0,0].flatMap (eI .i64)]),(2,.dat 1 [[.nilsl]]),(3,.dat 1 [[.int .i64 0]]),(4,.dat 1 [[.bool false]]),(5,.cel 1 [[.fn 95 [.ref 4 1 0 0,.ref 3 1 0 0,.ref 2 1 0 0]]]),(6,.cel 1 [[.hs 7 3 0 e1.2.length]]),(7,.dat 3 (e1.2.map qe))],8⟩) (wkE [(0,0),(1,1),(2,2),(3,3),(4,4),(5,5),(6,7),(7,8)] [] [] rfl ⟨⟨_,rfl,.ref rfl (by decide) (ltd rfl)⟩,⟨_,rfl,.d (.refl _)⟩,⟨_,rfl,.ref rfl (by decide) (ltd rfl)⟩,⟨_,rfl,.ref rfl (by decide) (ltd rfl)⟩,⟨_,rfl,.ref rfl (by decide) (ltd rfl)⟩,⟨_,rfl,.ref rfl (by decide) (ltd rfl)⟩,⟨_,rfl,.ref rfl (by decide) (ltd rfl)⟩,⟨_,rfl,(q5e (.cons (.ref rfl (by decide) (ltd rfl)) .nil))⟩,trivial⟩ ⟨⟨ltd rfl,.inr ⟨by decide,_,rfl,.dat _ _⟩⟩,⟨ltd rfl,.inr ⟨by decide,_,rfl,.dat _ _⟩⟩,⟨ltd rfl,.inr ⟨by decide,_,rfl,.dat _ _⟩⟩,⟨ltd rfl,.inr ⟨by decide,_,rfl,.dat _ _⟩⟩,⟨ltd rfl,.inr ⟨by decide,_,rfl,.dat _ _⟩⟩,⟨ltd rfl,.inr ⟨by decide,_,rfl,qq (.cons ((q5e (.cons (.ref rfl (by decide) (ltd rfl)) (.cons (.ref rfl (by decide) (ltd rfl)) (.cons (.ref rfl (by decide) (ltd rfl)) .nil))))) rfl .nil)⟩⟩,⟨ltd rfl,.inr ⟨by decide,_,rfl,qq (.cons (.hs rfl (by decide) (ltd rfl)) rfl .nil)⟩⟩,⟨ltd rfl,.inr ⟨by decide,_,rfl,.dat _ _⟩⟩,trivial⟩) ?_ (by simp)
  refine qj4 [.ref 6 1 0 0] (.inl rfl) Try.func118 rfl (by kernel_rfl) (by kernel_rfl) rfl ?_
  intro A154 B155 hA154 hB155
  refine q8<|q6<|q9 (.hs 7 3 0 e1.2.length) rfl rfl<|q9 (.d (.int .i64 (e1.2.length : Int))) rfl rfl<|q0 rfl rfl<|q7 ?_
  obtain ⟨m229,h230,h151⟩:=bindE h151
  refine ql<|qo (q6f e1 p2) (fun (a228 : Int × List Int × Int × Bool × List api_Span)=>⟨[(0,.yld 8),(5,.hs 7 3 0 e1.2.length),(6,.d (.int .i64 (e1.2.length : Int))),(7,.d (.int .i64 a228.1))],[(0,.dat 1 [[.fn p2F p2C]]),(1,.dat 2 [a228.2.1.flatMap (eI .i64)]),(2,.cel 1 [[.hs 9 2 0 a228.2.2.2.2.length]]),(3,.dat 1 [[.int .i64 a228.2.2.1]]),(4,.dat 1 [[.bool a228.2.2.2.1]]),(5,.cel 1 [[.fn 95 [.ref 4 1 0 0,.ref 3 1 0 0,.ref 2 1 0 0]]]),(6,.cel 1 [[.hs 7 3 0 e1.2.length]]),(7,.dat 3 (e1.2.map qe)),(8,.loop [(5,.ref 0 1 0 0),(6,.d (.nilsl)),(7,.ref 1 2 0 0),(8,.ref 2 1 0 0),(9,.ref 3 1 0 0),(10,.ref 4 1 0 0),(11,.ref 5 1 0 0),(17,.fn 118 [.ref 6 1 0 0])] [18] A154 B155 .ready none),(9,.dat 2 (a228.2.2.2.2.map qh))],10⟩) (0,[0,0],0,false,[]) m229 h230 (wkE [] [] [9] rfl ⟨⟨_,rfl,.yld rfl (by decide) (ltd rfl)⟩,⟨_,rfl,.hs rfl (by decide) (ltd rfl)⟩,⟨_,rfl,.d (.refl _)⟩,⟨_,rfl,.d (.refl _)⟩,trivial⟩ ⟨⟨ltd rfl,.inr ⟨by decide,_,rfl,.dat _ _⟩⟩,⟨ltd rfl,.inr ⟨by decide,_,rfl,.dat _ _⟩⟩,⟨ltd rfl,.inr ⟨by decide,_,rfl,q79 (.cons (.nil (by decide) (ltd rfl)) rfl .nil)⟩⟩,⟨ltd rfl,.inr ⟨by decide,_,rfl,.dat _ _⟩⟩,⟨ltd rfl,.inr ⟨by decide,_,rfl,.dat _ _⟩⟩,⟨ltd rfl,.inr ⟨by decide,_,rfl,qq (.cons ((q5e (.cons (.ref rfl (by decide) (ltd rfl)) (.cons (.ref rfl (by decide) (ltd rfl)) (.cons (.ref rfl (by decide) (ltd rfl)) .nil))))) rfl .nil)⟩⟩,⟨ltd rfl,.inr ⟨by decide,_,rfl,qq (.cons (.hs rfl (by decide) (ltd rfl)) rfl .nil)⟩⟩,⟨ltd rfl,.inr ⟨by decide,_,rfl,.dat _ _⟩⟩,⟨ltd rfl,.inr ⟨by decide,_,rfl,q5z (.cons rfl (.ref rfl (by decide) (ltd rfl)) (.cons rfl (.d (.refl _)) (.cons rfl (.ref rfl (by decide) (ltd rfl)) (.cons rfl (.ref rfl (by decide) (ltd rfl)) (.cons rfl (.ref rfl (by decide) (ltd rfl)) (.cons rfl (.ref rfl (by decide) (ltd rfl)) (.cons rfl (.ref rfl (by decide) (ltd rfl)) (.cons rfl ((q5e (.cons (.ref rfl (by decide) (ltd rfl)) .nil))) .nil))))))))⟩⟩,⟨ltd rfl,.inl ⟨by decide,_,by decide,rfl⟩⟩,trivial⟩) ?_
  intro a228 y226 h227
  unfold q6f at h227
  refine q8<|q6<|q9 (.d (.bool (decide (a228.1 < (e1.2.length : Int))))) rfl rfl<|q7<|q8 ?_
  refine qd rfl h227 (fun _ h227=>?_) (fun _ h227=>?_)
  ·refine qg<|q8<|ql<|q8<|q6 ?_
   obtain ⟨v249,h250,h227⟩:=bindE h227
   refine qj h250 rfl rfl rfl rfl rfl rfl rfl<|qr (.d (.agg [.int .i64 v249.at_,.int .i64 v249.list_,.int .i64 v249.by_])) h250 rfl rfl rfl rfl rfl rfl<|q3q rfl rfl<|q1z 10 (.dat 3 [[.int .i64 v249.at_,.int .i64 v249.list_,.int .i64 v249.by_]]) rfl rfl<|q7<|q8<|q6<|q0 rfl rfl<|q9 (.d (.agg [.int .i64 v249.at_,.int .i64 v249.list_,.int .i64 v249.by_])) rfl rfl ?_
   obtain ⟨m264,h263,h227⟩:=bindE h227
   refine qj3 (fun b265=>b265 = m264) (fun (b265 : List Int × Bool × List api_Span)=>⟨[(0,.yld 8),(5,.hs 7 3 0 e1.2.length),(6,.d (.int .i64 (e1.2.length : Int))),(7,.d (.int .i64 a228.1)),(13,.d (.bool true))],[(0,.dat 1 [[.fn p2F p2C]]),(1,.dat 2 [b265.1.flatMap (eI .i64)]),(2,.cel 1 [[.hs 9 2 0 b265.2.2.length]]),(3,.dat 1 [[.int .i64 v249.at_]]),(4,.dat 1 [[.bool b265.2.1]]),(5,.cel 1 [[.fn 95 [.ref 4 1 0 0,.ref 3 1 0 0,.ref 2 1 0 0]]]),(6,.cel 1 [[.hs 7 3 0 e1.2.length]]),(7,.dat 3 (e1.2.map qe)),(8,.loop [(5,.ref 0 1 0 0),(6,.d (.nilsl)),(7,.ref 1 2 0 0),(8,.ref 2 1 0 0),(9,.ref 3 1 0 0),(10,.ref 4 1 0 0),(11,.ref 5 1 0 0),(17,.fn 118 [.ref 6 1 0 0])] [18] A154 B155 .ready none),(9,.dat 2 (b265.2.2.map qh))],10⟩) hA154 hB155 rfl rfl rfl rfl rfl rfl ?_ ?_
   ·refine q6<|q3q rfl rfl<|q1z 11 (.dat 3 [[.int .i64 v249.at_,.int .i64 v249.list_,.int .i64 v249.by_]]) rfl rfl<|q7<|qf ?_
    refine ⟨rfl,_,rfl,?_⟩
    refine ql<|q8<|q6<|q9 (.fn 95 [.ref 4 1 0 0,.ref 3 1 0 0,.ref 2 1 0 0]) rfl rfl<|q9 (.ref 11 3 0 0) rfl rfl<|q9 (.d (.int .i64 v249.at_)) rfl rfl ?_
    obtain ⟨e266,h267,h263⟩:=bindE h263
    refine q12 [(0,4),(1,3),(2,2),(3,9)] [(0,5),(1,5),(2,2),(3,1),(4,0),(5,5),(6,5),(7,5),(8,5),(9,3),(10,5),(11,5),(12,4)] [.d (.int .i64 v249.at_),.ref 4 1 0 0,.ref 3 1 0 0,.ref 2 1 0 0] (.d (.tup [])) [(2,.cel 1 [[.hs 12 2 0 e266.2.2.length]]),(3,.dat 1 [[.int .i64 e266.2.1]]),(4,.dat 1 [[.bool e266.1]]),(12,.dat 2 (e266.2.2.map qh))] [(2,.cel 1 [[.hs 12 2 0 e266.2.2.length]]),(3,.dat 1 [[.int .i64 e266.2.1]]),(4,.dat 1 [[.bool e266.1]]),(12,.dat 2 (e266.2.2.map qh)),(0,.dat 1 [[.fn p2F p2C]]),(1,.dat 2 [a228.2.1.flatMap (eI .i64)]),(5,.cel 1 [[.fn 95 [.ref 4 1 0 0,.ref 3 1 0 0,.ref 2 1 0 0]]]),(6,.cel 1 [[.hs 7 3 0 e1.2.length]]),(7,.dat 3 (e1.2.map qe)),(8,.loop [(5,.ref 0 1 0 0),(6,.d (.nilsl)),(7,.ref 1 2 0 0),(8,.ref 2 1 0 0),(9,.ref 3 1 0 0),(10,.ref 4 1 0 0),(11,.ref 5 1 0 0),(17,.fn 118 [.ref 6 1 0 0])] [18] A154 B155 .busy none),(10,.dat 3 [[.int .i64 v249.at_,.int .i64 v249.list_,.int .i64 v249.by_]]),(11,.dat 3 [[.int .i64 v249.at_,.int .i64 v249.list_,.int .i64 v249.by_]])] 13 (qf2 v249.at_ a228.2.2.2.1 a228.2.2.1 a228.2.2.2.2 e266 h267) rfl rfl rfl (qx [(0,4),(1,3),(2,2),(3,9)] [] [] rfl ⟨⟨_,rfl,.d (.refl _)⟩,⟨_,rfl,.ref rfl (by decide) (ltd rfl)⟩,⟨_,rfl,.ref rfl (by decide) (ltd rfl)⟩,⟨_,rfl,.ref rfl (by decide) (ltd rfl)⟩,trivial⟩ ⟨⟨ltd rfl,.inr ⟨by decide,_,rfl,.dat _ _⟩⟩,⟨ltd rfl,.inr ⟨by decide,_,rfl,.dat _ _⟩⟩,⟨ltd rfl,.inr ⟨by decide,_,rfl,qq (.cons (.hs rfl (by decide) (ltd rfl)) rfl .nil)⟩⟩,⟨ltd rfl,.inr ⟨by decide,_,rfl,.dat _ _⟩⟩,trivial⟩) (qx [(0,5),(1,5),(2,2),(3,1),(4,0),(5,5),(6,5),(7,5),(8,5),(9,3),(10,5),(11,5),(12,4)] [] [] rfl ⟨⟨_,rfl,.d (.refl _)⟩,trivial⟩ ⟨⟨ltd rfl,.inr ⟨by decide,_,rfl,qq (.cons (.hs rfl (by decide) (ltd rfl)) rfl .nil)⟩⟩,⟨ltd rfl,.inr ⟨by decide,_,rfl,.dat _ _⟩⟩,⟨ltd rfl,.inr ⟨by decide,_,rfl,.dat _ _⟩⟩,⟨ltd rfl,.inr ⟨by decide,_,rfl,.dat _ _⟩⟩,trivial⟩) rfl ⟨.inl rfl,.inl rfl,.inl rfl,.inl rfl,.inr ⟨rfl,rfl⟩,.inr ⟨rfl,rfl⟩,.inr ⟨rfl,rfl⟩,.inr ⟨rfl,rfl⟩,.inr ⟨rfl,rfl⟩,.inr ⟨rfl,rfl⟩,.inr ⟨rfl,rfl⟩,.inr ⟨rfl,rfl⟩,trivial⟩<|q7<|q8<|qk [(some [1],[1]),(some [],[]),(some [],[]),(some [11],[]),(some [],[]),(some [1],[]),(some [],[]),(some [11],[]),(some [],[])] (by kernel_rfl)<|q9 (.ref 11 3 0 1) rfl rfl<|q9 (.d (.int .i64 v249.list_)) rfl rfl ?_
    obtain ⟨v268,h269,h263⟩:=bindE h263
    refine qhi h269 rfl rfl rfl rfl rfl<|qkv (enc:=(eI .i64)) (.d (.int .i64 v268)) h269 (fun _=>rfl) rfl rfl rfl rfl rfl rfl<|q9 (.ref 11 3 0 2) rfl rfl<|q9 (.d (.int .i64 v249.by_)) rfl rfl<|q9 (.d (.int .i64 (w64 (v268 + v249.by_)))) rfl rfl ?_
    obtain ⟨v270,h271,h263⟩:=bindE h263
    refine qhi h271 rfl rfl rfl rfl rfl<|qrz (enc:=(eI .i64)) (w64 (v268 + v249.by_)) h271 (fun _=>rfl) rfl rfl rfl rfl rfl rfl rfl rfl<|q7<|qk [(some [4],[4]),(some [3],[3]),(some [],[]),(some [],[]),(some [1],[]),(some [],[]),(some [],[]),(some [1],[]),(some [],[]),(some [0],[]),(some [11],[]),(some [],[])] (by kernel_rfl)<|q9 (.ref 11 3 0 0) rfl rfl<|q9 (.d (.int .i64 v249.at_)) rfl rfl<|q9 (.d (.fn p2F p2C)) rfl rfl ?_
    obtain ⟨v272,h273,h263⟩:=bindE h263
    refine qhi h273 rfl rfl rfl rfl rfl<|qkv (enc:=(eI .i64)) (.d (.int .i64 v272)) h273 (fun _=>rfl) rfl rfl rfl rfl rfl rfl<|q9 (.d (.bool (decide (v272 > 0)))) rfl rfl ?_
    obtain ⟨v274,h275,h263⟩:=bindE h263
    refine qhi h275 rfl rfl rfl rfl rfl<|qkv (enc:=(eI .i64)) (.d (.int .i64 v274)) h275 (fun _=>rfl) rfl rfl rfl rfl rfl rfl<|q9 (.d (.bool (decide (v274 > 0)))) rfl rfl ?_
    obtain ⟨r276,h277,h263⟩:=bindE h263
    refine q6i [.d (.bool (decide (v272 > 0))),.d (.bool (decide (v274 > 0)))] (p2Ok (decide (v272 > 0)) (decide (v274 > 0)) r276 h277) rfl rfl rfl (.inl rfl)<|q1z 3 (.dat 1 [[.int .i64 v249.at_]]) rfl rfl<|q1z 4 (.dat 1 [[.bool r276]]) rfl rfl<|q7<|qf<|qv<|qf ?_
    refine ⟨_,rfl,?_⟩
    obtain rfl:=someE h263
    exact ⟨_,rfl,wkE [(9,12)] [] [] rfl ⟨⟨_,rfl,.yld rfl (by decide) (ltd rfl)⟩,⟨_,rfl,.hs rfl (by decide) (ltd rfl)⟩,⟨_,rfl,.d (.refl _)⟩,⟨_,rfl,.d (.refl _)⟩,⟨_,rfl,.d (.refl _)⟩,trivial⟩ ⟨⟨ltd rfl,.inr ⟨by decide,_,rfl,.dat _ _⟩⟩,⟨ltd rfl,.inr ⟨by decide,_,rfl,.dat _ _⟩⟩,⟨ltd rfl,.inr ⟨by decide,_,rfl,qq (.cons (.hs rfl (by decide) (ltd rfl)) rfl .nil)⟩⟩,⟨ltd rfl,.inr ⟨by decide,_,rfl,.dat _ _⟩⟩,⟨ltd rfl,.inr ⟨by decide,_,rfl,.dat _ _⟩⟩,⟨ltd rfl,.inr ⟨by decide,_,rfl,qq (.cons ((q5e (.cons (.ref rfl (by decide) (ltd rfl)) (.cons (.ref rfl (by decide) (ltd rfl)) (.cons (.ref rfl (by decide) (ltd rfl)) .nil))))) rfl .nil)⟩⟩,⟨ltd rfl,.inr ⟨by decide,_,rfl,qq (.cons (.hs rfl (by decide) (ltd rfl)) rfl .nil)⟩⟩,⟨ltd rfl,.inr ⟨by decide,_,rfl,.dat _ _⟩⟩,⟨ltd rfl,.inr ⟨by decide,_,rfl,q5z (.cons rfl (.ref rfl (by decide) (ltd rfl)) (.cons rfl (.d (.refl _)) (.cons rfl (.ref rfl (by decide) (ltd rfl)) (.cons rfl (.ref rfl (by decide) (ltd rfl)) (.cons rfl (.ref rfl (by decide) (ltd rfl)) (.cons rfl (.ref rfl (by decide) (ltd rfl)) (.cons rfl (.ref rfl (by decide) (ltd rfl)) (.cons rfl ((q5e (.cons (.ref rfl (by decide) (ltd rfl)) .nil))) .nil))))))))⟩⟩,⟨ltd rfl,.inr ⟨by decide,_,rfl,.dat _ _⟩⟩,trivial⟩⟩
   ·intro b265 hb
    subst hb
    refine q9 (.d (.bool (!true))) rfl rfl<|q7 ?_
    refine qd rfl h227 (fun _ h227=>?_) (fun _ h227=>?_)
    ·refine qm ?_
     refine ⟨_,(Option.some.inj h227).symm,fun hm=>?_⟩
     subst hm
     refine ⟨.inr rfl,_,rfl,_,_,.nor,rfl,by decide,?_⟩
     refine qbt<|qf ?_
     obtain rfl:=someE h151
     exact ⟨_,rfl,wkE [(0,2),(1,9)] [] [] rfl ⟨⟨_,rfl,.ref rfl (by decide) (ltd rfl)⟩,trivial⟩ ⟨⟨ltd rfl,.inr ⟨by decide,_,rfl,qq (.cons (.hs rfl (by decide) (ltd rfl)) rfl .nil)⟩⟩,⟨ltd rfl,.inr ⟨by decide,_,rfl,.dat _ _⟩⟩,trivial⟩⟩
    ·refine qg<|qf<|qv<|q6<|q9 (.d (.int .i64 (w64 (a228.1 + 1)))) rfl rfl<|q0 rfl rfl<|q7<|qf ?_
     exact ⟨_,(Option.some.inj h227).symm,wkE [(9,9)] [] [] rfl ⟨⟨_,rfl,.yld rfl (by decide) (ltd rfl)⟩,⟨_,rfl,.hs rfl (by decide) (ltd rfl)⟩,⟨_,rfl,.d (.refl _)⟩,⟨_,rfl,.d (.refl _)⟩,trivial⟩ ⟨⟨ltd rfl,.inr ⟨by decide,_,rfl,.dat _ _⟩⟩,⟨ltd rfl,.inr ⟨by decide,_,rfl,.dat _ _⟩⟩,⟨ltd rfl,.inr ⟨by decide,_,rfl,qq (.cons (.hs rfl (by decide) (ltd rfl)) rfl .nil)⟩⟩,⟨ltd rfl,.inr ⟨by decide,_,rfl,.dat _ _⟩⟩,⟨ltd rfl,.inr ⟨by decide,_,rfl,.dat _ _⟩⟩,⟨ltd rfl,.inr ⟨by decide,_,rfl,qq (.cons ((q5e (.cons (.ref rfl (by decide) (ltd rfl)) (.cons (.ref rfl (by decide) (ltd rfl)) (.cons (.ref rfl (by decide) (ltd rfl)) .nil))))) rfl .nil)⟩⟩,⟨ltd rfl,.inr ⟨by decide,_,rfl,qq (.cons (.hs rfl (by decide) (ltd rfl)) rfl .nil)⟩⟩,⟨ltd rfl,.inr ⟨by decide,_,rfl,.dat _ _⟩⟩,⟨ltd rfl,.inr ⟨by decide,_,rfl,q5z (.cons rfl (.ref rfl (by decide) (ltd rfl)) (.cons rfl (.d (.refl _)) (.cons rfl (.ref rfl (by decide) (ltd rfl)) (.cons rfl (.ref rfl (by decide) (ltd rfl)) (.cons rfl (.ref rfl (by decide) (ltd rfl)) (.cons rfl (.ref rfl (by decide) (ltd rfl)) (.cons rfl (.ref rfl (by decide) (ltd rfl)) (.cons rfl ((q5e (.cons (.ref rfl (by decide) (ltd rfl)) .nil))) .nil))))))))⟩⟩,⟨ltd rfl,.inr ⟨by decide,_,rfl,.dat _ _⟩⟩,trivial⟩⟩
  ·refine qp ?_
   refine ⟨_,(Option.some.inj h227).symm,fun hm=>?_⟩
   subst hm
   refine ⟨.inl rfl,_,rfl,_,_,.nor,rfl,by decide,?_⟩
   refine qbt<|qf ?_
   obtain rfl:=someE h151
   exact ⟨_,rfl,wkE [(0,2),(1,9)] [] [] rfl ⟨⟨_,rfl,.ref rfl (by decide) (ltd rfl)⟩,trivial⟩ ⟨⟨ltd rfl,.inr ⟨by decide,_,rfl,qq (.cons (.hs rfl (by decide) (ltd rfl)) rfl .nil)⟩⟩,⟨ltd rfl,.inr ⟨by decide,_,rfl,.dat _ _⟩⟩,trivial⟩⟩
 ·intro b153 st hb hw
  subst hb
  refine q89 hw ?_ (by simp)
  refine q8<|q6<|q9 (.hs 1 2 0 b153.length) rfl rfl<|qa rfl rfl<|q7<|qm ?_
  obtain rfl:=someE h0
  exact finD (.inr rfl) (v:=.hs 1 2 0 b153.length) rfl (q8v rfl rfl) (.refl _)
theorem qij (p0 : Bool) (p1 : Bool) (r : Bool) (h0 : q8m p0 p1 = some r) : Pure Try.prog tab 88 [.bool p0,.bool p1] (.bool r):=by
 unfold q8m at h0
 refine qu Try.func88 rfl (by kernel_rfl) (by kernel_rfl) rfl<|q8<|q6<|qa rfl rfl<|q7<|q8<|q6<|q0 rfl rfl<|qa rfl rfl<|q7<|qm ?_
 obtain rfl:=someE h0
 exact finD (.inr rfl) (v:=.d (.bool p0)) rfl rfl (.refl _)
theorem qls (p0 : List api_Span) (r : List api_Span × Int) (h0 : q99 p0 = some r) : Pure Try.prog tab 64 [.sl 2 (p0.map qh)] (.tup [.sl 2 (r.1.map qh),.int .i64 r.2]):=by
 unfold q99 at h0
 refine qu Try.func64 rfl (by kernel_rfl) (by kernel_rfl) rfl<|q8<|q6<|qa rfl rfl<|qa rfl rfl<|q7<|q8<|q8<|q6<|q0 rfl rfl<|q1b rfl rfl rfl rfl<|q9 (.d (.bool (decide ((p0.length : Int) > 400)))) rfl rfl<|q7 ?_
 refine qd rfl h0 (fun _ h0=>?_) (fun _ h0=>?_)
 ·refine q8<|q6<|qa rfl rfl<|qa rfl rfl<|q7<|qm ?_
  obtain rfl:=someE h0
  exact finD (.inr rfl) (v:=.d (.tup [.nilsl,.int .i64 4])) rfl rfl (q55 (.cons (.nil _) (.cons (.refl _) .nil)))
 ·refine qg<|q8<|q8<|q6<|q0 rfl rfl ?_
  obtain ⟨r1,h2,h0⟩:=bindE h0
  refine q11 [.d (.sl 2 (p0.map qh)),.d (.fn 85 [])] (q7d p0 (fun x0=>qab x0) 85 [] (fun x0 r hr=>qih x0 r hr) r1 h2) rfl rfl rfl (.inl rfl)<|q7 ?_
  refine qd rfl h0 (fun _ h0=>?_) (fun _ h0=>?_)
  ·refine q8<|q6<|qa rfl rfl<|qa rfl rfl<|q7<|qm ?_
   obtain rfl:=someE h0
   exact finD (.inr rfl) (v:=.d (.tup [.nilsl,.int .i64 8])) rfl rfl (q55 (.cons (.nil _) (.cons (.refl _) .nil)))
  ·refine qg<|q8<|q6<|q0 rfl rfl ?_
   obtain ⟨r3,h4,h0⟩:=bindE h0
   refine q11 [.d (.sl 2 (p0.map qh)),.d (.nilsl),.d (.fn 88 [])] (q9w (.cons (.refl _) (.cons (.nil _) (.cons (.refl _) .nil))) (qlr p0 [] (fun x0 x1=>q8m x0 x1) 88 [] (fun x0 x1 r hr=>qij x0 x1 r hr) r3 h4)) rfl rfl rfl (.inl rfl)<|qa rfl rfl<|qa rfl rfl<|q7<|qm ?_
   obtain rfl:=someE h0
   exact finD (.inr rfl) (v:=.d (.tup [.sl 2 (r3.map qh),.int .i64 0])) rfl rfl (.refl _)
theorem q8u (p0 : List api_Span) (p1 : List api_Span) (r : Bool) (h0 : q41 p0 p1 = some r) : Pure Try.prog tab 89 [.sl 2 (p0.map qh),.sl 2 (p1.map qh)] (.bool r):=by
 unfold q41 at h0
 refine qu Try.func89 rfl (by kernel_rfl) (by kernel_rfl) rfl<|q8<|q6<|qa rfl rfl<|q7<|q8<|q8<|q6<|q0 rfl rfl<|q1b rfl rfl rfl rfl<|q0 rfl rfl<|q1b rfl rfl rfl rfl<|q9 (.d (.bool ((p0.length : Int) != (p1.length : Int)))) rfl rfl<|q7 ?_
 refine qd rfl h0 (fun _ h0=>?_) (fun _ h0=>?_)
 ·refine q8<|q6<|qa rfl rfl<|q7<|qm ?_
  obtain rfl:=someE h0
  exact finD (.inr rfl) (v:=.d (.bool false)) rfl rfl (.refl _)
 ·refine qg<|q8<|q8<|q6<|q0 rfl rfl<|q1b rfl rfl rfl rfl<|q0 rfl rfl<|q7 ?_
  obtain ⟨m20,h21,h0⟩:=bindE h0
  refine qn (fun b22=>.inl b22 = m20) (fun (b22 : Unit)=>⟨[],[],0⟩) (by simp) ?_ ?_
  ·refine qo (q4g p0 p1) (fun (a19 : Int)=>⟨[(0,.d (.sl 2 (p0.map qh))),(1,.d (.sl 2 (p1.map qh))),(12,.d (.int .i64 (p0.length : Int))),(13,.d (.int .i64 a19))],[],0⟩) 0 m20 h21 (wkE [] [] [] rfl ⟨⟨_,rfl,.d (.refl _)⟩,⟨_,rfl,.d (.refl _)⟩,⟨_,rfl,.d (.refl _)⟩,⟨_,rfl,.d (.refl _)⟩,trivial⟩ trivial) ?_
   intro a19 y17 h18
   unfold q4g at h18
   refine q8<|q6<|q9 (.d (.bool (decide (a19 < (p0.length : Int))))) rfl rfl<|q7<|q8 ?_
   refine qd rfl h18 (fun _ h18=>?_) (fun _ h18=>?_)
   ·refine qg<|q8<|ql<|q8<|q6<|q0 rfl rfl<|qa rfl rfl<|q7<|q8<|qk [(some [],[]),(some [],[]),(some [],[]),(some [],[]),(some [],[]),(some [],[]),(some [],[]),(some [],[]),(some [],[])] (by kernel_rfl)<|q0 rfl rfl<|q0 rfl rfl ?_
    obtain ⟨v27,h28,h18⟩:=bindE h18
    refine q10 (enc:=qh) h28 rfl rfl rfl rfl rfl rfl<|q9 (.d (.agg [.int .i64 v27.Lo,.int .i64 v27.Hi])) rfl rfl<|q0 rfl rfl<|q0 rfl rfl ?_
    obtain ⟨v29,h30,h18⟩:=bindE h18
    refine q10 (enc:=qh) h30 rfl rfl rfl rfl rfl rfl<|q9 (.d (.agg [.int .i64 v29.Lo,.int .i64 v29.Hi])) rfl rfl<|q9 (.d (.bool (!((v27.Lo == v29.Lo) && ((v27.Hi == v29.Hi) && true))))) rfl rfl<|q7 ?_
    refine qd rfl h18 (fun _ h18=>?_) (fun _ h18=>?_)
    ·refine q8<|q6<|qa rfl rfl<|q7<|qm ?_
     refine ⟨_,(Option.some.inj h18).symm,fun hm=>?_⟩
     subst hm
     obtain rfl:=someE h0
     exact finD (.inr rfl) (v:=.d (.bool false)) rfl rfl (.refl _)
    ·refine qg<|qf<|qv<|q6<|q9 (.d (.int .i64 (w64 (a19 + 1)))) rfl rfl<|q0 rfl rfl<|q7<|qf ?_
     exact ⟨_,(Option.some.inj h18).symm,wkE [] [] [] rfl ⟨⟨_,rfl,.d (.refl _)⟩,⟨_,rfl,.d (.refl _)⟩,⟨_,rfl,.d (.refl _)⟩,⟨_,rfl,.d (.refl _)⟩,trivial⟩ trivial⟩
   ·refine qp ?_
    refine ⟨_,(Option.some.inj h18).symm,fun hm=>?_⟩
    subst hm
    exact ⟨_,rfl,wkE [] [] [] rfl trivial trivial⟩
  ·intro b22 hb
   subst hb
   refine q8<|q6<|qa rfl rfl<|q7<|qm ?_
   obtain rfl:=someE h0
   exact finD (.inr rfl) (v:=.d (.bool true)) rfl rfl (.refl _)
theorem qb2 (p0 : List api_Rect) (p1 : List api_Span) (p2 : Int) (p3 : Int) (p4 : Int) (p5 : Int) (p6 : List api_Span) (r : List api_Span × Int × Int × List api_Rect) (h0 : q57  p0 p1 p2 p3 p4 p5 p6 = some r) : EvCall Try.prog tab 65 [.ref 0 4 0 0,.d (.int .i64 p4),.d (.int .i64 p5),.d (.sl 2 (p6.map qh))] [(0,.cel 4 [[.hs 1 4 0 p0.length,.d (.sl 2 (p1.map qh)),.d (.int .i64 p2),.d (.int .i64 p3)]]),(1,.dat 4 (p0.map qb))] 2 (.d (.tup [])) [(0,.cel 4 [[.hs 2 4 0 r.2.2.2.length,.d (.sl 2 (r.1.map qh)),.d (.int .i64 r.2.1),.d (.int .i64 r.2.2.1)]]),(2,.dat 4 (r.2.2.2.map qb))] 3:=by
 unfold q57 at h0
 refine q18 Try.func65 rfl (by kernel_rfl) (by kernel_rfl) rfl<|q8<|q8<|q6<|q0 rfl rfl<|q1b rfl rfl rfl rfl<|q9 (.d (.bool (decide ((p6.length : Int) > 0)))) rfl rfl ?_
 obtain ⟨c101,h102,h0⟩:=bindE h0
 refine qt 8 (fun A st=>∃ (j103 j104 j105 j106 j107 j108 j109 : V),st = A [(21,.d (.bool c101)),(20,j109),(19,j108),(18,j107),(17,j106),(16,j105),(15,j104),(14,j103)]) ?_ ?_
 ·refine qz rfl rfl h102 (fun h102=>?_) (fun h102=>?_)
  ·refine q0 rfl rfl<|q9 (.ref 0 4 0 0) rfl rfl<|q9 (.ref 0 4 0 3) rfl rfl<|q9 (.d (.int .i64 p3)) rfl rfl<|q0 rfl rfl<|q9 (.d (.bool (p3 == p4))) rfl rfl<|q9 (.d (.bool (p3 == p4))) rfl rfl<|q7 ?_
   obtain rfl:=someE h102
   exact ⟨_,_,_,_,_,_,_,rfl⟩
  ·refine qc rfl<|qc rfl<|qc rfl<|qc rfl<|qc rfl<|qc rfl<|q9 (.d (.bool false)) rfl rfl<|q7 ?_
   obtain rfl:=someE h102
   exact ⟨_,_,_,_,_,_,_,rfl⟩
 ·rintro _ ⟨j103,j104,j105,j106,j107,j108,j109,rfl⟩
  obtain ⟨c112,h113,h0⟩:=bindE h0
  refine qt 8 (fun A st=>∃ (j114 j115 j116 j117 j118 j119 j120 : V),st = A [(29,.d (.bool c112)),(28,j120),(27,j119),(26,j118),(25,j117),(24,j116),(23,j115),(22,j114)]) ?_ ?_
  ·refine qz rfl rfl h113 (fun h113=>?_) (fun h113=>?_)
   ·refine q0 rfl rfl<|q9 (.ref 0 4 0 0) rfl rfl<|q9 (.ref 0 4 0 1) rfl rfl<|q9 (.d (.sl 2 (p1.map qh))) rfl rfl<|q0 rfl rfl ?_
    obtain ⟨r121,h122,h113⟩:=bindE h113
    refine q11 [.d (.sl 2 (p1.map qh)),.d (.sl 2 (p6.map qh))] (q8u p1 p6 r121 h122) rfl rfl rfl (.inl rfl)<|q9 (.d (.bool r121)) rfl rfl<|q7 ?_
    obtain rfl:=someE h113
    exact ⟨_,_,_,_,_,_,_,rfl⟩
   ·refine qc rfl<|qc rfl<|qc rfl<|qc rfl<|qc rfl<|qc rfl<|q9 (.d (.bool false)) rfl rfl<|q7 ?_
    obtain rfl:=someE h113
    exact ⟨_,_,_,_,_,_,_,rfl⟩
  ·rintro _ ⟨j114,j115,j116,j117,j118,j119,j120,rfl⟩
   refine q7 ?_
   refine qd rfl h0 (fun _ h0=>?_) (fun _ h0=>?_)
   ·refine q8<|q8<|q6<|q0 rfl rfl<|q9 (.ref 0 4 0 0) rfl rfl<|q9 (.ref 0 4 0 2) rfl rfl<|q9 (.d (.int .i64 p2)) rfl rfl<|qa rfl rfl<|q7 ?_
    obtain ⟨m143,h144,h0⟩:=bindE h0
    refine qn (fun b145=>b145 = m143) (fun (b145 : List api_Rect)=>⟨[(0,.ref 0 4 0 0),(2,.d (.int .i64 p5))],[(0,.cel 4 [[.hs 1 4 0 b145.length,.d (.sl 2 (p1.map qh)),.d (.int .i64 p2),.d (.int .i64 p3)]]),(1,.dat 4 (b145.map qb))],2⟩) (by simp) ?_ ?_
    ·refine qo (q4c p5) (fun (a142 : Int × List api_Rect)=>⟨[(0,.ref 0 4 0 0),(2,.d (.int .i64 p5)),(8,.d (.int .i64 a142.1))],[(0,.cel 4 [[.hs 1 4 0 a142.2.length,.d (.sl 2 (p1.map qh)),.d (.int .i64 p2),.d (.int .i64 p3)]]),(1,.dat 4 (a142.2.map qb))],2⟩) (p2,p0) m143 h144 (wkE [] [] [] rfl ⟨⟨_,rfl,.ref rfl (by decide) (ltd rfl)⟩,⟨_,rfl,.d (.refl _)⟩,⟨_,rfl,.d (.refl _)⟩,trivial⟩ ⟨⟨ltd rfl,.inr ⟨by decide,_,rfl,qq (.cons (.hs rfl (by decide) (ltd rfl)) rfl (.cons (.d (.refl _)) rfl (.cons (.d (.refl _)) rfl (.cons (.d (.refl _)) rfl .nil))))⟩⟩,⟨ltd rfl,.inr ⟨by decide,_,rfl,.dat _ _⟩⟩,trivial⟩) ?_
     intro a142 y140 h141
     unfold q4c at h141
     refine q8<|q8<|q6<|q0 rfl rfl<|q0 rfl rfl<|q9 (.ref 0 4 0 0) rfl rfl<|q9 (.ref 0 4 0 0) rfl rfl<|q9 (.hs 1 4 0 a142.2.length) rfl rfl<|q9 (.d (.int .i64 (a142.2.length : Int))) rfl rfl<|q9 (.d (.bool (decide (a142.1 < (a142.2.length : Int))))) rfl rfl<|q7 ?_
     refine qd rfl h141 (fun _ h141=>?_) (fun _ h141=>?_)
     ·refine qg<|q8<|ql<|q6<|q0 rfl rfl<|q9 (.ref 0 4 0 0) rfl rfl<|q9 (.ref 0 4 0 0) rfl rfl<|q9 (.hs 1 4 0 a142.2.length) rfl rfl<|q0 rfl rfl<|q0 rfl rfl ?_
      obtain ⟨v148,h149,h141⟩:=bindE h141
      refine qj h149 rfl rfl rfl rfl rfl rfl rfl<|q9 (.ref 1 4 a142.1.toNat 2) rfl rfl<|q19 (ds:=[.int .i64 p5]) ({X0:=v148.X0,Y0:=v148.Y0,X1:=p5,Y1:=v148.Y1} : api_Rect) h149 rfl rfl rfl rfl rfl rfl rfl rfl (leb rfl) rfl<|q7<|qf<|qv<|q6<|q0 rfl rfl<|q9 (.d (.int .i64 (w64 (a142.1 + 1)))) rfl rfl<|qa rfl rfl<|q7<|qf ?_
      exact ⟨_,(Option.some.inj h141).symm,wkE [] [] [] rfl ⟨⟨_,rfl,.ref rfl (by decide) (ltd rfl)⟩,⟨_,rfl,.d (.refl _)⟩,⟨_,rfl,.d (.refl _)⟩,trivial⟩ ⟨⟨ltd rfl,.inr ⟨by decide,_,rfl,qq (.cons (q16 (by simp) rfl (by decide) (ltd rfl)) rfl (.cons (.d (.refl _)) rfl (.cons (.d (.refl _)) rfl (.cons (.d (.refl _)) rfl .nil))))⟩⟩,⟨ltd rfl,.inr ⟨by decide,_,rfl,.dat _ _⟩⟩,trivial⟩⟩
     ·refine qp ?_
      refine ⟨_,(Option.some.inj h141).symm,fun hm=>?_⟩
      subst hm
      exact ⟨_,rfl,wkE [] [] [] rfl ⟨⟨_,rfl,.ref rfl (by decide) (ltd rfl)⟩,⟨_,rfl,.d (.refl _)⟩,trivial⟩ ⟨⟨ltd rfl,.inr ⟨by decide,_,rfl,qq (.cons (.hs rfl (by decide) (ltd rfl)) rfl (.cons (.d (.refl _)) rfl (.cons (.d (.refl _)) rfl (.cons (.d (.refl _)) rfl .nil))))⟩⟩,⟨ltd rfl,.inr ⟨by decide,_,rfl,.dat _ _⟩⟩,trivial⟩⟩
    ·intro b145 hb
     subst hb
     refine q8<|q6<|q0 rfl rfl<|q0 rfl rfl<|q9 (.ref 0 4 0 0) rfl rfl<|q9 (.ref 0 4 0 3) rfl rfl<|q1z 0 (.cel 4 [[.hs 1 4 0 b145.length,.d (.sl 2 (p1.map qh)),.d (.int .i64 p2),.d (.int .i64 p5)]]) rfl rfl<|q7<|qm ?_
     obtain rfl:=someE h0
     exact ⟨.inr rfl,_,rfl,wkE [(2,1)] [] [] rfl ⟨⟨_,rfl,.d (.refl _)⟩,trivial⟩ ⟨⟨ltd rfl,.inr ⟨by decide,_,rfl,qq (.cons (.hs rfl (by decide) (ltd rfl)) rfl (.cons (.d (.refl _)) rfl (.cons (.d (.refl _)) rfl (.cons (.d (.refl _)) rfl .nil))))⟩⟩,⟨ltd rfl,.inr ⟨by decide,_,rfl,.dat _ _⟩⟩,trivial⟩⟩
   ·refine qg<|q8<|q6<|q0 rfl rfl<|q0 rfl rfl<|q0 rfl rfl<|q0 rfl rfl<|q9 (.ref 0 4 0 0) rfl rfl<|q9 (.ref 0 4 0 0) rfl rfl<|q9 (.hs 1 4 0 p0.length) rfl rfl<|q9 (.d (.int .i64 (p0.length : Int))) rfl rfl<|q0 rfl rfl<|q0 rfl rfl<|q9 (.ref 0 4 0 0) rfl rfl<|q9 (.ref 0 4 0 2) rfl rfl<|q1z 0 (.cel 4 [[.hs 1 4 0 p0.length,.d (.sl 2 (p1.map qh)),.d (.int .i64 (p0.length : Int)),.d (.int .i64 p3)]]) rfl rfl<|q9 (.ref 0 4 0 0) rfl rfl<|q9 (.ref 0 4 0 1) rfl rfl<|q1z 0 (.cel 4 [[.hs 1 4 0 p0.length,.d (.sl 2 (p6.map qh)),.d (.int .i64 (p0.length : Int)),.d (.int .i64 p3)]]) rfl rfl<|q9 (.ref 0 4 0 0) rfl rfl<|q9 (.ref 0 4 0 3) rfl rfl<|q1z 0 (.cel 4 [[.hs 1 4 0 p0.length,.d (.sl 2 (p6.map qh)),.d (.int .i64 (p0.length : Int)),.d (.int .i64 p5)]]) rfl rfl<|q7<|q8<|q6<|q0 rfl rfl<|q1b rfl rfl rfl rfl<|q0 rfl rfl<|q7 ?_
    obtain ⟨m169,h170,h0⟩:=bindE h0
    refine ql<|qo (q4d p6 p4 p5 p0) (fun (a168 : Int × List api_Rect)=>⟨[(0,.ref 0 4 0 0),(1,.d (.int .i64 p4)),(2,.d (.int .i64 p5)),(71,.d (.sl 2 (p6.map qh))),(72,.d (.int .i64 (p6.length : Int))),(73,.d (.int .i64 a168.1))],[(0,.cel 4 [[.hs 2 4 0 a168.2.length,.d (.sl 2 (p6.map qh)),.d (.int .i64 (p0.length : Int)),.d (.int .i64 p5)]]),(2,.dat 4 (a168.2.map qb))],3⟩) (0,p0) m169 h170 (wkE [(2,1)] [] [] rfl ⟨⟨_,rfl,.ref rfl (by decide) (ltd rfl)⟩,⟨_,rfl,.d (.refl _)⟩,⟨_,rfl,.d (.refl _)⟩,⟨_,rfl,.d (.refl _)⟩,⟨_,rfl,.d (.refl _)⟩,⟨_,rfl,.d (.refl _)⟩,trivial⟩ ⟨⟨ltd rfl,.inr ⟨by decide,_,rfl,qq (.cons (.hs rfl (by decide) (ltd rfl)) rfl (.cons (.d (.refl _)) rfl (.cons (.d (.refl _)) rfl (.cons (.d (.refl _)) rfl .nil))))⟩⟩,⟨ltd rfl,.inr ⟨by decide,_,rfl,.dat _ _⟩⟩,trivial⟩) ?_
    intro a168 y166 h167
    unfold q4d at h167
    refine q8<|q6<|q9 (.d (.bool (decide (a168.1 < (p6.length : Int))))) rfl rfl<|q7<|q8 ?_
    refine qd rfl h167 (fun _ h167=>?_) (fun _ h167=>?_)
    ·refine qg<|q8<|ql<|q8<|q6 ?_
     obtain ⟨v176,h177,h167⟩:=bindE h167
     refine q10 (enc:=qh) h177 rfl rfl rfl rfl rfl rfl<|q9 (.d (.agg [.int .i64 v176.Lo,.int .i64 v176.Hi])) rfl rfl<|q3q rfl rfl<|q1z 3 (.dat 2 [[.int .i64 v176.Lo,.int .i64 v176.Hi]]) rfl rfl<|q7<|qk [(some [0],[0]),(some [],[]),(some [],[]),(some [2,4],[2,5]),(some [],[4]),(some [],[]),(some [3],[]),(some [],[]),(some [],[]),(some [3],[]),(some [],[]),(some [],[]),(some [0],[]),(some [],[]),(some [],[]),(some [],[]),(some [],[])] (by kernel_rfl)<|q0 rfl rfl<|q0 rfl rfl<|q9 (.ref 0 4 0 0) rfl rfl<|q9 (.ref 0 4 0 0) rfl rfl<|q9 (.hs 2 4 0 a168.2.length) rfl rfl<|q0 rfl rfl<|q9 (.ref 3 2 0 0) rfl rfl<|q9 (.d (.int .i64 v176.Lo)) rfl rfl<|q0 rfl rfl<|q9 (.ref 3 2 0 1) rfl rfl<|q9 (.d (.int .i64 v176.Hi)) rfl rfl<|q9 (.d (.agg [.int .i64 p4,.int .i64 v176.Lo,.int .i64 p5,.int .i64 v176.Hi])) rfl rfl<|q3m (.hs 4 4 0 [({X0:=p4,Y0:=v176.Lo,X1:=p5,Y1:=v176.Hi} : api_Rect)].length) (.dat 4 ([({X0:=p4,Y0:=v176.Lo,X1:=p5,Y1:=v176.Hi} : api_Rect)].map qb)) rfl rfl ?_
     obtain ⟨z178,h179,h167⟩:=bindE h167
     refine q5o (xs:=a168.2) (ys:=[({X0:=p4,Y0:=v176.Lo,X1:=p5,Y1:=v176.Hi} : api_Rect)]) (enc:=qb) (.hs 4 4 0 [({X0:=p4,Y0:=v176.Lo,X1:=p5,Y1:=v176.Hi} : api_Rect)].length) h179 rfl rfl rfl rfl rfl rfl rfl (q4b rfl rfl) rfl rfl rfl rfl<|q9 (.ref 0 4 0 0) rfl rfl<|q9 (.ref 0 4 0 0) rfl rfl<|q1z 0 (.cel 4 [[.hs 5 4 0 z178.length,.d (.sl 2 (p6.map qh)),.d (.int .i64 (p0.length : Int)),.d (.int .i64 p5)]]) rfl rfl<|q7<|qf<|qv<|q6<|q9 (.d (.int .i64 (w64 (a168.1 + 1)))) rfl rfl<|q0 rfl rfl<|q7<|qf ?_
     exact ⟨_,(Option.some.inj h167).symm,wkE [(2,5)] [] [] rfl ⟨⟨_,rfl,.ref rfl (by decide) (ltd rfl)⟩,⟨_,rfl,.d (.refl _)⟩,⟨_,rfl,.d (.refl _)⟩,⟨_,rfl,.d (.refl _)⟩,⟨_,rfl,.d (.refl _)⟩,⟨_,rfl,.d (.refl _)⟩,trivial⟩ ⟨⟨ltd rfl,.inr ⟨by decide,_,rfl,qq (.cons (.hs rfl (by decide) (ltd rfl)) rfl (.cons (.d (.refl _)) rfl (.cons (.d (.refl _)) rfl (.cons (.d (.refl _)) rfl .nil))))⟩⟩,⟨ltd rfl,.inr ⟨by decide,_,rfl,.dat _ _⟩⟩,trivial⟩⟩
    ·refine qp ?_
     refine ⟨_,(Option.some.inj h167).symm,fun hm=>?_⟩
     subst hm
     obtain rfl:=someE h0
     exact ⟨.inl rfl,_,rfl,wkE [(2,2)] [] [] rfl ⟨⟨_,rfl,.d (.refl _)⟩,trivial⟩ ⟨⟨ltd rfl,.inr ⟨by decide,_,rfl,qq (.cons (.hs rfl (by decide) (ltd rfl)) rfl (.cons (.d (.refl _)) rfl (.cons (.d (.refl _)) rfl (.cons (.d (.refl _)) rfl .nil))))⟩⟩,⟨ltd rfl,.inr ⟨by decide,_,rfl,.dat _ _⟩⟩,trivial⟩⟩
theorem qik (p0 : List api_Rect) (r : List api_Rect × Int) (h0 : q8n p0 = some r) : Pure Try.prog tab 50 [.sl 4 (p0.map qb)] (.tup [.sl 4 (r.1.map qb),.int .i64 r.2]):=by
 unfold q8n at h0
 refine qu Try.func50 rfl (by kernel_rfl) (by kernel_rfl) rfl<|q8<|q6<|qa rfl rfl<|qa rfl rfl<|q7<|q8<|q6<|q3q rfl rfl<|q7<|q8<|q8<|q6<|q0 rfl rfl<|q3m (.hs 1 1 0 [p0].length) (.dat 1 ([p0].map q1p)) rfl rfl ?_
 obtain ⟨m53,h52,h0⟩:=bindE h0
 refine qd2 [.hs 1 1 0 [p0].length] (fun b54=>b54 = m53) (fun (b54 : List Int)=>⟨[(2,.d (.nilsl)),(3,.d (.int .i64 0)),(4,.ref 0 4 0 0),(10,.fn 83 [.ref 1 1 0 0,.ref 2 1 0 0])],[(0,.dat 4 [[.nilsl,.nilsl,.int .i64 0,.int .i64 0]]),(1,.cel 1 [[.d (.sl 1 (b54.map (eI .i64)))]]),(2,.cel 1 [[.hs 3 1 0 [p0].length]]),(3,.dat 1 ([p0].map q1p))],4⟩) rfl rfl Try.func63 rfl (by kernel_rfl) (by kernel_rfl) rfl ?_ ?_
 ·refine q8<|q6<|q3m (.ref 2 1 0 0) (.cel 1 [[.hs 1 1 0 [p0].length]]) rfl rfl<|qa rfl rfl<|q7<|q8<|q6<|q3q rfl rfl<|q7<|q8<|q8<|q6<|q9 (.hs 1 1 0 [p0].length) rfl rfl<|q9 (.d (.int .i64 1)) rfl rfl<|q0 rfl rfl<|q7<|ql<|qbu<|q8<|q6<|q9 (.d (.bool true)) rfl rfl<|q7<|q8<|qg9 rfl<|qg<|q8 ?_
  obtain ⟨m93,h92,h52⟩:=bindE h52
  refine qn (fun b94=>b94 = m93) (fun (b94 : List Int)=>⟨[(1,.ref 2 1 0 0),(3,.ref 3 1 0 0),(8,.hs 1 1 0 [p0].length),(9,.d (.int .i64 1)),(10,.d (.int .i64 0))],[(0,.dat 4 [[.nilsl,.nilsl,.int .i64 0,.int .i64 0]]),(1,.dat 1 ([p0].map q1p)),(2,.cel 1 [[.hs 1 1 0 [p0].length]]),(3,.cel 1 [[.hs 4 1 0 b94.length]]),(4,.dat 1 (b94.map (eI .i64)))],5⟩) (by simp) ?_ ?_
  ·refine q8<|q6 ?_
   obtain ⟨v95,h96,h92⟩:=bindE h92
   refine qj h96 rfl rfl rfl rfl rfl rfl rfl<|qr (.d (.sl 4 (v95.map qb))) h96 rfl rfl rfl rfl rfl rfl<|qa rfl rfl<|q7<|q8<|q6<|q0 rfl rfl<|q1b rfl rfl rfl rfl<|q0 rfl rfl<|q7 ?_
   obtain ⟨m116,h117,h92⟩:=bindE h92
   refine ql<|qo (q58 v95) (fun (a115 : Int × List Int)=>⟨[(1,.ref 2 1 0 0),(3,.ref 3 1 0 0),(8,.hs 1 1 0 [p0].length),(9,.d (.int .i64 1)),(10,.d (.int .i64 0)),(14,.d (.sl 4 (v95.map qb))),(15,.d (.int .i64 (v95.length : Int))),(16,.d (.int .i64 a115.1))],[(0,.dat 4 [[.nilsl,.nilsl,.int .i64 0,.int .i64 0]]),(1,.dat 1 ([p0].map q1p)),(2,.cel 1 [[.hs 1 1 0 [p0].length]]),(3,.cel 1 [[.hs 4 1 0 a115.2.length]]),(4,.dat 1 (a115.2.map (eI .i64)))],5⟩) (0,[]) m116 h117 (wkE [(2,2),(3,3)] [] [4] rfl ⟨⟨_,rfl,.ref rfl (by decide) (ltd rfl)⟩,⟨_,rfl,.ref rfl (by decide) (ltd rfl)⟩,⟨_,rfl,.hs rfl (by decide) (ltd rfl)⟩,⟨_,rfl,.d (.refl _)⟩,⟨_,rfl,.d (.refl _)⟩,⟨_,rfl,.d (.refl _)⟩,⟨_,rfl,.d (.refl _)⟩,⟨_,rfl,.d (.refl _)⟩,trivial⟩ ⟨⟨ltd rfl,.inr ⟨by decide,_,rfl,.dat _ _⟩⟩,⟨ltd rfl,.inr ⟨by decide,_,rfl,.dat _ _⟩⟩,⟨ltd rfl,.inr ⟨by decide,_,rfl,qq (.cons (.hs rfl (by decide) (ltd rfl)) rfl .nil)⟩⟩,⟨ltd rfl,.inr ⟨by decide,_,rfl,q79 (.cons (.nil (by decide) (ltd rfl)) rfl .nil)⟩⟩,⟨ltd rfl,.inl ⟨by decide,_,by decide,rfl⟩⟩,trivial⟩) ?_
   intro a115 y113 h114
   unfold q58 at h114
   refine q8<|q6<|q9 (.d (.bool (decide (a115.1 < (v95.length : Int))))) rfl rfl<|q7<|q8 ?_
   refine qd rfl h114 (fun _ h114=>?_) (fun _ h114=>?_)
   ·refine qg<|q8<|ql<|q8<|q6 ?_
    obtain ⟨v123,h124,h114⟩:=bindE h114
    refine q10 (enc:=qb) h124 rfl rfl rfl rfl rfl rfl<|q9 (.d (.agg [.int .i64 v123.X0,.int .i64 v123.Y0,.int .i64 v123.X1,.int .i64 v123.Y1])) rfl rfl<|q3q rfl rfl<|q1z 5 (.dat 4 [[.int .i64 v123.X0,.int .i64 v123.Y0,.int .i64 v123.X1,.int .i64 v123.Y1]]) rfl rfl<|q7<|q6<|q9 (.hs 4 1 0 a115.2.length) rfl rfl<|q9 (.ref 5 4 0 0) rfl rfl<|q9 (.d (.int .i64 v123.X0)) rfl rfl<|q9 (.ref 5 4 0 2) rfl rfl<|q9 (.d (.int .i64 v123.X1)) rfl rfl<|q3m (.hs 6 1 0 [v123.X0,v123.X1].length) (.dat 1 ([v123.X0,v123.X1].map (eI .i64))) rfl rfl ?_
    obtain ⟨z125,h126,h114⟩:=bindE h114
    refine q5o (xs:=a115.2) (ys:=[v123.X0,v123.X1]) (enc:=(eI .i64)) (.hs 6 1 0 [v123.X0,v123.X1].length) h126 rfl rfl rfl rfl rfl rfl rfl (q4b rfl rfl) rfl rfl rfl rfl<|q1z 3 (.cel 1 [[.hs 7 1 0 z125.length]]) rfl rfl<|q7<|qf<|qv<|q6<|q9 (.d (.int .i64 (w64 (a115.1 + 1)))) rfl rfl<|q0 rfl rfl<|q7<|qf ?_
    exact ⟨_,(Option.some.inj h114).symm,wkE [(2,2),(3,3),(4,7)] [] [] rfl ⟨⟨_,rfl,.ref rfl (by decide) (ltd rfl)⟩,⟨_,rfl,.ref rfl (by decide) (ltd rfl)⟩,⟨_,rfl,.hs rfl (by decide) (ltd rfl)⟩,⟨_,rfl,.d (.refl _)⟩,⟨_,rfl,.d (.refl _)⟩,⟨_,rfl,.d (.refl _)⟩,⟨_,rfl,.d (.refl _)⟩,⟨_,rfl,.d (.refl _)⟩,trivial⟩ ⟨⟨ltd rfl,.inr ⟨by decide,_,rfl,.dat _ _⟩⟩,⟨ltd rfl,.inr ⟨by decide,_,rfl,.dat _ _⟩⟩,⟨ltd rfl,.inr ⟨by decide,_,rfl,qq (.cons (.hs rfl (by decide) (ltd rfl)) rfl .nil)⟩⟩,⟨ltd rfl,.inr ⟨by decide,_,rfl,qq (.cons (.hs rfl (by decide) (ltd rfl)) rfl .nil)⟩⟩,⟨ltd rfl,.inr ⟨by decide,_,rfl,.dat _ _⟩⟩,trivial⟩⟩
   ·refine qp ?_
    refine ⟨_,(Option.some.inj h114).symm,fun hm=>?_⟩
    subst hm
    obtain rfl:=someE h92
    exact ⟨_,rfl,wkE [(2,2),(3,3),(4,4)] [] [] rfl ⟨⟨_,rfl,.ref rfl (by decide) (ltd rfl)⟩,⟨_,rfl,.ref rfl (by decide) (ltd rfl)⟩,⟨_,rfl,.hs rfl (by decide) (ltd rfl)⟩,⟨_,rfl,.d (.refl _)⟩,⟨_,rfl,.d (.refl _)⟩,trivial⟩ ⟨⟨ltd rfl,.inr ⟨by decide,_,rfl,.dat _ _⟩⟩,⟨ltd rfl,.inr ⟨by decide,_,rfl,.dat _ _⟩⟩,⟨ltd rfl,.inr ⟨by decide,_,rfl,qq (.cons (.hs rfl (by decide) (ltd rfl)) rfl .nil)⟩⟩,⟨ltd rfl,.inr ⟨by decide,_,rfl,qq (.cons (.hs rfl (by decide) (ltd rfl)) rfl .nil)⟩⟩,⟨ltd rfl,.inr ⟨by decide,_,rfl,.dat _ _⟩⟩,trivial⟩⟩
  ·intro b94 hb
   subst hb
   refine q6<|q9 (.d (.int .i64 1)) rfl rfl<|q0 rfl rfl<|q7<|qbu<|q8<|q6<|q9 (.d (.bool false)) rfl rfl<|q7<|q8<|qct rfl<|qp<|qhg<|q8<|q6<|q9 (.hs 4 1 0 b94.length) rfl rfl ?_
   obtain ⟨e127,h128,h52⟩:=bindE h52
   obtain ⟨u129,h130,h52⟩:=bindE h52
   have h131:=q1o h130
   refine q12 [(0,4)] [(0,1),(1,1),(2,1),(3,1),(4,0)] [.hs 4 1 0 b94.length] (.d (.tup [])) [(4,.dat 1 (e127.map (eI .i64)))] [(4,.dat 1 (e127.map (eI .i64))),(0,.dat 4 [[.nilsl,.nilsl,.int .i64 0,.int .i64 0]]),(1,.dat 1 ([p0].map q1p)),(2,.cel 1 [[.hs 1 1 0 [p0].length]]),(3,.cel 1 [[.hs 4 1 0 b94.length]])] 5 (qar b94 e127 h128) rfl rfl rfl (qx [(0,4)] [] [] rfl ⟨⟨_,rfl,.hs rfl (by decide) (ltd rfl)⟩,trivial⟩ ⟨⟨ltd rfl,.inr ⟨by decide,_,rfl,.dat _ _⟩⟩,trivial⟩) (qx [(0,1),(1,1),(2,1),(3,1),(4,0)] [] [] rfl ⟨⟨_,rfl,.d (.refl _)⟩,trivial⟩ ⟨⟨ltd rfl,.inr ⟨by decide,_,rfl,.dat _ _⟩⟩,trivial⟩) rfl ⟨.inl rfl,.inr ⟨rfl,rfl⟩,.inr ⟨rfl,rfl⟩,.inr ⟨rfl,rfl⟩,.inr ⟨rfl,rfl⟩,trivial⟩<|q7<|q8<|q6<|q9 (.hs 4 1 0 b94.length) rfl rfl ?_
   obtain ⟨e132,h133,h52⟩:=bindE h52
   obtain ⟨u134,h135,h52⟩:=bindE h52
   have h136:=q1o h135
   obtain ⟨u137,h138,h52⟩:=bindE h52
   have h139:=qnt h138
   refine q12 [(0,4)] [(0,1),(1,1),(2,1),(3,1),(4,0)] [.hs 4 1 0 b94.length] (.hs 4 1 e132.1.1 e132.1.2) [(4,.dat 1 (e132.2.map (eI .i64)))] [(4,.dat 1 (e132.2.map (eI .i64))),(0,.dat 4 [[.nilsl,.nilsl,.int .i64 0,.int .i64 0]]),(1,.dat 1 ([p0].map q1p)),(2,.cel 1 [[.hs 1 1 0 [p0].length]]),(3,.cel 1 [[.hs 4 1 0 b94.length]])] 5 (q9r e127 e132 h133) rfl rfl rfl (qx [(0,4)] [] [] rfl ⟨⟨_,rfl,q16 (by simp [h131]) rfl (by decide) (ltd rfl)⟩,trivial⟩ ⟨⟨ltd rfl,.inr ⟨by decide,_,rfl,.dat _ _⟩⟩,trivial⟩) (qx [(0,1),(1,1),(2,1),(3,1),(4,0)] [] [] rfl ⟨⟨_,rfl,.hs rfl (by decide) (ltd rfl)⟩,trivial⟩ ⟨⟨ltd rfl,.inr ⟨by decide,_,rfl,.dat _ _⟩⟩,trivial⟩) rfl ⟨.inl rfl,.inr ⟨rfl,rfl⟩,.inr ⟨rfl,rfl⟩,.inr ⟨rfl,rfl⟩,.inr ⟨rfl,rfl⟩,trivial⟩<|q1z 3 (.cel 1 [[.hs 4 1 e132.1.1 e132.1.2]]) rfl rfl<|q7<|q8<|q6<|q9 (.fn 83 [.ref 3 1 0 0,.ref 2 1 0 0]) rfl rfl<|qa rfl rfl<|q7<|qm ?_
   refine ⟨.inr rfl,_,rfl,?_⟩
   obtain rfl:=someE h52
   exact ⟨_,rfl,wkE [(0,0),(1,3),(2,2),(3,1)] [4] [] rfl ⟨⟨_,rfl,.d (.refl _)⟩,⟨_,rfl,.d (.refl _)⟩,⟨_,rfl,.ref rfl (by decide) (ltd rfl)⟩,⟨_,rfl,(q5e (.cons (.ref rfl (by decide) (ltd rfl)) (.cons (.ref rfl (by decide) (ltd rfl)) .nil)))⟩,trivial⟩ ⟨⟨ltd rfl,.inr ⟨by decide,_,rfl,.dat _ _⟩⟩,⟨ltd rfl,.inr ⟨by decide,_,rfl,qq (.cons (qrf h139 rfl (by decide)) rfl .nil)⟩⟩,⟨ltd rfl,.inr ⟨by decide,_,rfl,qq (.cons (.hs rfl (by decide) (ltd rfl)) rfl .nil)⟩⟩,⟨ltd rfl,.inr ⟨by decide,_,rfl,.dat _ _⟩⟩,trivial⟩⟩
 ·intro b54 hb
  subst hb
  refine q7<|ql ?_
  obtain ⟨m845,h844,h0⟩:=bindE h0
  refine qmz (fun b846=>b846 = m845) (fun (b846 : List api_Span × Int × Int × List api_Rect)=>⟨[(4,.ref 0 4 0 0)],[(0,.cel 4 [[.hs 1 4 0 b846.2.2.2.length,.d (.sl 2 (b846.1.map qh)),.d (.int .i64 b846.2.1),.d (.int .i64 b846.2.2.1)]]),(1,.dat 4 (b846.2.2.2.map qb))],2⟩) ?_ ?_
  ·refine q89 (st':=⟨[(2,.d (.nilsl)),(3,.d (.int .i64 0)),(4,.ref 0 4 0 0),(10,.fn 83 [.ref 1 1 0 0,.ref 2 1 0 0])],[(0,.dat 4 [[.nilsl,.nilsl,.int .i64 0,.int .i64 0]]),(1,.cel 1 [[.d (.sl 1 (b54.map (eI .i64)))]]),(2,.cel 1 [[.hs 3 1 0 [p0].length]]),(3,.dat 1 ([p0].map q1p))],4⟩) (wkE [(0,0),(1,1),(2,2),(3,3)] [] [] rfl ⟨⟨_,rfl,.d (.refl _)⟩,⟨_,rfl,.d (.refl _)⟩,⟨_,rfl,.ref rfl (by decide) (ltd rfl)⟩,⟨_,rfl,(q5e (.cons (.ref rfl (by decide) (ltd rfl)) (.cons (.ref rfl (by decide) (ltd rfl)) .nil)))⟩,trivial⟩ ⟨⟨ltd rfl,.inr ⟨by decide,_,rfl,.dat _ _⟩⟩,⟨ltd rfl,.inr ⟨by decide,_,rfl,qq (.cons (.d (.refl _)) rfl .nil)⟩⟩,⟨ltd rfl,.inr ⟨by decide,_,rfl,qq (.cons (.hs rfl (by decide) (ltd rfl)) rfl .nil)⟩⟩,⟨ltd rfl,.inr ⟨by decide,_,rfl,.dat _ _⟩⟩,trivial⟩) ?_ (by simp)
   refine qj4 [.ref 1 1 0 0,.ref 2 1 0 0] (.inl rfl) Try.func83 rfl (by kernel_rfl) (by kernel_rfl) rfl ?_
   intro A847 B848 hA847 hB848
   refine q8<|q6<|qa rfl rfl<|q7 ?_
   obtain ⟨m1200,h1201,h844⟩:=bindE h844
   refine ql<|qo (q59 b54 p0) (fun (a1199 : Int × List api_Span × Int × Int × List api_Rect)=>⟨[(0,.yld 4),(1,.ref 1 1 0 0),(2,.ref 2 1 0 0),(4,.d (.int .i64 a1199.1))],[(0,.cel 4 [[.hs 5 4 0 a1199.2.2.2.2.length,.d (.sl 2 (a1199.2.1.map qh)),.d (.int .i64 a1199.2.2.1),.d (.int .i64 a1199.2.2.2.1)]]),(1,.cel 1 [[.d (.sl 1 (b54.map (eI .i64)))]]),(2,.cel 1 [[.hs 3 1 0 [p0].length]]),(3,.dat 1 ([p0].map q1p)),(4,.loop [(2,.d (.nilsl)),(3,.d (.int .i64 0)),(4,.ref 0 4 0 0),(10,.fn 83 [.ref 1 1 0 0,.ref 2 1 0 0])] [11] A847 B848 .ready none),(5,.dat 4 (a1199.2.2.2.2.map qb))],6⟩) (1,[],0,0,[]) m1200 h1201 (wkE [] [] [5] rfl ⟨⟨_,rfl,.yld rfl (by decide) (ltd rfl)⟩,⟨_,rfl,.ref rfl (by decide) (ltd rfl)⟩,⟨_,rfl,.ref rfl (by decide) (ltd rfl)⟩,⟨_,rfl,.d (.refl _)⟩,trivial⟩ ⟨⟨ltd rfl,.inr ⟨by decide,_,rfl,q79 (.cons (.nil (by decide) (ltd rfl)) rfl (.cons (.d (.nil _)) rfl (.cons (.d (.refl _)) rfl (.cons (.d (.refl _)) rfl .nil))))⟩⟩,⟨ltd rfl,.inr ⟨by decide,_,rfl,qq (.cons (.d (.refl _)) rfl .nil)⟩⟩,⟨ltd rfl,.inr ⟨by decide,_,rfl,qq (.cons (.hs rfl (by decide) (ltd rfl)) rfl .nil)⟩⟩,⟨ltd rfl,.inr ⟨by decide,_,rfl,.dat _ _⟩⟩,⟨ltd rfl,.inr ⟨by decide,_,rfl,q5z (.cons rfl (.d (.refl _)) (.cons rfl (.d (.refl _)) (.cons rfl (.ref rfl (by decide) (ltd rfl)) (.cons rfl ((q5e (.cons (.ref rfl (by decide) (ltd rfl)) (.cons (.ref rfl (by decide) (ltd rfl)) .nil)))) .nil))))⟩⟩,⟨ltd rfl,.inl ⟨by decide,_,by decide,rfl⟩⟩,trivial⟩) ?_
   intro a1199 y1197 h1198
   unfold q59 at h1198
   refine q8<|q8<|q6<|q0 rfl rfl<|q9 (.d (.sl 1 (b54.map (eI .i64)))) rfl rfl<|q1b rfl rfl rfl rfl<|q9 (.d (.bool (decide (a1199.1 < (b54.length : Int))))) rfl rfl<|q7 ?_
   refine qd rfl h1198 (fun _ h1198=>?_) (fun _ h1198=>?_)
   ·refine qg<|q8<|ql<|q8<|qk [(some [7],[7]),(some [],[7]),(some [],[]),(some [],[6]),(some [],[]),(some [2],[]),(some [],[]),(some [],[]),(some [],[]),(some [1],[]),(some [],[]),(some [],[]),(some [],[]),(some [],[]),(some [1],[])] (by kernel_rfl)<|q9 (.d (.sl 1 (b54.map (eI .i64)))) rfl rfl<|q0 rfl rfl<|q9 (.d (.int .i64 (w64 (a1199.1 - 1)))) rfl rfl ?_
    obtain ⟨v1275,h1276,h1198⟩:=bindE h1198
    refine q10 (enc:=(eI .i64)) h1276 rfl rfl rfl rfl rfl rfl<|q9 (.d (.int .i64 v1275)) rfl rfl<|q9 (.d (.sl 1 (b54.map (eI .i64)))) rfl rfl<|q0 rfl rfl ?_
    obtain ⟨v1277,h1278,h1198⟩:=bindE h1198
    refine q10 (enc:=(eI .i64)) h1278 rfl rfl rfl rfl rfl rfl<|q9 (.d (.int .i64 v1277)) rfl rfl<|q9 (.hs 3 1 0 [p0].length) rfl rfl<|q9 (.d (.int .i64 1)) rfl rfl<|q3m (.hs 6 1 0 1) (.dat 1 [[.nilsl]]) rfl rfl<|q9 (.agg [.d (.int .i64 v1275),.d (.int .i64 v1277),.hs 6 1 0 1]) rfl rfl<|q3q rfl rfl<|q1z 7 (.cel 3 [[.d (.int .i64 v1275),.d (.int .i64 v1277),.hs 6 1 0 1]]) rfl rfl<|q7<|q8<|q8<|q6<|q9 (.hs 3 1 0 [p0].length) rfl rfl<|q9 (.d (.int .i64 1)) rfl rfl<|q0 rfl rfl<|q7<|ql<|qbu<|q8<|q6<|q9 (.d (.bool true)) rfl rfl<|q7<|q8<|qg9 rfl<|qg<|q8 ?_
    obtain ⟨m1339,h1338,h1198⟩:=bindE h1198
    refine qn (fun b1340=>b1340 = m1339) (fun (b1340 : List api_Span)=>⟨[(0,.yld 4),(1,.ref 1 1 0 0),(2,.ref 2 1 0 0),(4,.d (.int .i64 a1199.1)),(5,.ref 5 3 0 0),(29,.hs 3 1 0 [p0].length),(30,.d (.int .i64 1)),(31,.d (.int .i64 0))],[(0,.cel 4 [[.hs 6 4 0 a1199.2.2.2.2.length,.d (.sl 2 (a1199.2.1.map qh)),.d (.int .i64 a1199.2.2.1),.d (.int .i64 a1199.2.2.2.1)]]),(1,.cel 1 [[.d (.sl 1 (b54.map (eI .i64)))]]),(2,.cel 1 [[.hs 3 1 0 [p0].length]]),(3,.dat 1 ([p0].map q1p)),(4,.loop [(2,.d (.nilsl)),(3,.d (.int .i64 0)),(4,.ref 0 4 0 0),(10,.fn 83 [.ref 1 1 0 0,.ref 2 1 0 0])] [11] A847 B848 .ready none),(5,.cel 3 [[.d (.int .i64 v1275),.d (.int .i64 v1277),.hs 7 1 0 1]]),(6,.dat 4 (a1199.2.2.2.2.map qb)),(7,.cel 1 [[.hs 8 2 0 b1340.length]]),(8,.dat 2 (b1340.map qh))],9⟩) (by simp) ?_ ?_
    ·refine q8<|q6<|q0 rfl rfl ?_
     obtain ⟨v1341,h1342,h1338⟩:=bindE h1338
     refine qj h1342 rfl rfl rfl rfl rfl rfl rfl<|qr (.d (.sl 4 (v1341.map qb))) h1342 rfl rfl rfl rfl rfl rfl<|qa rfl rfl<|qa rfl rfl<|q7<|q8<|q6<|q0 rfl rfl<|q1b rfl rfl rfl rfl<|q0 rfl rfl<|q7 ?_
     obtain ⟨m1373,h1374,h1338⟩:=bindE h1338
     refine ql<|qo (q5n v1341 v1275) (fun (a1372 : Int × List api_Span)=>⟨[(0,.yld 4),(1,.ref 1 1 0 0),(2,.ref 2 1 0 0),(4,.d (.int .i64 a1199.1)),(5,.ref 5 3 0 0),(6,.d (.int .i64 0)),(29,.hs 3 1 0 [p0].length),(30,.d (.int .i64 1)),(31,.d (.int .i64 0)),(36,.d (.sl 4 (v1341.map qb))),(37,.d (.int .i64 (v1341.length : Int))),(38,.d (.int .i64 a1372.1))],[(0,.cel 4 [[.hs 6 4 0 a1199.2.2.2.2.length,.d (.sl 2 (a1199.2.1.map qh)),.d (.int .i64 a1199.2.2.1),.d (.int .i64 a1199.2.2.2.1)]]),(1,.cel 1 [[.d (.sl 1 (b54.map (eI .i64)))]]),(2,.cel 1 [[.hs 3 1 0 [p0].length]]),(3,.dat 1 ([p0].map q1p)),(4,.loop [(2,.d (.nilsl)),(3,.d (.int .i64 0)),(4,.ref 0 4 0 0),(10,.fn 83 [.ref 1 1 0 0,.ref 2 1 0 0])] [11] A847 B848 .ready none),(5,.cel 3 [[.d (.int .i64 v1275),.d (.int .i64 v1277),.hs 7 1 0 1]]),(6,.dat 4 (a1199.2.2.2.2.map qb)),(7,.cel 1 [[.hs 8 2 0 a1372.2.length]]),(8,.dat 2 (a1372.2.map qh))],9⟩) (0,[]) m1373 h1374 (wkE [(5,7),(6,5),(7,6)] [] [8] rfl ⟨⟨_,rfl,.yld rfl (by decide) (ltd rfl)⟩,⟨_,rfl,.ref rfl (by decide) (ltd rfl)⟩,⟨_,rfl,.ref rfl (by decide) (ltd rfl)⟩,⟨_,rfl,.d (.refl _)⟩,⟨_,rfl,.ref rfl (by decide) (ltd rfl)⟩,⟨_,rfl,.d (.refl _)⟩,⟨_,rfl,.hs rfl (by decide) (ltd rfl)⟩,⟨_,rfl,.d (.refl _)⟩,⟨_,rfl,.d (.refl _)⟩,⟨_,rfl,.d (.refl _)⟩,⟨_,rfl,.d (.refl _)⟩,⟨_,rfl,.d (.refl _)⟩,trivial⟩ ⟨⟨ltd rfl,.inr ⟨by decide,_,rfl,qq (.cons (.hs rfl (by decide) (ltd rfl)) rfl (.cons (.d (.refl _)) rfl (.cons (.d (.refl _)) rfl (.cons (.d (.refl _)) rfl .nil))))⟩⟩,⟨ltd rfl,.inr ⟨by decide,_,rfl,qq (.cons (.d (.refl _)) rfl .nil)⟩⟩,⟨ltd rfl,.inr ⟨by decide,_,rfl,qq (.cons (.hs rfl (by decide) (ltd rfl)) rfl .nil)⟩⟩,⟨ltd rfl,.inr ⟨by decide,_,rfl,.dat _ _⟩⟩,⟨ltd rfl,.inr ⟨by decide,_,rfl,q5z (.cons rfl (.d (.refl _)) (.cons rfl (.d (.refl _)) (.cons rfl (.ref rfl (by decide) (ltd rfl)) (.cons rfl ((q5e (.cons (.ref rfl (by decide) (ltd rfl)) (.cons (.ref rfl (by decide) (ltd rfl)) .nil)))) .nil))))⟩⟩,⟨ltd rfl,.inr ⟨by decide,_,rfl,qq (.cons (.d (.refl _)) rfl (.cons (.d (.refl _)) rfl (.cons (.hs rfl (by decide) (ltd rfl)) rfl .nil)))⟩⟩,⟨ltd rfl,.inr ⟨by decide,_,rfl,.dat _ _⟩⟩,⟨ltd rfl,.inr ⟨by decide,_,rfl,q79 (.cons (.nil (by decide) (ltd rfl)) rfl .nil)⟩⟩,⟨ltd rfl,.inl ⟨by decide,_,by decide,rfl⟩⟩,trivial⟩) ?_
     intro a1372 y1370 h1371
     unfold q5n at h1371
     refine q8<|q6<|q9 (.d (.bool (decide (a1372.1 < (v1341.length : Int))))) rfl rfl<|q7<|q8 ?_
     refine qd rfl h1371 (fun _ h1371=>?_) (fun _ h1371=>?_)
     ·refine qg<|q8 ?_
      obtain ⟨m1389,h1388,h1371⟩:=bindE h1371
      refine qn (fun b1390=>b1390 = m1389) (fun (b1390 : List api_Span)=>⟨[(0,.yld 4),(1,.ref 1 1 0 0),(2,.ref 2 1 0 0),(4,.d (.int .i64 a1199.1)),(5,.ref 5 3 0 0),(6,.d (.int .i64 0)),(29,.hs 3 1 0 [p0].length),(30,.d (.int .i64 1)),(31,.d (.int .i64 0)),(36,.d (.sl 4 (v1341.map qb))),(37,.d (.int .i64 (v1341.length : Int))),(38,.d (.int .i64 a1372.1))],[(0,.cel 4 [[.hs 6 4 0 a1199.2.2.2.2.length,.d (.sl 2 (a1199.2.1.map qh)),.d (.int .i64 a1199.2.2.1),.d (.int .i64 a1199.2.2.2.1)]]),(1,.cel 1 [[.d (.sl 1 (b54.map (eI .i64)))]]),(2,.cel 1 [[.hs 3 1 0 [p0].length]]),(3,.dat 1 ([p0].map q1p)),(4,.loop [(2,.d (.nilsl)),(3,.d (.int .i64 0)),(4,.ref 0 4 0 0),(10,.fn 83 [.ref 1 1 0 0,.ref 2 1 0 0])] [11] A847 B848 .ready none),(5,.cel 3 [[.d (.int .i64 v1275),.d (.int .i64 v1277),.hs 7 1 0 1]]),(6,.dat 4 (a1199.2.2.2.2.map qb)),(7,.cel 1 [[.hs 8 2 0 b1390.length]]),(8,.dat 2 (b1390.map qh))],9⟩) (by simp) ?_ ?_
      ·refine q8<|q6 ?_
       obtain ⟨v1391,h1392,h1388⟩:=bindE h1388
       refine q10 (enc:=qb) h1392 rfl rfl rfl rfl rfl rfl<|q9 (.d (.agg [.int .i64 v1391.X0,.int .i64 v1391.Y0,.int .i64 v1391.X1,.int .i64 v1391.Y1])) rfl rfl<|q3q rfl rfl<|q1z 9 (.dat 4 [[.int .i64 v1391.X0,.int .i64 v1391.Y0,.int .i64 v1391.X1,.int .i64 v1391.Y1]]) rfl rfl<|q7<|q8<|q6<|q9 (.ref 9 4 0 0) rfl rfl<|q9 (.d (.int .i64 v1391.X0)) rfl rfl<|q9 (.ref 5 3 0 0) rfl rfl<|q9 (.d (.int .i64 v1275)) rfl rfl<|q9 (.d (.bool (decide (v1391.X0≤v1275)))) rfl rfl ?_
       obtain ⟨c1393,h1394,h1388⟩:=bindE h1388
       refine qt 7 (fun A st=>∃ (j1395 j1396 j1397 j1398 j1399 j1400 : V),st = A [(53,.d (.bool c1393)),(52,j1400),(51,j1399),(50,j1398),(49,j1397),(48,j1396),(47,j1395)]) ?_ ?_
       ·refine qz rfl rfl h1394 (fun h1394=>?_) (fun h1394=>?_)
        ·refine q9 (.ref 5 3 0 0) rfl rfl<|q9 (.d (.int .i64 v1275)) rfl rfl<|q9 (.ref 9 4 0 2) rfl rfl<|q9 (.d (.int .i64 v1391.X1)) rfl rfl<|q9 (.d (.bool (decide (v1275 < v1391.X1)))) rfl rfl<|q9 (.d (.bool (decide (v1275 < v1391.X1)))) rfl rfl<|q7 ?_
         obtain rfl:=someE h1394
         exact ⟨_,_,_,_,_,_,rfl⟩
        ·refine qc rfl<|qc rfl<|qc rfl<|qc rfl<|qc rfl<|q9 (.d (.bool false)) rfl rfl<|q7 ?_
         obtain rfl:=someE h1394
         exact ⟨_,_,_,_,_,_,rfl⟩
       ·rintro _ ⟨j1395,j1396,j1397,j1398,j1399,j1400,rfl⟩
        refine q7 ?_
        refine qd rfl h1388 (fun _ h1388=>?_) (fun _ h1388=>?_)
        ·refine qk [(some [7],[7]),(some [],[]),(some [8,10],[8,11]),(some [],[10]),(some [],[]),(some [9],[]),(some [],[]),(some [9],[]),(some [],[]),(some [7],[]),(some [],[]),(some [],[]),(some [5],[]),(some [],[]),(some [],[]),(some [5],[]),(some [],[])] (by kernel_rfl)<|q9 (.ref 5 3 0 2) rfl rfl<|q9 (.hs 7 1 0 1) rfl rfl<|q0 rfl rfl<|q9 (.ref 5 3 0 2) rfl rfl<|q9 (.hs 7 1 0 1) rfl rfl<|q0 rfl rfl<|q9 (.ref 7 1 0 0) rfl rfl<|q9 (.hs 8 2 0 a1372.2.length) rfl rfl<|q9 (.ref 9 4 0 1) rfl rfl<|q9 (.d (.int .i64 v1391.Y0)) rfl rfl<|q9 (.ref 9 4 0 3) rfl rfl<|q9 (.d (.int .i64 v1391.Y1)) rfl rfl<|q9 (.d (.agg [.int .i64 v1391.Y0,.int .i64 v1391.Y1])) rfl rfl<|q3m (.hs 10 2 0 [({Lo:=v1391.Y0,Hi:=v1391.Y1} : api_Span)].length) (.dat 2 ([({Lo:=v1391.Y0,Hi:=v1391.Y1} : api_Span)].map qh)) rfl rfl ?_
         obtain ⟨z1401,h1402,h1388⟩:=bindE h1388
         refine q5o (xs:=a1372.2) (ys:=[({Lo:=v1391.Y0,Hi:=v1391.Y1} : api_Span)]) (enc:=qh) (.hs 10 2 0 [({Lo:=v1391.Y0,Hi:=v1391.Y1} : api_Span)].length) h1402 rfl rfl rfl rfl rfl rfl rfl (q4b rfl rfl) rfl rfl rfl rfl<|q9 (.ref 7 1 0 0) rfl rfl<|q1z 7 (.cel 1 [[.hs 11 2 0 z1401.length]]) rfl rfl<|q7<|qf ?_
         obtain rfl:=someE h1388
         exact ⟨_,rfl,wkE [(5,5),(6,6),(7,7),(8,11)] [] [] rfl ⟨⟨_,rfl,.yld rfl (by decide) (ltd rfl)⟩,⟨_,rfl,.ref rfl (by decide) (ltd rfl)⟩,⟨_,rfl,.ref rfl (by decide) (ltd rfl)⟩,⟨_,rfl,.d (.refl _)⟩,⟨_,rfl,.ref rfl (by decide) (ltd rfl)⟩,⟨_,rfl,.d (.refl _)⟩,⟨_,rfl,.hs rfl (by decide) (ltd rfl)⟩,⟨_,rfl,.d (.refl _)⟩,⟨_,rfl,.d (.refl _)⟩,⟨_,rfl,.d (.refl _)⟩,⟨_,rfl,.d (.refl _)⟩,⟨_,rfl,.d (.refl _)⟩,trivial⟩ ⟨⟨ltd rfl,.inr ⟨by decide,_,rfl,qq (.cons (.hs rfl (by decide) (ltd rfl)) rfl (.cons (.d (.refl _)) rfl (.cons (.d (.refl _)) rfl (.cons (.d (.refl _)) rfl .nil))))⟩⟩,⟨ltd rfl,.inr ⟨by decide,_,rfl,qq (.cons (.d (.refl _)) rfl .nil)⟩⟩,⟨ltd rfl,.inr ⟨by decide,_,rfl,qq (.cons (.hs rfl (by decide) (ltd rfl)) rfl .nil)⟩⟩,⟨ltd rfl,.inr ⟨by decide,_,rfl,.dat _ _⟩⟩,⟨ltd rfl,.inr ⟨by decide,_,rfl,q5z (.cons rfl (.d (.refl _)) (.cons rfl (.d (.refl _)) (.cons rfl (.ref rfl (by decide) (ltd rfl)) (.cons rfl ((q5e (.cons (.ref rfl (by decide) (ltd rfl)) (.cons (.ref rfl (by decide) (ltd rfl)) .nil)))) .nil))))⟩⟩,⟨ltd rfl,.inr ⟨by decide,_,rfl,qq (.cons (.d (.refl _)) rfl (.cons (.d (.refl _)) rfl (.cons (.hs rfl (by decide) (ltd rfl)) rfl .nil)))⟩⟩,⟨ltd rfl,.inr ⟨by decide,_,rfl,.dat _ _⟩⟩,⟨ltd rfl,.inr ⟨by decide,_,rfl,qq (.cons (.hs rfl (by decide) (ltd rfl)) rfl .nil)⟩⟩,⟨ltd rfl,.inr ⟨by decide,_,rfl,.dat _ _⟩⟩,trivial⟩⟩
        ·refine qg<|qf ?_
         obtain rfl:=someE h1388
         exact ⟨_,rfl,wkE [(5,5),(6,6),(7,7),(8,8)] [] [] rfl ⟨⟨_,rfl,.yld rfl (by decide) (ltd rfl)⟩,⟨_,rfl,.ref rfl (by decide) (ltd rfl)⟩,⟨_,rfl,.ref rfl (by decide) (ltd rfl)⟩,⟨_,rfl,.d (.refl _)⟩,⟨_,rfl,.ref rfl (by decide) (ltd rfl)⟩,⟨_,rfl,.d (.refl _)⟩,⟨_,rfl,.hs rfl (by decide) (ltd rfl)⟩,⟨_,rfl,.d (.refl _)⟩,⟨_,rfl,.d (.refl _)⟩,⟨_,rfl,.d (.refl _)⟩,⟨_,rfl,.d (.refl _)⟩,⟨_,rfl,.d (.refl _)⟩,trivial⟩ ⟨⟨ltd rfl,.inr ⟨by decide,_,rfl,qq (.cons (.hs rfl (by decide) (ltd rfl)) rfl (.cons (.d (.refl _)) rfl (.cons (.d (.refl _)) rfl (.cons (.d (.refl _)) rfl .nil))))⟩⟩,⟨ltd rfl,.inr ⟨by decide,_,rfl,qq (.cons (.d (.refl _)) rfl .nil)⟩⟩,⟨ltd rfl,.inr ⟨by decide,_,rfl,qq (.cons (.hs rfl (by decide) (ltd rfl)) rfl .nil)⟩⟩,⟨ltd rfl,.inr ⟨by decide,_,rfl,.dat _ _⟩⟩,⟨ltd rfl,.inr ⟨by decide,_,rfl,q5z (.cons rfl (.d (.refl _)) (.cons rfl (.d (.refl _)) (.cons rfl (.ref rfl (by decide) (ltd rfl)) (.cons rfl ((q5e (.cons (.ref rfl (by decide) (ltd rfl)) (.cons (.ref rfl (by decide) (ltd rfl)) .nil)))) .nil))))⟩⟩,⟨ltd rfl,.inr ⟨by decide,_,rfl,qq (.cons (.d (.refl _)) rfl (.cons (.d (.refl _)) rfl (.cons (.hs rfl (by decide) (ltd rfl)) rfl .nil)))⟩⟩,⟨ltd rfl,.inr ⟨by decide,_,rfl,.dat _ _⟩⟩,⟨ltd rfl,.inr ⟨by decide,_,rfl,qq (.cons (.hs rfl (by decide) (ltd rfl)) rfl .nil)⟩⟩,⟨ltd rfl,.inr ⟨by decide,_,rfl,.dat _ _⟩⟩,trivial⟩⟩
      ·intro b1390 hb
       subst hb
       refine q6<|q9 (.d (.int .i64 (w64 (a1372.1 + 1)))) rfl rfl<|q0 rfl rfl<|q7<|qf ?_
       exact ⟨_,(Option.some.inj h1371).symm,wkE [(5,5),(6,6),(7,7),(8,8)] [] [] rfl ⟨⟨_,rfl,.yld rfl (by decide) (ltd rfl)⟩,⟨_,rfl,.ref rfl (by decide) (ltd rfl)⟩,⟨_,rfl,.ref rfl (by decide) (ltd rfl)⟩,⟨_,rfl,.d (.refl _)⟩,⟨_,rfl,.ref rfl (by decide) (ltd rfl)⟩,⟨_,rfl,.d (.refl _)⟩,⟨_,rfl,.hs rfl (by decide) (ltd rfl)⟩,⟨_,rfl,.d (.refl _)⟩,⟨_,rfl,.d (.refl _)⟩,⟨_,rfl,.d (.refl _)⟩,⟨_,rfl,.d (.refl _)⟩,⟨_,rfl,.d (.refl _)⟩,trivial⟩ ⟨⟨ltd rfl,.inr ⟨by decide,_,rfl,qq (.cons (.hs rfl (by decide) (ltd rfl)) rfl (.cons (.d (.refl _)) rfl (.cons (.d (.refl _)) rfl (.cons (.d (.refl _)) rfl .nil))))⟩⟩,⟨ltd rfl,.inr ⟨by decide,_,rfl,qq (.cons (.d (.refl _)) rfl .nil)⟩⟩,⟨ltd rfl,.inr ⟨by decide,_,rfl,qq (.cons (.hs rfl (by decide) (ltd rfl)) rfl .nil)⟩⟩,⟨ltd rfl,.inr ⟨by decide,_,rfl,.dat _ _⟩⟩,⟨ltd rfl,.inr ⟨by decide,_,rfl,q5z (.cons rfl (.d (.refl _)) (.cons rfl (.d (.refl _)) (.cons rfl (.ref rfl (by decide) (ltd rfl)) (.cons rfl ((q5e (.cons (.ref rfl (by decide) (ltd rfl)) (.cons (.ref rfl (by decide) (ltd rfl)) .nil)))) .nil))))⟩⟩,⟨ltd rfl,.inr ⟨by decide,_,rfl,qq (.cons (.d (.refl _)) rfl (.cons (.d (.refl _)) rfl (.cons (.hs rfl (by decide) (ltd rfl)) rfl .nil)))⟩⟩,⟨ltd rfl,.inr ⟨by decide,_,rfl,.dat _ _⟩⟩,⟨ltd rfl,.inr ⟨by decide,_,rfl,qq (.cons (.hs rfl (by decide) (ltd rfl)) rfl .nil)⟩⟩,⟨ltd rfl,.inr ⟨by decide,_,rfl,.dat _ _⟩⟩,trivial⟩⟩
     ·refine qp ?_
      refine ⟨_,(Option.some.inj h1371).symm,fun hm=>?_⟩
      subst hm
      obtain rfl:=someE h1338
      exact ⟨_,rfl,wkE [(5,5),(6,6),(7,7),(8,8)] [] [] rfl ⟨⟨_,rfl,.yld rfl (by decide) (ltd rfl)⟩,⟨_,rfl,.ref rfl (by decide) (ltd rfl)⟩,⟨_,rfl,.ref rfl (by decide) (ltd rfl)⟩,⟨_,rfl,.d (.refl _)⟩,⟨_,rfl,.ref rfl (by decide) (ltd rfl)⟩,⟨_,rfl,.hs rfl (by decide) (ltd rfl)⟩,⟨_,rfl,.d (.refl _)⟩,⟨_,rfl,.d (.refl _)⟩,trivial⟩ ⟨⟨ltd rfl,.inr ⟨by decide,_,rfl,qq (.cons (.hs rfl (by decide) (ltd rfl)) rfl (.cons (.d (.refl _)) rfl (.cons (.d (.refl _)) rfl (.cons (.d (.refl _)) rfl .nil))))⟩⟩,⟨ltd rfl,.inr ⟨by decide,_,rfl,qq (.cons (.d (.refl _)) rfl .nil)⟩⟩,⟨ltd rfl,.inr ⟨by decide,_,rfl,qq (.cons (.hs rfl (by decide) (ltd rfl)) rfl .nil)⟩⟩,⟨ltd rfl,.inr ⟨by decide,_,rfl,.dat _ _⟩⟩,⟨ltd rfl,.inr ⟨by decide,_,rfl,q5z (.cons rfl (.d (.refl _)) (.cons rfl (.d (.refl _)) (.cons rfl (.ref rfl (by decide) (ltd rfl)) (.cons rfl ((q5e (.cons (.ref rfl (by decide) (ltd rfl)) (.cons (.ref rfl (by decide) (ltd rfl)) .nil)))) .nil))))⟩⟩,⟨ltd rfl,.inr ⟨by decide,_,rfl,qq (.cons (.d (.refl _)) rfl (.cons (.d (.refl _)) rfl (.cons (.hs rfl (by decide) (ltd rfl)) rfl .nil)))⟩⟩,⟨ltd rfl,.inr ⟨by decide,_,rfl,.dat _ _⟩⟩,⟨ltd rfl,.inr ⟨by decide,_,rfl,qq (.cons (.hs rfl (by decide) (ltd rfl)) rfl .nil)⟩⟩,⟨ltd rfl,.inr ⟨by decide,_,rfl,.dat _ _⟩⟩,trivial⟩⟩
    ·intro b1340 hb
     subst hb
     refine q6<|q9 (.d (.int .i64 1)) rfl rfl<|q0 rfl rfl<|q7<|qbu<|q8<|q6<|q9 (.d (.bool false)) rfl rfl<|q7<|q8<|qct rfl<|qp<|qhg<|q8 ?_
     refine q89 (st':=⟨[(0,.yld 4),(1,.ref 1 1 0 0),(2,.ref 2 1 0 0),(4,.d (.int .i64 a1199.1)),(5,.ref 5 3 0 0)],[(0,.cel 4 [[.hs 6 4 0 a1199.2.2.2.2.length,.d (.sl 2 (a1199.2.1.map qh)),.d (.int .i64 a1199.2.2.1),.d (.int .i64 a1199.2.2.2.1)]]),(1,.cel 1 [[.d (.sl 1 (b54.map (eI .i64)))]]),(2,.cel 1 [[.hs 3 1 0 [p0].length]]),(3,.dat 1 ([p0].map q1p)),(4,.loop [(2,.d (.nilsl)),(3,.d (.int .i64 0)),(4,.ref 0 4 0 0),(10,.fn 83 [.ref 1 1 0 0,.ref 2 1 0 0])] [11] A847 B848 .ready none),(5,.cel 3 [[.d (.int .i64 v1275),.d (.int .i64 v1277),.hs 7 1 0 1]]),(6,.dat 4 (a1199.2.2.2.2.map qb)),(7,.cel 1 [[.d (.sl 2 (b1340.map qh))]])],8⟩) (wkE [(5,5),(6,6),(7,7)] [8] [] rfl ⟨⟨_,rfl,.yld rfl (by decide) (ltd rfl)⟩,⟨_,rfl,.ref rfl (by decide) (ltd rfl)⟩,⟨_,rfl,.ref rfl (by decide) (ltd rfl)⟩,⟨_,rfl,.d (.refl _)⟩,⟨_,rfl,.ref rfl (by decide) (ltd rfl)⟩,trivial⟩ ⟨⟨ltd rfl,.inr ⟨by decide,_,rfl,qq (.cons (.hs rfl (by decide) (ltd rfl)) rfl (.cons (.d (.refl _)) rfl (.cons (.d (.refl _)) rfl (.cons (.d (.refl _)) rfl .nil))))⟩⟩,⟨ltd rfl,.inr ⟨by decide,_,rfl,qq (.cons (.d (.refl _)) rfl .nil)⟩⟩,⟨ltd rfl,.inr ⟨by decide,_,rfl,qq (.cons (.hs rfl (by decide) (ltd rfl)) rfl .nil)⟩⟩,⟨ltd rfl,.inr ⟨by decide,_,rfl,.dat _ _⟩⟩,⟨ltd rfl,.inr ⟨by decide,_,rfl,q5z (.cons rfl (.d (.refl _)) (.cons rfl (.d (.refl _)) (.cons rfl (.ref rfl (by decide) (ltd rfl)) (.cons rfl ((q5e (.cons (.ref rfl (by decide) (ltd rfl)) (.cons (.ref rfl (by decide) (ltd rfl)) .nil)))) .nil))))⟩⟩,⟨ltd rfl,.inr ⟨by decide,_,rfl,qq (.cons (.d (.refl _)) rfl (.cons (.d (.refl _)) rfl (.cons (.hs rfl (by decide) (ltd rfl)) rfl .nil)))⟩⟩,⟨ltd rfl,.inr ⟨by decide,_,rfl,.dat _ _⟩⟩,⟨ltd rfl,.inr ⟨by decide,_,rfl,qq (.cons (qcj rfl rfl (by decide)) rfl .nil)⟩⟩,trivial⟩) ?_ (by simp)
     refine q6<|q0 rfl rfl<|q9 (.agg [.d (.int .i64 v1275),.d (.int .i64 v1277),.hs 7 1 0 1]) rfl rfl ?_
     obtain ⟨m1408,h1407,h1198⟩:=bindE h1198
     refine qj3 (fun b1409=>b1409 = m1408) (fun (b1409 : List api_Span × Int × Int × List api_Rect)=>⟨[(0,.yld 4),(1,.ref 1 1 0 0),(2,.ref 2 1 0 0),(4,.d (.int .i64 a1199.1)),(74,.d (.bool true))],[(0,.cel 4 [[.hs 5 4 0 b1409.2.2.2.length,.d (.sl 2 (b1409.1.map qh)),.d (.int .i64 b1409.2.1),.d (.int .i64 b1409.2.2.1)]]),(1,.cel 1 [[.d (.sl 1 (b54.map (eI .i64)))]]),(2,.cel 1 [[.hs 3 1 0 [p0].length]]),(3,.dat 1 ([p0].map q1p)),(4,.loop [(2,.d (.nilsl)),(3,.d (.int .i64 0)),(4,.ref 0 4 0 0),(10,.fn 83 [.ref 1 1 0 0,.ref 2 1 0 0])] [11] A847 B848 .ready none),(5,.dat 4 (b1409.2.2.2.map qb))],6⟩) hA847 hB848 rfl rfl rfl rfl rfl rfl ?_ ?_
     ·refine q6<|q3q rfl rfl<|q1z 8 (.cel 3 [[.d (.int .i64 v1275),.d (.int .i64 v1277),.hs 7 1 0 1]]) rfl rfl<|q7<|qf ?_
      refine ⟨rfl,_,rfl,?_⟩
      refine ql<|q8<|q6<|q9 (.ref 8 3 0 2) rfl rfl<|q9 (.hs 7 1 0 1) rfl rfl<|q9 (.ref 7 1 0 0) rfl rfl<|q9 (.d (.sl 2 (b1340.map qh))) rfl rfl ?_
      obtain ⟨r1410,h1411,h1407⟩:=bindE h1407
      refine q11 [.d (.sl 2 (b1340.map qh))] (qls b1340 r1410 h1411) rfl rfl rfl (.inl rfl)<|q0 rfl rfl<|q9 (.d (.sl 2 (r1410.1.map qh))) rfl rfl<|q9 (.d (.int .i64 r1410.2)) rfl rfl<|qa rfl rfl<|qa rfl rfl<|q7<|q6<|q9 (.ref 8 3 0 0) rfl rfl<|q9 (.d (.int .i64 v1275)) rfl rfl<|q9 (.ref 8 3 0 1) rfl rfl<|q9 (.d (.int .i64 v1277)) rfl rfl<|q0 rfl rfl ?_
      obtain ⟨e1412,h1413,h1407⟩:=bindE h1407
      refine q12 [(0,0),(1,6)] [(0,0),(1,3),(2,3),(3,3),(4,3),(5,3),(6,1),(7,3),(8,3),(9,2)] [.ref 0 4 0 0,.d (.int .i64 v1275),.d (.int .i64 v1277),.d (.sl 2 (r1410.1.map qh))] (.d (.tup [])) [(0,.cel 4 [[.hs 9 4 0 e1412.2.2.2.length,.d (.sl 2 (e1412.1.map qh)),.d (.int .i64 e1412.2.1),.d (.int .i64 e1412.2.2.1)]]),(9,.dat 4 (e1412.2.2.2.map qb))] [(0,.cel 4 [[.hs 9 4 0 e1412.2.2.2.length,.d (.sl 2 (e1412.1.map qh)),.d (.int .i64 e1412.2.1),.d (.int .i64 e1412.2.2.1)]]),(9,.dat 4 (e1412.2.2.2.map qb)),(1,.cel 1 [[.d (.sl 1 (b54.map (eI .i64)))]]),(2,.cel 1 [[.hs 3 1 0 [p0].length]]),(3,.dat 1 ([p0].map q1p)),(4,.loop [(2,.d (.nilsl)),(3,.d (.int .i64 0)),(4,.ref 0 4 0 0),(10,.fn 83 [.ref 1 1 0 0,.ref 2 1 0 0])] [11] A847 B848 .busy none),(5,.cel 3 [[.d (.int .i64 v1275),.d (.int .i64 v1277),.hs 7 1 0 1]]),(7,.cel 1 [[.d (.sl 2 (b1340.map qh))]]),(8,.cel 3 [[.d (.int .i64 v1275),.d (.int .i64 v1277),.hs 7 1 0 1]])] 10 (qb2 a1199.2.2.2.2 a1199.2.1 a1199.2.2.1 a1199.2.2.2.1 v1275 v1277 r1410.1 e1412 h1413) rfl rfl rfl (qx [(0,0),(1,6)] [] [] rfl ⟨⟨_,rfl,.ref rfl (by decide) (ltd rfl)⟩,⟨_,rfl,.d (.refl _)⟩,⟨_,rfl,.d (.refl _)⟩,⟨_,rfl,.d (.refl _)⟩,trivial⟩ ⟨⟨ltd rfl,.inr ⟨by decide,_,rfl,qq (.cons (.hs rfl (by decide) (ltd rfl)) rfl (.cons (.d (.refl _)) rfl (.cons (.d (.refl _)) rfl (.cons (.d (.refl _)) rfl .nil))))⟩⟩,⟨ltd rfl,.inr ⟨by decide,_,rfl,.dat _ _⟩⟩,trivial⟩) (qx [(0,0),(1,3),(2,3),(3,3),(4,3),(5,3),(6,1),(7,3),(8,3),(9,2)] [] [] rfl ⟨⟨_,rfl,.d (.refl _)⟩,trivial⟩ ⟨⟨ltd rfl,.inr ⟨by decide,_,rfl,qq (.cons (.hs rfl (by decide) (ltd rfl)) rfl (.cons (.d (.refl _)) rfl (.cons (.d (.refl _)) rfl (.cons (.d (.refl _)) rfl .nil))))⟩⟩,⟨ltd rfl,.inr ⟨by decide,_,rfl,.dat _ _⟩⟩,trivial⟩) rfl ⟨.inl rfl,.inl rfl,.inr ⟨rfl,rfl⟩,.inr ⟨rfl,rfl⟩,.inr ⟨rfl,rfl⟩,.inr ⟨rfl,rfl⟩,.inr ⟨rfl,rfl⟩,.inr ⟨rfl,rfl⟩,.inr ⟨rfl,rfl⟩,trivial⟩<|q7<|qf<|qv<|qf ?_
      refine ⟨_,rfl,?_⟩
      obtain rfl:=someE h1407
      exact ⟨_,rfl,wkE [(5,9)] [] [] rfl ⟨⟨_,rfl,.yld rfl (by decide) (ltd rfl)⟩,⟨_,rfl,.ref rfl (by decide) (ltd rfl)⟩,⟨_,rfl,.ref rfl (by decide) (ltd rfl)⟩,⟨_,rfl,.d (.refl _)⟩,⟨_,rfl,.d (.refl _)⟩,trivial⟩ ⟨⟨ltd rfl,.inr ⟨by decide,_,rfl,qq (.cons (.hs rfl (by decide) (ltd rfl)) rfl (.cons (.d (.refl _)) rfl (.cons (.d (.refl _)) rfl (.cons (.d (.refl _)) rfl .nil))))⟩⟩,⟨ltd rfl,.inr ⟨by decide,_,rfl,qq (.cons (.d (.refl _)) rfl .nil)⟩⟩,⟨ltd rfl,.inr ⟨by decide,_,rfl,qq (.cons (.hs rfl (by decide) (ltd rfl)) rfl .nil)⟩⟩,⟨ltd rfl,.inr ⟨by decide,_,rfl,.dat _ _⟩⟩,⟨ltd rfl,.inr ⟨by decide,_,rfl,q5z (.cons rfl (.d (.refl _)) (.cons rfl (.d (.refl _)) (.cons rfl (.ref rfl (by decide) (ltd rfl)) (.cons rfl ((q5e (.cons (.ref rfl (by decide) (ltd rfl)) (.cons (.ref rfl (by decide) (ltd rfl)) .nil)))) .nil))))⟩⟩,⟨ltd rfl,.inr ⟨by decide,_,rfl,.dat _ _⟩⟩,trivial⟩⟩
     ·intro b1409 hb
      subst hb
      refine q9 (.d (.bool (!true))) rfl rfl<|q7 ?_
      refine qd rfl h1198 (fun _ h1198=>?_) (fun _ h1198=>?_)
      ·refine qm ?_
       refine ⟨_,(Option.some.inj h1198).symm,fun hm=>?_⟩
       subst hm
       refine ⟨.inr rfl,_,rfl,_,_,.nor,rfl,by decide,?_⟩
       refine qbt<|qf ?_
       obtain rfl:=someE h844
       exact ⟨_,rfl,wkE [(0,0),(1,5)] [] [] rfl ⟨⟨_,rfl,.ref rfl (by decide) (ltd rfl)⟩,trivial⟩ ⟨⟨ltd rfl,.inr ⟨by decide,_,rfl,qq (.cons (.hs rfl (by decide) (ltd rfl)) rfl (.cons (.d (.refl _)) rfl (.cons (.d (.refl _)) rfl (.cons (.d (.refl _)) rfl .nil))))⟩⟩,⟨ltd rfl,.inr ⟨by decide,_,rfl,.dat _ _⟩⟩,trivial⟩⟩
      ·refine qg<|qf<|qv<|q6<|q0 rfl rfl<|q9 (.d (.int .i64 (w64 (a1199.1 + 1)))) rfl rfl<|qa rfl rfl<|q7<|qf ?_
       exact ⟨_,(Option.some.inj h1198).symm,wkE [(5,5)] [] [] rfl ⟨⟨_,rfl,.yld rfl (by decide) (ltd rfl)⟩,⟨_,rfl,.ref rfl (by decide) (ltd rfl)⟩,⟨_,rfl,.ref rfl (by decide) (ltd rfl)⟩,⟨_,rfl,.d (.refl _)⟩,trivial⟩ ⟨⟨ltd rfl,.inr ⟨by decide,_,rfl,qq (.cons (.hs rfl (by decide) (ltd rfl)) rfl (.cons (.d (.refl _)) rfl (.cons (.d (.refl _)) rfl (.cons (.d (.refl _)) rfl .nil))))⟩⟩,⟨ltd rfl,.inr ⟨by decide,_,rfl,qq (.cons (.d (.refl _)) rfl .nil)⟩⟩,⟨ltd rfl,.inr ⟨by decide,_,rfl,qq (.cons (.hs rfl (by decide) (ltd rfl)) rfl .nil)⟩⟩,⟨ltd rfl,.inr ⟨by decide,_,rfl,.dat _ _⟩⟩,⟨ltd rfl,.inr ⟨by decide,_,rfl,q5z (.cons rfl (.d (.refl _)) (.cons rfl (.d (.refl _)) (.cons rfl (.ref rfl (by decide) (ltd rfl)) (.cons rfl ((q5e (.cons (.ref rfl (by decide) (ltd rfl)) (.cons (.ref rfl (by decide) (ltd rfl)) .nil)))) .nil))))⟩⟩,⟨ltd rfl,.inr ⟨by decide,_,rfl,.dat _ _⟩⟩,trivial⟩⟩
   ·refine qp ?_
    refine ⟨_,(Option.some.inj h1198).symm,fun hm=>?_⟩
    subst hm
    refine ⟨.inl rfl,_,rfl,_,_,.nor,rfl,by decide,?_⟩
    refine qbt<|qf ?_
    obtain rfl:=someE h844
    exact ⟨_,rfl,wkE [(0,0),(1,5)] [] [] rfl ⟨⟨_,rfl,.ref rfl (by decide) (ltd rfl)⟩,trivial⟩ ⟨⟨ltd rfl,.inr ⟨by decide,_,rfl,qq (.cons (.hs rfl (by decide) (ltd rfl)) rfl (.cons (.d (.refl _)) rfl (.cons (.d (.refl _)) rfl (.cons (.d (.refl _)) rfl .nil))))⟩⟩,⟨ltd rfl,.inr ⟨by decide,_,rfl,.dat _ _⟩⟩,trivial⟩⟩
  ·intro b846 st hb hw
   subst hb
   refine q89 hw ?_ (by simp)
   refine q8<|q6 ?_
   obtain ⟨m1415,h1414,h0⟩:=bindE h0
   refine qd2 [.ref 0 4 0 0] (fun b1416=>b1416 = m1415) (fun (b1416 : Int × List api_Rect)=>⟨[(26,.tup [.hs 0 4 0 b1416.2.length,.d (.int .i64 b1416.1)])],[(0,.dat 4 (b1416.2.map qb))],1⟩) rfl rfl Try.func66 rfl (by kernel_rfl) (by kernel_rfl) rfl ?_ ?_
   ·refine q8<|q6<|qa rfl rfl<|qa rfl rfl<|q7<|q8<|q8<|q6<|q0 rfl rfl<|q9 (.ref 0 4 0 0) rfl rfl<|q9 (.ref 0 4 0 0) rfl rfl<|q9 (.hs 1 4 0 b846.2.2.2.length) rfl rfl<|q9 (.d (.int .i64 (b846.2.2.2.length : Int))) rfl rfl<|q9 (.d (.bool (decide ((b846.2.2.2.length : Int) > 400)))) rfl rfl<|q7 ?_
    refine qd rfl h1414 (fun _ h1414=>?_) (fun _ h1414=>?_)
    ·refine q8<|q6<|qa rfl rfl<|qa rfl rfl<|q7<|qm ?_
     refine ⟨.inr rfl,_,rfl,?_⟩
     obtain rfl:=someE h1414
     exact ⟨_,rfl,wkE [] [] [0] rfl ⟨⟨_,rfl,(qi4 (.cons (.nil (by decide) (ltd rfl)) (.cons (.d (.refl _)) .nil)))⟩,trivial⟩ ⟨⟨ltd rfl,.inl ⟨by decide,_,by decide,rfl⟩⟩,trivial⟩⟩
    ·refine qg<|q8<|q6<|q0 rfl rfl<|q9 (.ref 0 4 0 0) rfl rfl<|q9 (.ref 0 4 0 0) rfl rfl<|q9 (.hs 1 4 0 b846.2.2.2.length) rfl rfl<|qa rfl rfl<|qa rfl rfl<|q7<|qm ?_
     refine ⟨.inr rfl,_,rfl,?_⟩
     obtain rfl:=someE h1414
     exact ⟨_,rfl,wkE [(0,1)] [] [] rfl ⟨⟨_,rfl,(qku (.cons (.hs rfl (by decide) (ltd rfl)) (.cons (.d (.refl _)) .nil)))⟩,trivial⟩ ⟨⟨ltd rfl,.inr ⟨by decide,_,rfl,.dat _ _⟩⟩,trivial⟩⟩
   ·intro b1416 hb
    subst hb
    refine q9 (.hs 0 4 0 b1416.2.length) rfl rfl<|q9 (.d (.int .i64 b1416.1)) rfl rfl<|qa rfl rfl<|qa rfl rfl<|q7<|qm ?_
    obtain rfl:=someE h0
    exact finD (.inr rfl) (v:=.tup [.hs 0 4 0 b1416.2.length,.d (.int .i64 b1416.1)]) rfl (qhh (q97 (q8v rfl rfl) (q97 rfl rfl))) (.refl _)
theorem q4x (p0 : List api_Rect) (p1 : List api_Rect) (r : Bool) (h0 : q1u p0 p1 = some r) : Pure Try.prog tab 51 [.sl 4 (p0.map qb),.sl 4 (p1.map qb)] (.bool r):=by
 unfold q1u at h0
 refine qu Try.func51 rfl (by kernel_rfl) (by kernel_rfl) rfl<|q8<|q6<|qa rfl rfl<|q7<|q8<|q8<|q6<|q0 rfl rfl<|q1b rfl rfl rfl rfl<|q0 rfl rfl<|q1b rfl rfl rfl rfl<|q9 (.d (.bool ((p0.length : Int) != (p1.length : Int)))) rfl rfl<|q7 ?_
 refine qd rfl h0 (fun _ h0=>?_) (fun _ h0=>?_)
 ·refine q8<|q6<|qa rfl rfl<|q7<|qm ?_
  obtain rfl:=someE h0
  exact finD (.inr rfl) (v:=.d (.bool false)) rfl rfl (.refl _)
 ·refine qg<|q8<|q8<|q6<|q0 rfl rfl<|q1b rfl rfl rfl rfl<|q0 rfl rfl<|q7 ?_
  obtain ⟨m20,h21,h0⟩:=bindE h0
  refine qn (fun b22=>.inl b22 = m20) (fun (b22 : Unit)=>⟨[],[],0⟩) (by simp) ?_ ?_
  ·refine qo (q45 p0 p1) (fun (a19 : Int)=>⟨[(0,.d (.sl 4 (p0.map qb))),(1,.d (.sl 4 (p1.map qb))),(12,.d (.int .i64 (p0.length : Int))),(13,.d (.int .i64 a19))],[],0⟩) 0 m20 h21 (wkE [] [] [] rfl ⟨⟨_,rfl,.d (.refl _)⟩,⟨_,rfl,.d (.refl _)⟩,⟨_,rfl,.d (.refl _)⟩,⟨_,rfl,.d (.refl _)⟩,trivial⟩ trivial) ?_
   intro a19 y17 h18
   unfold q45 at h18
   refine q8<|q6<|q9 (.d (.bool (decide (a19 < (p0.length : Int))))) rfl rfl<|q7<|q8 ?_
   refine qd rfl h18 (fun _ h18=>?_) (fun _ h18=>?_)
   ·refine qg<|q8<|ql<|q8<|q6<|q0 rfl rfl<|qa rfl rfl<|q7<|q8<|qk [(some [],[]),(some [],[]),(some [],[]),(some [],[]),(some [],[]),(some [],[]),(some [],[]),(some [],[]),(some [],[])] (by kernel_rfl)<|q0 rfl rfl<|q0 rfl rfl ?_
    obtain ⟨v27,h28,h18⟩:=bindE h18
    refine q10 (enc:=qb) h28 rfl rfl rfl rfl rfl rfl<|q9 (.d (.agg [.int .i64 v27.X0,.int .i64 v27.Y0,.int .i64 v27.X1,.int .i64 v27.Y1])) rfl rfl<|q0 rfl rfl<|q0 rfl rfl ?_
    obtain ⟨v29,h30,h18⟩:=bindE h18
    refine q10 (enc:=qb) h30 rfl rfl rfl rfl rfl rfl<|q9 (.d (.agg [.int .i64 v29.X0,.int .i64 v29.Y0,.int .i64 v29.X1,.int .i64 v29.Y1])) rfl rfl<|q9 (.d (.bool (!((v27.X0 == v29.X0) && ((v27.Y0 == v29.Y0) && ((v27.X1 == v29.X1) && ((v27.Y1 == v29.Y1) && true))))))) rfl rfl<|q7 ?_
    refine qd rfl h18 (fun _ h18=>?_) (fun _ h18=>?_)
    ·refine q8<|q6<|qa rfl rfl<|q7<|qm ?_
     refine ⟨_,(Option.some.inj h18).symm,fun hm=>?_⟩
     subst hm
     obtain rfl:=someE h0
     exact finD (.inr rfl) (v:=.d (.bool false)) rfl rfl (.refl _)
    ·refine qg<|qf<|qv<|q6<|q9 (.d (.int .i64 (w64 (a19 + 1)))) rfl rfl<|q0 rfl rfl<|q7<|qf ?_
     exact ⟨_,(Option.some.inj h18).symm,wkE [] [] [] rfl ⟨⟨_,rfl,.d (.refl _)⟩,⟨_,rfl,.d (.refl _)⟩,⟨_,rfl,.d (.refl _)⟩,⟨_,rfl,.d (.refl _)⟩,trivial⟩ trivial⟩
   ·refine qp ?_
    refine ⟨_,(Option.some.inj h18).symm,fun hm=>?_⟩
    subst hm
    exact ⟨_,rfl,wkE [] [] [] rfl trivial trivial⟩
  ·intro b22 hb
   subst hb
   refine q8<|q6<|qa rfl rfl<|q7<|qm ?_
   obtain rfl:=someE h0
   exact finD (.inr rfl) (v:=.d (.bool true)) rfl rfl (.refl _)
theorem qby (p0 : List api_Rect) (r : Int) (h0 : q6z p0 = some r) : Pure Try.prog tab 30 [.sl 4 (p0.map qb)] (.int .i64 r):=by
 unfold q6z at h0
 refine qu Try.func30 rfl (by kernel_rfl) (by kernel_rfl) rfl<|q8<|q6<|qa rfl rfl<|q7<|q8<|q8<|q6<|q0 rfl rfl<|q1b rfl rfl rfl rfl<|q9 (.d (.bool (decide ((p0.length : Int) > 400)))) rfl rfl<|q7 ?_
 refine qd rfl h0 (fun _ h0=>?_) (fun _ h0=>?_)
 ·refine q8<|q6<|qa rfl rfl<|q7<|qm ?_
  obtain rfl:=someE h0
  exact finD (.inr rfl) (v:=.d (.int .i64 4)) rfl rfl (.refl _)
 ·refine qg<|q8<|q8<|q6<|q0 rfl rfl ?_
  obtain ⟨r1,h2,h0⟩:=bindE h0
  refine q11 [.d (.sl 4 (p0.map qb)),.d (.fn 48 [])] (q73 p0 (fun x0=>q56 x0) 48 [] (fun x0 r hr=>qfu x0 r hr) r1 h2) rfl rfl rfl (.inl rfl)<|q7 ?_
  refine qd rfl h0 (fun _ h0=>?_) (fun _ h0=>?_)
  ·refine q8<|q6<|qa rfl rfl<|q7<|qm ?_
   obtain rfl:=someE h0
   exact finD (.inr rfl) (v:=.d (.int .i64 8)) rfl rfl (.refl _)
  ·refine qg<|q8<|q8<|q6<|q0 rfl rfl ?_
   obtain ⟨r3,h4,h0⟩:=bindE h0
   refine q11 [.d (.sl 4 (p0.map qb))] (qik p0 r3 h4) rfl rfl rfl (.inl rfl)<|q0 rfl rfl<|q9 (.d (.sl 4 (r3.1.map qb))) rfl rfl<|q9 (.d (.int .i64 r3.2)) rfl rfl<|qa rfl rfl<|qa rfl rfl<|q7<|q8<|q6<|q0 rfl rfl<|q9 (.d (.bool (r3.2 != 0))) rfl rfl ?_
   obtain ⟨c7,h8,h0⟩:=bindE h0
   refine qt 6 (fun A st=>∃ (j9 j10 j11 j12 j13 : V),st = A [(22,.d (.bool c7)),(21,j13),(20,j12),(19,j11),(18,j10),(17,j9)]) ?_ ?_
   ·refine qz rfl rfl h8 (fun h8=>?_) (fun h8=>?_)
    ·refine qc rfl<|qc rfl<|qc rfl<|qc rfl<|q9 (.d (.bool true)) rfl rfl<|q7 ?_
     obtain rfl:=someE h8
     exact ⟨_,_,_,_,_,rfl⟩
    ·refine q0 rfl rfl<|q0 rfl rfl ?_
     obtain ⟨r14,h15,h8⟩:=bindE h8
     refine q11 [.d (.sl 4 (r3.1.map qb)),.d (.sl 4 (p0.map qb))] (q4x r3.1 p0 r14 h15) rfl rfl rfl (.inl rfl)<|q9 (.d (.bool (!r14))) rfl rfl<|q9 (.d (.bool (!r14))) rfl rfl<|q7 ?_
     obtain rfl:=someE h8
     exact ⟨_,_,_,_,_,rfl⟩
   ·rintro _ ⟨j9,j10,j11,j12,j13,rfl⟩
    refine q7 ?_
    refine qd rfl h0 (fun _ h0=>?_) (fun _ h0=>?_)
    ·refine q8<|q6<|qa rfl rfl<|q7<|qm ?_
     obtain rfl:=someE h0
     exact finD (.inr rfl) (v:=.d (.int .i64 8)) rfl rfl (.refl _)
    ·refine qg<|q8<|q6<|qa rfl rfl<|q7<|qm ?_
     obtain rfl:=someE h0
     exact finD (.inr rfl) (v:=.d (.int .i64 0)) rfl rfl (.refl _)
theorem qas (p0 : Int) (r : Bool) (h0 : q8e p0 = some r) : Pure Try.prog tab 31 [.int .i64 p0] (.bool r):=by
 unfold q8e at h0
 refine qu Try.func31 rfl (by kernel_rfl) (by kernel_rfl) rfl<|q8<|q6<|qa rfl rfl<|q7<|q8<|q6<|q0 rfl rfl<|q9 (.d (.bool (decide (p0 ≥ (-1000000))))) rfl rfl ?_
 obtain ⟨c1,h2,h0⟩:=bindE h0
 refine qt 4 (fun A st=>∃ (j3 j4 j5 : V),st = A [(8,.d (.bool c1)),(7,j5),(6,j4),(5,j3)]) ?_ ?_
 ·refine qz rfl rfl h2 (fun h2=>?_) (fun h2=>?_)
  ·refine q0 rfl rfl<|q9 (.d (.bool (decide (p0≤1000000)))) rfl rfl<|q9 (.d (.bool (decide (p0≤1000000)))) rfl rfl<|q7 ?_
   obtain rfl:=someE h2
   exact ⟨_,_,_,rfl⟩
  ·refine qc rfl<|qc rfl<|q9 (.d (.bool false)) rfl rfl<|q7 ?_
   obtain rfl:=someE h2
   exact ⟨_,_,_,rfl⟩
 ·rintro _ ⟨j3,j4,j5,rfl⟩
  refine qa rfl rfl<|q7<|qm ?_
  obtain rfl:=someE h0
  exact finD (.inr rfl) (v:=.d (.bool c1)) rfl rfl (.refl _)
end Go.Proofs.Ytlchefooafpdlaa
