/- W_RaisePrisms -/
import Derived.Test.YtlchefooafpdlaaK14
namespace Go.Proofs.Ytlchefooafpdlaa
open Go Go.Am Go.Sh
set_option maxHeartbeats 8000000
set_option maxRecDepth 100000
theorem qcc (p0 : Int) (p1 : Int) (p2 : Int) (p3 : Int) (p4 : List api_Rect) (r : List api_Rect × Int × Int × List api_Box) (h0 : q5s  p0 p1 p2 p3 p4 = some r) : EvCall Try.prog tab 32 [.ref 0 4 0 0,.d (.int .i64 p2),.d (.int .i64 p3),.d (.sl 4 (p4.map qb))] [(0,.dat 4 [[.nilsl,.nilsl,.int .i64 p0,.int .i64 p1]])] 1 (.d (.tup [])) [(0,.cel 4 [[.hs 1 6 0 r.2.2.2.length,.d (.sl 4 (r.1.map qb)),.d (.int .i64 r.2.1),.d (.int .i64 r.2.2.1)]]),(1,.dat 6 (r.2.2.2.map qi))] 2:=by
 unfold q5s at h0
 refine q18 Try.func32 rfl (by kernel_rfl) (by kernel_rfl) rfl<|q8<|q8<|q6<|q0 rfl rfl<|q1b rfl rfl rfl rfl<|q9 (.d (.bool (decide ((p4.length : Int) > 0)))) rfl rfl ?_
 obtain ⟨c101,h102,h0⟩:=bindE h0
 refine qt 8 (fun A st=>∃ (j103 j104 j105 j106 j107 j108 j109 : V),st = A [(21,.d (.bool c101)),(20,j109),(19,j108),(18,j107),(17,j106),(16,j105),(15,j104),(14,j103)]) ?_ ?_
 ·refine qz rfl rfl h102 (fun h102=>?_) (fun h102=>?_)
  ·refine q0 rfl rfl<|q9 (.ref 0 4 0 0) rfl rfl<|q9 (.ref 0 4 0 3) rfl rfl<|q9 (.d (.int .i64 p1)) rfl rfl<|q0 rfl rfl<|q9 (.d (.bool (p1 == p2))) rfl rfl<|q9 (.d (.bool (p1 == p2))) rfl rfl<|q7 ?_
   obtain rfl:=someE h102
   exact ⟨_,_,_,_,_,_,_,rfl⟩
  ·refine qc rfl<|qc rfl<|qc rfl<|qc rfl<|qc rfl<|qc rfl<|q9 (.d (.bool false)) rfl rfl<|q7 ?_
   obtain rfl:=someE h102
   exact ⟨_,_,_,_,_,_,_,rfl⟩
 ·rintro _ ⟨j103,j104,j105,j106,j107,j108,j109,rfl⟩
  obtain ⟨c112,h113,h0⟩:=bindE h0
  refine qt 8 (fun A st=>∃ (j114 j115 j116 j117 j118 j119 j120 : V),st = A [(29,.d (.bool c112)),(28,j120),(27,j119),(26,j118),(25,j117),(24,j116),(23,j115),(22,j114)]) ?_ ?_
  ·refine qz rfl rfl h113 (fun h113=>?_) (fun h113=>?_)
   ·refine q0 rfl rfl<|q9 (.ref 0 4 0 0) rfl rfl<|q9 (.ref 0 4 0 1) rfl rfl<|q9 (.d (.nilsl)) rfl rfl<|q0 rfl rfl ?_
    obtain ⟨r121,h122,h113⟩:=bindE h113
    refine q11 [.d (.nilsl),.d (.sl 4 (p4.map qb))] (q9w (.cons (.nil _) (.cons (.refl _) .nil)) (q4x [] p4 r121 h122)) rfl rfl rfl (.inl rfl)<|q9 (.d (.bool r121)) rfl rfl<|q7 ?_
    obtain rfl:=someE h113
    exact ⟨_,_,_,_,_,_,_,rfl⟩
   ·refine qc rfl<|qc rfl<|qc rfl<|qc rfl<|qc rfl<|qc rfl<|q9 (.d (.bool false)) rfl rfl<|q7 ?_
    obtain rfl:=someE h113
    exact ⟨_,_,_,_,_,_,_,rfl⟩
  ·rintro _ ⟨j114,j115,j116,j117,j118,j119,j120,rfl⟩
   refine q7 ?_
   refine qd rfl h0 (fun _ h0=>?_) (fun _ h0=>?_)
   ·refine q8<|q8<|q6<|q0 rfl rfl<|q9 (.ref 0 4 0 0) rfl rfl<|q9 (.ref 0 4 0 2) rfl rfl<|q9 (.d (.int .i64 p0)) rfl rfl<|qa rfl rfl<|q7 ?_
    obtain ⟨m126,h127,h0⟩:=bindE h0
    refine qn (fun b128=>b128 = m126) (fun (b128 : Unit)=>⟨[(0,.ref 0 4 0 0),(2,.d (.int .i64 p3))],[(0,.dat 4 [[.nilsl,.nilsl,.int .i64 p0,.int .i64 p1]])],1⟩) (by simp) ?_ ?_
    ·refine qo (q70 p0) (fun (a125 : Unit)=>⟨[(0,.ref 0 4 0 0),(2,.d (.int .i64 p3)),(8,.d (.int .i64 p0))],[(0,.dat 4 [[.nilsl,.nilsl,.int .i64 p0,.int .i64 p1]])],1⟩) () m126 h127 (wkE [] [] [] rfl ⟨⟨_,rfl,.ref rfl (by decide) (ltd rfl)⟩,⟨_,rfl,.d (.refl _)⟩,⟨_,rfl,.d (.refl _)⟩,trivial⟩ ⟨⟨ltd rfl,.inr ⟨by decide,_,rfl,.dat _ _⟩⟩,trivial⟩) ?_
     intro a125 y123 h124
     unfold q70 at h124
     refine q8<|q8<|q6<|q0 rfl rfl<|q0 rfl rfl<|q9 (.ref 0 4 0 0) rfl rfl<|q9 (.ref 0 4 0 0) rfl rfl<|q9 (.d (.nilsl)) rfl rfl<|q9 (.d (.int .i64 0)) rfl rfl<|q9 (.d (.bool (decide (p0 < 0)))) rfl rfl<|q7 ?_
     refine qd rfl h124 (fun _ h124=>?_) (fun _ h124=>?_)
     ·refine qg<|q8<|ql<|q6<|q0 rfl rfl<|q9 (.ref 0 4 0 0) rfl rfl<|q9 (.ref 0 4 0 0) rfl rfl<|q9 (.d (.nilsl)) rfl rfl<|q0 rfl rfl<|q0 rfl rfl ?_
      cases h124
     ·refine qp ?_
      refine ⟨_,(Option.some.inj h124).symm,fun hm=>?_⟩
      subst hm
      exact ⟨_,rfl,wkE [] [] [] rfl ⟨⟨_,rfl,.ref rfl (by decide) (ltd rfl)⟩,⟨_,rfl,.d (.refl _)⟩,trivial⟩ ⟨⟨ltd rfl,.inr ⟨by decide,_,rfl,.dat _ _⟩⟩,trivial⟩⟩
    ·intro b128 hb
     subst hb
     refine q8<|q6<|q0 rfl rfl<|q0 rfl rfl<|q9 (.ref 0 4 0 0) rfl rfl<|q9 (.ref 0 4 0 3) rfl rfl<|q1z 0 (.dat 4 [[.nilsl,.nilsl,.int .i64 p0,.int .i64 p3]]) rfl rfl<|q7<|qm ?_
     obtain rfl:=someE h0
     exact ⟨.inr rfl,_,rfl,wkE [] [] [1] rfl ⟨⟨_,rfl,.d (.refl _)⟩,trivial⟩ ⟨⟨ltd rfl,.inr ⟨by decide,_,rfl,q79 (.cons (.nil (by decide) (ltd rfl)) rfl (.cons (.d (.nil _)) rfl (.cons (.d (.refl _)) rfl (.cons (.d (.refl _)) rfl .nil))))⟩⟩,⟨ltd rfl,.inl ⟨by decide,_,by decide,rfl⟩⟩,trivial⟩⟩
   ·refine qg<|q8<|q6<|q0 rfl rfl<|q0 rfl rfl<|q0 rfl rfl<|q0 rfl rfl<|q9 (.ref 0 4 0 0) rfl rfl<|q9 (.ref 0 4 0 0) rfl rfl<|q9 (.d (.nilsl)) rfl rfl<|q9 (.d (.int .i64 0)) rfl rfl<|q0 rfl rfl<|q0 rfl rfl<|q9 (.ref 0 4 0 0) rfl rfl<|q9 (.ref 0 4 0 2) rfl rfl<|q1z 0 (.dat 4 [[.nilsl,.nilsl,.int .i64 0,.int .i64 p1]]) rfl rfl<|q9 (.ref 0 4 0 0) rfl rfl<|q9 (.ref 0 4 0 1) rfl rfl<|q1z 0 (.dat 4 [[.nilsl,.sl 4 (p4.map qb),.int .i64 0,.int .i64 p1]]) rfl rfl<|q9 (.ref 0 4 0 0) rfl rfl<|q9 (.ref 0 4 0 3) rfl rfl<|q1z 0 (.dat 4 [[.nilsl,.sl 4 (p4.map qb),.int .i64 0,.int .i64 p3]]) rfl rfl<|q7<|q8<|q6<|q0 rfl rfl<|q1b rfl rfl rfl rfl<|q0 rfl rfl<|q7 ?_
    obtain ⟨m148,h149,h0⟩:=bindE h0
    refine ql<|qo (q4o p4 p2 p3) (fun (a147 : Int × List api_Box)=>⟨[(0,.ref 0 4 0 0),(1,.d (.int .i64 p2)),(2,.d (.int .i64 p3)),(72,.d (.sl 4 (p4.map qb))),(73,.d (.int .i64 (p4.length : Int))),(74,.d (.int .i64 a147.1))],[(0,.cel 4 [[.hs 1 6 0 a147.2.length,.d (.sl 4 (p4.map qb)),.d (.int .i64 0),.d (.int .i64 p3)]]),(1,.dat 6 (a147.2.map qi))],2⟩) (0,[]) m148 h149 (wkE [] [] [1] rfl ⟨⟨_,rfl,.ref rfl (by decide) (ltd rfl)⟩,⟨_,rfl,.d (.refl _)⟩,⟨_,rfl,.d (.refl _)⟩,⟨_,rfl,.d (.refl _)⟩,⟨_,rfl,.d (.refl _)⟩,⟨_,rfl,.d (.refl _)⟩,trivial⟩ ⟨⟨ltd rfl,.inr ⟨by decide,_,rfl,q79 (.cons (.nil (by decide) (ltd rfl)) rfl (.cons (.d (.refl _)) rfl (.cons (.d (.refl _)) rfl (.cons (.d (.refl _)) rfl .nil))))⟩⟩,⟨ltd rfl,.inl ⟨by decide,_,by decide,rfl⟩⟩,trivial⟩) ?_
    intro a147 y145 h146
    unfold q4o at h146
    refine q8<|q6<|q9 (.d (.bool (decide (a147.1 < (p4.length : Int))))) rfl rfl<|q7<|q8 ?_
    refine qd rfl h146 (fun _ h146=>?_) (fun _ h146=>?_)
    ·refine qg<|q8<|ql<|q8<|q6 ?_
     obtain ⟨v155,h156,h146⟩:=bindE h146
     refine q10 (enc:=qb) h156 rfl rfl rfl rfl rfl rfl<|q9 (.d (.agg [.int .i64 v155.X0,.int .i64 v155.Y0,.int .i64 v155.X1,.int .i64 v155.Y1])) rfl rfl<|q3q rfl rfl<|q1z 2 (.dat 4 [[.int .i64 v155.X0,.int .i64 v155.Y0,.int .i64 v155.X1,.int .i64 v155.Y1]]) rfl rfl<|q7<|qk [(some [0],[0]),(some [],[]),(some [],[]),(some [1,3],[1,4]),(some [],[3]),(some [],[]),(some [],[]),(some [],[]),(some [2],[]),(some [],[]),(some [2],[]),(some [],[]),(some [],[]),(some [],[]),(some [2],[]),(some [],[]),(some [2],[]),(some [],[]),(some [0],[]),(some [],[]),(some [],[]),(some [],[]),(some [],[])] (by kernel_rfl)<|q0 rfl rfl<|q0 rfl rfl<|q9 (.ref 0 4 0 0) rfl rfl<|q9 (.ref 0 4 0 0) rfl rfl<|q9 (.hs 1 6 0 a147.2.length) rfl rfl<|q9 (.ref 2 4 0 0) rfl rfl<|q9 (.d (.int .i64 v155.X0)) rfl rfl<|q9 (.ref 2 4 0 1) rfl rfl<|q9 (.d (.int .i64 v155.Y0)) rfl rfl<|q0 rfl rfl<|q9 (.d (.agg [.int .i64 v155.X0,.int .i64 v155.Y0,.int .i64 p2])) rfl rfl<|q9 (.ref 2 4 0 2) rfl rfl<|q9 (.d (.int .i64 v155.X1)) rfl rfl<|q9 (.ref 2 4 0 3) rfl rfl<|q9 (.d (.int .i64 v155.Y1)) rfl rfl<|q0 rfl rfl<|q9 (.d (.agg [.int .i64 v155.X1,.int .i64 v155.Y1,.int .i64 p3])) rfl rfl<|q9 (.d (.agg [.int .i64 v155.X0,.int .i64 v155.Y0,.int .i64 p2,.int .i64 v155.X1,.int .i64 v155.Y1,.int .i64 p3])) rfl rfl<|q3m (.hs 3 6 0 [({Lo:=({X:=v155.X0,Y:=v155.Y0,Z:=p2} : q15),Hi:=({X:=v155.X1,Y:=v155.Y1,Z:=p3} : q15)} : api_Box)].length) (.dat 6 ([({Lo:=({X:=v155.X0,Y:=v155.Y0,Z:=p2} : q15),Hi:=({X:=v155.X1,Y:=v155.Y1,Z:=p3} : q15)} : api_Box)].map qi)) rfl rfl ?_
     obtain ⟨z157,h158,h146⟩:=bindE h146
     refine q5o (xs:=a147.2) (ys:=[({Lo:=({X:=v155.X0,Y:=v155.Y0,Z:=p2} : q15),Hi:=({X:=v155.X1,Y:=v155.Y1,Z:=p3} : q15)} : api_Box)]) (enc:=qi) (.hs 3 6 0 [({Lo:=({X:=v155.X0,Y:=v155.Y0,Z:=p2} : q15),Hi:=({X:=v155.X1,Y:=v155.Y1,Z:=p3} : q15)} : api_Box)].length) h158 rfl rfl rfl rfl rfl rfl rfl (q4b rfl rfl) rfl rfl rfl rfl<|q9 (.ref 0 4 0 0) rfl rfl<|q9 (.ref 0 4 0 0) rfl rfl<|q1z 0 (.cel 4 [[.hs 4 6 0 z157.length,.d (.sl 4 (p4.map qb)),.d (.int .i64 0),.d (.int .i64 p3)]]) rfl rfl<|q7<|qf<|qv<|q6<|q9 (.d (.int .i64 (w64 (a147.1 + 1)))) rfl rfl<|q0 rfl rfl<|q7<|qf ?_
     exact ⟨_,(Option.some.inj h146).symm,wkE [(1,4)] [] [] rfl ⟨⟨_,rfl,.ref rfl (by decide) (ltd rfl)⟩,⟨_,rfl,.d (.refl _)⟩,⟨_,rfl,.d (.refl _)⟩,⟨_,rfl,.d (.refl _)⟩,⟨_,rfl,.d (.refl _)⟩,⟨_,rfl,.d (.refl _)⟩,trivial⟩ ⟨⟨ltd rfl,.inr ⟨by decide,_,rfl,qq (.cons (.hs rfl (by decide) (ltd rfl)) rfl (.cons (.d (.refl _)) rfl (.cons (.d (.refl _)) rfl (.cons (.d (.refl _)) rfl .nil))))⟩⟩,⟨ltd rfl,.inr ⟨by decide,_,rfl,.dat _ _⟩⟩,trivial⟩⟩
    ·refine qp ?_
     refine ⟨_,(Option.some.inj h146).symm,fun hm=>?_⟩
     subst hm
     obtain rfl:=someE h0
     exact ⟨.inl rfl,_,rfl,wkE [(1,1)] [] [] rfl ⟨⟨_,rfl,.d (.refl _)⟩,trivial⟩ ⟨⟨ltd rfl,.inr ⟨by decide,_,rfl,qq (.cons (.hs rfl (by decide) (ltd rfl)) rfl (.cons (.d (.refl _)) rfl (.cons (.d (.refl _)) rfl (.cons (.d (.refl _)) rfl .nil))))⟩⟩,⟨ltd rfl,.inr ⟨by decide,_,rfl,.dat _ _⟩⟩,trivial⟩⟩
theorem qil (p0 : List api_Rect) (p1 : Int) (p2 : Int) (r : List api_Box × Int) (h0 : q8o p0 p1 p2 = some r) : Pure Try.prog tab 13 [.sl 4 (p0.map qb),.int .i64 p1,.int .i64 p2] (.tup [.sl 6 (r.1.map qi),.int .i64 r.2]):=by
 unfold q8o at h0
 refine qu Try.func13 rfl (by kernel_rfl) (by kernel_rfl) rfl<|q8<|q6<|qa rfl rfl<|qa rfl rfl<|q7<|q8<|q8<|q6<|q0 rfl rfl ?_
 obtain ⟨r1,h2,h0⟩:=bindE h0
 refine q11 [.d (.sl 4 (p0.map qb))] (qby p0 r1 h2) rfl rfl rfl (.inl rfl)<|qa rfl rfl<|q7<|q8<|q6<|q0 rfl rfl<|q9 (.d (.bool (r1 != 0))) rfl rfl<|q7 ?_
 refine qd rfl h0 (fun _ h0=>?_) (fun _ h0=>?_)
 ·refine q8<|q6<|q0 rfl rfl<|qa rfl rfl<|qa rfl rfl<|q7<|qm ?_
  obtain rfl:=someE h0
  exact finD (.inr rfl) (v:=.d (.tup [.nilsl,.int .i64 r1])) rfl rfl (q55 (.cons (.nil _) (.cons (.refl _) .nil)))
 ·refine qg<|q8<|q8<|q6<|q0 rfl rfl ?_
  obtain ⟨r3,h4,h0⟩:=bindE h0
  refine q11 [.d (.int .i64 p1)] (qas p1 r3 h4) rfl rfl rfl (.inl rfl)<|q9 (.d (.bool (!r3))) rfl rfl ?_
  obtain ⟨c7,h8,h0⟩:=bindE h0
  refine qt 5 (fun A st=>∃ (j9 j10 j11 j12 : V),st = A [(22,.d (.bool c7)),(21,j12),(20,j11),(19,j10),(18,j9)]) ?_ ?_
  ·refine qz rfl rfl h8 (fun h8=>?_) (fun h8=>?_)
   ·refine qc rfl<|qc rfl<|qc rfl<|q9 (.d (.bool true)) rfl rfl<|q7 ?_
    obtain rfl:=someE h8
    exact ⟨_,_,_,_,rfl⟩
   ·refine q0 rfl rfl ?_
    obtain ⟨r13,h14,h8⟩:=bindE h8
    refine q11 [.d (.int .i64 p2)] (qas p2 r13 h14) rfl rfl rfl (.inl rfl)<|q9 (.d (.bool (!r13))) rfl rfl<|q9 (.d (.bool (!r13))) rfl rfl<|q7 ?_
    obtain rfl:=someE h8
    exact ⟨_,_,_,_,rfl⟩
  ·rintro _ ⟨j9,j10,j11,j12,rfl⟩
   obtain ⟨c15,h16,h0⟩:=bindE h0
   refine qt 5 (fun A st=>∃ (j17 j18 j19 j20 : V),st = A [(27,.d (.bool c15)),(26,j20),(25,j19),(24,j18),(23,j17)]) ?_ ?_
   ·refine qz rfl rfl h16 (fun h16=>?_) (fun h16=>?_)
    ·refine qc rfl<|qc rfl<|qc rfl<|q9 (.d (.bool true)) rfl rfl<|q7 ?_
     obtain rfl:=someE h16
     exact ⟨_,_,_,_,rfl⟩
    ·refine q0 rfl rfl<|q0 rfl rfl<|q9 (.d (.bool (decide (p1 ≥ p2)))) rfl rfl<|q9 (.d (.bool (decide (p1 ≥ p2)))) rfl rfl<|q7 ?_
     obtain rfl:=someE h16
     exact ⟨_,_,_,_,rfl⟩
   ·rintro _ ⟨j17,j18,j19,j20,rfl⟩
    refine q7 ?_
    refine qd rfl h0 (fun _ h0=>?_) (fun _ h0=>?_)
    ·refine q8<|q6<|qa rfl rfl<|qa rfl rfl<|q7<|qm ?_
     obtain rfl:=someE h0
     exact finD (.inr rfl) (v:=.d (.tup [.nilsl,.int .i64 2])) rfl rfl (q55 (.cons (.nil _) (.cons (.refl _) .nil)))
    ·refine qg<|q8<|q6<|q3q rfl rfl<|q7<|q8<|q6<|q0 rfl rfl<|q0 rfl rfl<|q0 rfl rfl ?_
     obtain ⟨e21,h22,h0⟩:=bindE h0
     refine q12 [(0,0)] [(0,0),(1,1)] [.ref 0 4 0 0,.d (.int .i64 p1),.d (.int .i64 p2),.d (.sl 4 (p0.map qb))] (.d (.tup [])) [(0,.cel 4 [[.hs 1 6 0 e21.2.2.2.length,.d (.sl 4 (e21.1.map qb)),.d (.int .i64 e21.2.1),.d (.int .i64 e21.2.2.1)]]),(1,.dat 6 (e21.2.2.2.map qi))] [(0,.cel 4 [[.hs 1 6 0 e21.2.2.2.length,.d (.sl 4 (e21.1.map qb)),.d (.int .i64 e21.2.1),.d (.int .i64 e21.2.2.1)]]),(1,.dat 6 (e21.2.2.2.map qi))] 2 (qcc 0 0 p1 p2 p0 e21 h22) rfl rfl rfl (qx [(0,0)] [] [] rfl ⟨⟨_,rfl,.ref rfl (by decide) (ltd rfl)⟩,⟨_,rfl,.d (.refl _)⟩,⟨_,rfl,.d (.refl _)⟩,⟨_,rfl,.d (.refl _)⟩,trivial⟩ ⟨⟨ltd rfl,.inr ⟨by decide,_,rfl,.dat _ _⟩⟩,trivial⟩) (qx [(0,0),(1,1)] [] [] rfl ⟨⟨_,rfl,.d (.refl _)⟩,trivial⟩ ⟨⟨ltd rfl,.inr ⟨by decide,_,rfl,qq (.cons (.hs rfl (by decide) (ltd rfl)) rfl (.cons (.d (.refl _)) rfl (.cons (.d (.refl _)) rfl (.cons (.d (.refl _)) rfl .nil))))⟩⟩,⟨ltd rfl,.inr ⟨by decide,_,rfl,.dat _ _⟩⟩,trivial⟩) rfl ⟨.inl rfl,.inl rfl,trivial⟩<|q7<|q8<|q6 ?_
     obtain ⟨m24,h23,h0⟩:=bindE h0
     refine qd2 [.ref 0 4 0 0] (fun b25=>b25 = m24) (fun (b25 : Int × List api_Box)=>⟨[(32,.tup [.hs 0 6 0 b25.2.length,.d (.int .i64 b25.1)])],[(0,.dat 6 (b25.2.map qi))],1⟩) rfl rfl Try.func33 rfl (by kernel_rfl) (by kernel_rfl) rfl ?_ ?_
     ·refine q8<|q6<|qa rfl rfl<|qa rfl rfl<|q7<|q8<|q8<|q6<|q0 rfl rfl<|q9 (.ref 0 4 0 0) rfl rfl<|q9 (.ref 0 4 0 0) rfl rfl<|q9 (.hs 1 6 0 e21.2.2.2.length) rfl rfl<|q9 (.d (.int .i64 (e21.2.2.2.length : Int))) rfl rfl<|q9 (.d (.bool (decide ((e21.2.2.2.length : Int) > 400)))) rfl rfl<|q7 ?_
      refine qd rfl h23 (fun _ h23=>?_) (fun _ h23=>?_)
      ·refine q8<|q6<|qa rfl rfl<|qa rfl rfl<|q7<|qm ?_
       refine ⟨.inr rfl,_,rfl,?_⟩
       obtain rfl:=someE h23
       exact ⟨_,rfl,wkE [] [] [0] rfl ⟨⟨_,rfl,(qi4 (.cons (.nil (by decide) (ltd rfl)) (.cons (.d (.refl _)) .nil)))⟩,trivial⟩ ⟨⟨ltd rfl,.inl ⟨by decide,_,by decide,rfl⟩⟩,trivial⟩⟩
      ·refine qg<|q8<|q6<|q0 rfl rfl<|q9 (.ref 0 4 0 0) rfl rfl<|q9 (.ref 0 4 0 0) rfl rfl<|q9 (.hs 1 6 0 e21.2.2.2.length) rfl rfl<|qa rfl rfl<|qa rfl rfl<|q7<|qm ?_
       refine ⟨.inr rfl,_,rfl,?_⟩
       obtain rfl:=someE h23
       exact ⟨_,rfl,wkE [(0,1)] [] [] rfl ⟨⟨_,rfl,(qku (.cons (.hs rfl (by decide) (ltd rfl)) (.cons (.d (.refl _)) .nil)))⟩,trivial⟩ ⟨⟨ltd rfl,.inr ⟨by decide,_,rfl,.dat _ _⟩⟩,trivial⟩⟩
     ·intro b25 hb
      subst hb
      refine q9 (.hs 0 6 0 b25.2.length) rfl rfl<|q9 (.d (.int .i64 b25.1)) rfl rfl<|qa rfl rfl<|qa rfl rfl<|q7<|qm ?_
      obtain rfl:=someE h0
      exact finD (.inr rfl) (v:=.tup [.hs 0 6 0 b25.2.length,.d (.int .i64 b25.1)]) rfl (qhh (q97 (q8v rfl rfl) (q97 rfl rfl))) (.refl _)
theorem qbz (p0 : Int) (r : Bool) (h0 : qck p0 = some r) : Pure Try.prog tab 67 [.int .i64 p0] (.bool r):=by
 unfold qck at h0
 refine qu Try.func67 rfl (by kernel_rfl) (by kernel_rfl) rfl<|q8<|q6<|qa rfl rfl<|q7<|q8<|q6<|q0 rfl rfl<|q9 (.d (.bool (decide (p0 ≥ (-1000000))))) rfl rfl ?_
 obtain ⟨c1,h2,h0⟩:=bindE h0
 refine qt 4 (fun A st=>∃ (j3 j4 j5 : V),st = A [(8,.d (.bool c1)),(7,j5),(6,j4),(5,j3)]) ?_ ?_
 ·refine qz rfl rfl h2 (fun h2=>?_) (fun h2=>?_)
  ·refine q0 rfl rfl<|q9 (.d (.bool (decide (p0≤1000000)))) rfl rfl<|q9 (.d (.bool (decide (p0≤1000000)))) rfl rfl<|q7 ?_
   obtain rfl:=someE h2
   exact ⟨_,_,_,rfl⟩
  ·refine qc rfl<|qc rfl<|q9 (.d (.bool false)) rfl rfl<|q7 ?_
   obtain rfl:=someE h2
   exact ⟨_,_,_,rfl⟩
 ·rintro _ ⟨j3,j4,j5,rfl⟩
  refine qa rfl rfl<|q7<|qm ?_
  obtain rfl:=someE h0
  exact finD (.inr rfl) (v:=.d (.bool c1)) rfl rfl (.refl _)
theorem qlt (p0 : api_Rect) (r : Bool) (h0 : qbv p0 = some r) : Pure Try.prog tab 52 [.agg [.int .i64 p0.X0,.int .i64 p0.Y0,.int .i64 p0.X1,.int .i64 p0.Y1]] (.bool r):=by
 unfold qbv at h0
 refine qu Try.func52 rfl (by kernel_rfl) (by kernel_rfl) rfl<|q8<|q6<|q3m (.ref 0 4 0 0) (.dat 4 [[.int .i64 p0.X0,.int .i64 p0.Y0,.int .i64 p0.X1,.int .i64 p0.Y1]]) rfl rfl<|qa rfl rfl<|q7<|q8<|q6<|q9 (.ref 0 4 0 0) rfl rfl<|q9 (.d (.int .i64 p0.X0)) rfl rfl<|q9 (.ref 0 4 0 2) rfl rfl<|q9 (.d (.int .i64 p0.X1)) rfl rfl<|q9 (.d (.bool (decide (p0.X0 < p0.X1)))) rfl rfl ?_
 obtain ⟨c1,h2,h0⟩:=bindE h0
 refine qt 7 (fun A st=>∃ (j3 j4 j5 j6 j7 j8 : V),st = A [(14,.d (.bool c1)),(13,j8),(12,j7),(11,j6),(10,j5),(9,j4),(8,j3)]) ?_ ?_
 ·refine qz rfl rfl h2 (fun h2=>?_) (fun h2=>?_)
  ·refine q9 (.ref 0 4 0 1) rfl rfl<|q9 (.d (.int .i64 p0.Y0)) rfl rfl<|q9 (.ref 0 4 0 3) rfl rfl<|q9 (.d (.int .i64 p0.Y1)) rfl rfl<|q9 (.d (.bool (decide (p0.Y0 < p0.Y1)))) rfl rfl<|q9 (.d (.bool (decide (p0.Y0 < p0.Y1)))) rfl rfl<|q7 ?_
   obtain rfl:=someE h2
   exact ⟨_,_,_,_,_,_,rfl⟩
  ·refine qc rfl<|qc rfl<|qc rfl<|qc rfl<|qc rfl<|q9 (.d (.bool false)) rfl rfl<|q7 ?_
   obtain rfl:=someE h2
   exact ⟨_,_,_,_,_,_,rfl⟩
 ·rintro _ ⟨j3,j4,j5,j6,j7,j8,rfl⟩
  obtain ⟨c11,h12,h0⟩:=bindE h0
  refine qt 5 (fun A st=>∃ (j13 j14 j15 j16 : V),st = A [(19,.d (.bool c11)),(18,j16),(17,j15),(16,j14),(15,j13)]) ?_ ?_
  ·refine qz rfl rfl h12 (fun h12=>?_) (fun h12=>?_)
   ·refine q9 (.ref 0 4 0 0) rfl rfl<|q9 (.d (.int .i64 p0.X0)) rfl rfl ?_
    obtain ⟨r17,h18,h12⟩:=bindE h12
    refine q11 [.d (.int .i64 p0.X0)] (qbz p0.X0 r17 h18) rfl rfl rfl (.inl rfl)<|q9 (.d (.bool r17)) rfl rfl<|q7 ?_
    obtain rfl:=someE h12
    exact ⟨_,_,_,_,rfl⟩
   ·refine qc rfl<|qc rfl<|qc rfl<|q9 (.d (.bool false)) rfl rfl<|q7 ?_
    obtain rfl:=someE h12
    exact ⟨_,_,_,_,rfl⟩
  ·rintro _ ⟨j13,j14,j15,j16,rfl⟩
   obtain ⟨c21,h22,h0⟩:=bindE h0
   refine qt 5 (fun A st=>∃ (j23 j24 j25 j26 : V),st = A [(24,.d (.bool c21)),(23,j26),(22,j25),(21,j24),(20,j23)]) ?_ ?_
   ·refine qz rfl rfl h22 (fun h22=>?_) (fun h22=>?_)
    ·refine q9 (.ref 0 4 0 2) rfl rfl<|q9 (.d (.int .i64 p0.X1)) rfl rfl ?_
     obtain ⟨r27,h28,h22⟩:=bindE h22
     refine q11 [.d (.int .i64 p0.X1)] (qbz p0.X1 r27 h28) rfl rfl rfl (.inl rfl)<|q9 (.d (.bool r27)) rfl rfl<|q7 ?_
     obtain rfl:=someE h22
     exact ⟨_,_,_,_,rfl⟩
    ·refine qc rfl<|qc rfl<|qc rfl<|q9 (.d (.bool false)) rfl rfl<|q7 ?_
     obtain rfl:=someE h22
     exact ⟨_,_,_,_,rfl⟩
   ·rintro _ ⟨j23,j24,j25,j26,rfl⟩
    obtain ⟨c31,h32,h0⟩:=bindE h0
    refine qt 5 (fun A st=>∃ (j33 j34 j35 j36 : V),st = A [(29,.d (.bool c31)),(28,j36),(27,j35),(26,j34),(25,j33)]) ?_ ?_
    ·refine qz rfl rfl h32 (fun h32=>?_) (fun h32=>?_)
     ·refine q9 (.ref 0 4 0 1) rfl rfl<|q9 (.d (.int .i64 p0.Y0)) rfl rfl ?_
      obtain ⟨r37,h38,h32⟩:=bindE h32
      refine q11 [.d (.int .i64 p0.Y0)] (qbz p0.Y0 r37 h38) rfl rfl rfl (.inl rfl)<|q9 (.d (.bool r37)) rfl rfl<|q7 ?_
      obtain rfl:=someE h32
      exact ⟨_,_,_,_,rfl⟩
     ·refine qc rfl<|qc rfl<|qc rfl<|q9 (.d (.bool false)) rfl rfl<|q7 ?_
      obtain rfl:=someE h32
      exact ⟨_,_,_,_,rfl⟩
    ·rintro _ ⟨j33,j34,j35,j36,rfl⟩
     obtain ⟨c41,h42,h0⟩:=bindE h0
     refine qt 5 (fun A st=>∃ (j43 j44 j45 j46 : V),st = A [(34,.d (.bool c41)),(33,j46),(32,j45),(31,j44),(30,j43)]) ?_ ?_
     ·refine qz rfl rfl h42 (fun h42=>?_) (fun h42=>?_)
      ·refine q9 (.ref 0 4 0 3) rfl rfl<|q9 (.d (.int .i64 p0.Y1)) rfl rfl ?_
       obtain ⟨r47,h48,h42⟩:=bindE h42
       refine q11 [.d (.int .i64 p0.Y1)] (qbz p0.Y1 r47 h48) rfl rfl rfl (.inl rfl)<|q9 (.d (.bool r47)) rfl rfl<|q7 ?_
       obtain rfl:=someE h42
       exact ⟨_,_,_,_,rfl⟩
      ·refine qc rfl<|qc rfl<|qc rfl<|q9 (.d (.bool false)) rfl rfl<|q7 ?_
       obtain rfl:=someE h42
       exact ⟨_,_,_,_,rfl⟩
     ·rintro _ ⟨j43,j44,j45,j46,rfl⟩
      refine qa rfl rfl<|q7<|qm ?_
      obtain rfl:=someE h0
      exact finD (.inr rfl) (v:=.d (.bool c41)) rfl rfl (.refl _)
theorem qat (p0 : List Int) (r : List Int) (h0 : q52 p0 = some r) : Pure Try.prog tab 74 [.sl 1 (p0.map (eI .i64))] (.sl 1 (r.map (eI .i64))):=by
 unfold q52 at h0
 refine qu Try.func74 rfl (by kernel_rfl) (by kernel_rfl) rfl<|q8<|q6<|qa rfl rfl<|q7<|q8<|q6<|qa rfl rfl<|q7<|q8<|q8<|q6<|qa rfl rfl<|q7 ?_
 obtain ⟨m114,h115,h0⟩:=bindE h0
 refine qn (fun b116=>b116 = m114) (fun (b116 : List Int)=>⟨[(3,.hs 0 1 0 b116.length)],[(0,.dat 1 (b116.map (eI .i64)))],1⟩) (by simp) ?_ ?_
 ·refine qo (q61 p0) (fun (a113 : Int × List Int)=>⟨[(0,.d (.sl 1 (p0.map (eI .i64)))),(3,.hs 0 1 0 a113.2.length),(4,.d (.int .i64 a113.1))],[(0,.dat 1 (a113.2.map (eI .i64)))],1⟩) (0,[]) m114 h115 (wkE [] [] [0] rfl ⟨⟨_,rfl,.d (.refl _)⟩,⟨_,rfl,.nil (by decide) (ltd rfl)⟩,⟨_,rfl,.d (.refl _)⟩,trivial⟩ ⟨⟨ltd rfl,.inl ⟨by decide,_,by decide,rfl⟩⟩,trivial⟩) ?_
  intro a113 y111 h112
  unfold q61 at h112
  refine q8<|q8<|q6<|q0 rfl rfl<|q0 rfl rfl<|q1b rfl rfl rfl rfl<|q9 (.d (.bool (decide (a113.1 < (p0.length : Int))))) rfl rfl<|q7 ?_
  refine qd rfl h112 (fun _ h112=>?_) (fun _ h112=>?_)
  ·refine qg<|q8 ?_
   obtain ⟨m193,h192,h112⟩:=bindE h112
   refine qn (fun b194=>b194 = m193) (fun (b194 : List Int)=>⟨[(0,.d (.sl 1 (p0.map (eI .i64)))),(3,.hs 0 1 0 b194.length),(4,.d (.int .i64 a113.1))],[(0,.dat 1 (b194.map (eI .i64)))],1⟩) (by simp) ?_ ?_
   ·refine q8<|q6<|q0 rfl rfl<|q9 (.d (.int .i64 (a113.2.length : Int))) rfl rfl<|qa rfl rfl<|q7<|q8 ?_
    obtain ⟨m240,h241,h192⟩:=bindE h192
    refine qn (fun b242=>b242 = m240) (fun (b242 : Int)=>⟨[(0,.d (.sl 1 (p0.map (eI .i64)))),(3,.hs 0 1 0 a113.2.length),(4,.d (.int .i64 a113.1)),(5,.d (.int .i64 b242))],[(0,.dat 1 (a113.2.map (eI .i64)))],1⟩) (by simp) ?_ ?_
    ·refine qo (q60 a113 p0) (fun (a239 : Int)=>⟨[(0,.d (.sl 1 (p0.map (eI .i64)))),(3,.hs 0 1 0 a113.2.length),(4,.d (.int .i64 a113.1)),(5,.d (.int .i64 a239))],[(0,.dat 1 (a113.2.map (eI .i64)))],1⟩) (a113.2.length : Int) m240 h241 (wkE [(0,0)] [] [] rfl ⟨⟨_,rfl,.d (.refl _)⟩,⟨_,rfl,.hs rfl (by decide) (ltd rfl)⟩,⟨_,rfl,.d (.refl _)⟩,⟨_,rfl,.d (.refl _)⟩,trivial⟩ ⟨⟨ltd rfl,.inr ⟨by decide,_,rfl,.dat _ _⟩⟩,trivial⟩) ?_
     intro a239 y237 h238
     unfold q60 at h238
     refine q8<|q8<|qk [(some [],[]),(some [],[]),(some [],[]),(some [],[]),(some [],[]),(some [],[]),(some [0],[]),(some [],[]),(some [],[]),(some [],[]),(some [],[]),(some [],[]),(some [],[]),(some [],[])] (by kernel_rfl)<|q0 rfl rfl<|q9 (.d (.bool (decide (a239 > 0)))) rfl rfl ?_
     obtain ⟨c247,h248,h238⟩:=bindE h238
     refine qt 12 (fun A st=>∃ (j249 j250 j251 j252 j253 j254 j255 j256 j257 j258 j259 : V),st = A [(27,.d (.bool c247)),(26,j259),(25,j258),(24,j257),(23,j256),(22,j255),(21,j254),(20,j253),(19,j252),(18,j251),(17,j250),(16,j249)]) ?_ ?_
     ·refine qz rfl rfl h248 (fun h248=>?_) (fun h248=>?_)
      ·refine q0 rfl rfl<|q0 rfl rfl<|q9 (.d (.int .i64 (w64 (a239 - 1)))) rfl rfl ?_
       obtain ⟨v260,h261,h248⟩:=bindE h248
       refine qj h261 rfl rfl rfl rfl rfl rfl rfl<|qr (.d (.int .i64 v260)) h261 rfl rfl rfl rfl rfl rfl<|q0 rfl rfl<|q0 rfl rfl ?_
       obtain ⟨v262,h263,h248⟩:=bindE h248
       refine q10 (enc:=(eI .i64)) h263 rfl rfl rfl rfl rfl rfl<|q9 (.d (.int .i64 v262)) rfl rfl<|q9 (.d (.bool (decide (v260 > v262)))) rfl rfl<|q9 (.d (.bool (decide (v260 > v262)))) rfl rfl<|q7 ?_
       obtain rfl:=someE h248
       exact ⟨_,_,_,_,_,_,_,_,_,_,_,rfl⟩
      ·refine qc rfl<|qc rfl<|qc rfl<|qc rfl<|qc rfl<|qc rfl<|qc rfl<|qc rfl<|qc rfl<|qc rfl<|q9 (.d (.bool false)) rfl rfl<|q7 ?_
       obtain rfl:=someE h248
       exact ⟨_,_,_,_,_,_,_,_,_,_,_,rfl⟩
     ·rintro _ ⟨j249,j250,j251,j252,j253,j254,j255,j256,j257,j258,j259,rfl⟩
      refine q7 ?_
      refine qd rfl h238 (fun _ h238=>?_) (fun _ h238=>?_)
      ·refine qg<|ql<|q6<|q0 rfl rfl<|q9 (.d (.int .i64 (w64 (a239 - 1)))) rfl rfl<|qa rfl rfl<|q7<|qf<|qv<|qf ?_
       exact ⟨_,(Option.some.inj h238).symm,wkE [(0,0)] [] [] rfl ⟨⟨_,rfl,.d (.refl _)⟩,⟨_,rfl,.hs rfl (by decide) (ltd rfl)⟩,⟨_,rfl,.d (.refl _)⟩,⟨_,rfl,.d (.refl _)⟩,trivial⟩ ⟨⟨ltd rfl,.inr ⟨by decide,_,rfl,.dat _ _⟩⟩,trivial⟩⟩
      ·refine qp ?_
       refine ⟨_,(Option.some.inj h238).symm,fun hm=>?_⟩
       subst hm
       exact ⟨_,rfl,wkE [(0,0)] [] [] rfl ⟨⟨_,rfl,.d (.refl _)⟩,⟨_,rfl,.hs rfl (by decide) (ltd rfl)⟩,⟨_,rfl,.d (.refl _)⟩,⟨_,rfl,.d (.refl _)⟩,trivial⟩ ⟨⟨ltd rfl,.inr ⟨by decide,_,rfl,.dat _ _⟩⟩,trivial⟩⟩
    ·intro b242 hb
     subst hb
     refine q8<|q8<|qk [(some [],[]),(some [],[]),(some [],[]),(some [],[]),(some [],[]),(some [],[]),(some [0],[]),(some [],[]),(some [],[]),(some [],[]),(some [],[]),(some [],[]),(some [],[]),(some [],[])] (by kernel_rfl)<|q0 rfl rfl<|q9 (.d (.bool (decide (b242 > 0)))) rfl rfl ?_
     obtain ⟨c268,h269,h192⟩:=bindE h192
     refine qt 12 (fun A st=>∃ (j270 j271 j272 j273 j274 j275 j276 j277 j278 j279 j280 : V),st = A [(43,.d (.bool c268)),(42,j280),(41,j279),(40,j278),(39,j277),(38,j276),(37,j275),(36,j274),(35,j273),(34,j272),(33,j271),(32,j270)]) ?_ ?_
     ·refine qz rfl rfl h269 (fun h269=>?_) (fun h269=>?_)
      ·refine q0 rfl rfl<|q0 rfl rfl<|q9 (.d (.int .i64 (w64 (b242 - 1)))) rfl rfl ?_
       obtain ⟨v281,h282,h269⟩:=bindE h269
       refine qj h282 rfl rfl rfl rfl rfl rfl rfl<|qr (.d (.int .i64 v281)) h282 rfl rfl rfl rfl rfl rfl<|q0 rfl rfl<|q0 rfl rfl ?_
       obtain ⟨v283,h284,h269⟩:=bindE h269
       refine q10 (enc:=(eI .i64)) h284 rfl rfl rfl rfl rfl rfl<|q9 (.d (.int .i64 v283)) rfl rfl<|q9 (.d (.bool (v281 == v283))) rfl rfl<|q9 (.d (.bool (v281 == v283))) rfl rfl<|q7 ?_
       obtain rfl:=someE h269
       exact ⟨_,_,_,_,_,_,_,_,_,_,_,rfl⟩
      ·refine qc rfl<|qc rfl<|qc rfl<|qc rfl<|qc rfl<|qc rfl<|qc rfl<|qc rfl<|qc rfl<|qc rfl<|q9 (.d (.bool false)) rfl rfl<|q7 ?_
       obtain rfl:=someE h269
       exact ⟨_,_,_,_,_,_,_,_,_,_,_,rfl⟩
     ·rintro _ ⟨j270,j271,j272,j273,j274,j275,j276,j277,j278,j279,j280,rfl⟩
      refine q7 ?_
      refine qd rfl h192 (fun _ h192=>?_) (fun _ h192=>?_)
      ·refine qp ?_
       obtain rfl:=someE h192
       exact ⟨_,rfl,wkE [(0,0)] [] [] rfl ⟨⟨_,rfl,.d (.refl _)⟩,⟨_,rfl,.hs rfl (by decide) (ltd rfl)⟩,⟨_,rfl,.d (.refl _)⟩,trivial⟩ ⟨⟨ltd rfl,.inr ⟨by decide,_,rfl,.dat _ _⟩⟩,trivial⟩⟩
      ·refine qg<|q8<|q6<|q0 rfl rfl<|q3m (.hs 1 1 0 [0].length) (.dat 1 ([0].map (eI .i64))) rfl rfl ?_
       obtain ⟨z285,h286,h192⟩:=bindE h192
       refine q5o (xs:=a113.2) (ys:=[0]) (enc:=(eI .i64)) (.hs 1 1 0 [0].length) h286 rfl rfl rfl rfl rfl rfl rfl (q4b rfl rfl) rfl rfl rfl rfl<|qa rfl rfl<|q7<|q8<|qk [(some [2],[2]),(some [],[]),(some [],[]),(some [],[]),(some [],[]),(some [],[]),(some [],[]),(some [],[])] (by kernel_rfl)<|q0 rfl rfl<|q0 rfl rfl<|q9 (.d (.int .i64 (w64 (b242 + 1)))) rfl rfl ?_
       obtain ⟨w287,h288,h192⟩:=bindE h192
       refine qed h288 rfl rfl rfl rfl rfl (qci rfl) (fun _=>rfl)<|q0 rfl rfl<|q0 rfl rfl ?_
       obtain ⟨w289,h290,h192⟩:=bindE h192
       refine qed h290 rfl rfl rfl rfl rfl (qci rfl) (fun _=>rfl)<|qrx (w:=w287) (xs:=z285) (ys:=(z285.drop w289.1).take w289.2) (enc:=(eI .i64)) (.hs 2 1 w289.1 w289.2) (qag h288) rfl rfl rfl rfl rfl rfl (qou (qag h290) rfl) rfl rfl rfl rfl ?_
       have h291:=@qkt _ z285 ((z285.drop w289.1).take w289.2) w287 (qag h288)
       refine q7<|q6<|q0 rfl rfl<|q0 rfl rfl<|q0 rfl rfl<|q0 rfl rfl ?_
       obtain ⟨v292,h293,h192⟩:=bindE h192
       refine q10 (enc:=(eI .i64)) h293 rfl rfl rfl rfl rfl rfl<|q9 (.d (.int .i64 v292)) rfl rfl ?_
       obtain ⟨v294,h295,h192⟩:=bindE h192
       refine qj h295 (by simp [h291]) rfl rfl rfl rfl rfl rfl<|q19 (ds:=[.int .i64 v292]) v292 h295 rfl rfl rfl rfl rfl rfl rfl rfl (leb rfl) rfl<|q7<|qf ?_
       obtain rfl:=someE h192
       exact ⟨_,rfl,wkE [(0,2)] [] [] rfl ⟨⟨_,rfl,.d (.refl _)⟩,⟨_,rfl,q16 (by simp [h291]) rfl (by decide) (ltd rfl)⟩,⟨_,rfl,.d (.refl _)⟩,trivial⟩ ⟨⟨ltd rfl,.inr ⟨by decide,_,rfl,.dat _ _⟩⟩,trivial⟩⟩
   ·intro b194 hb
    subst hb
    refine q6<|q0 rfl rfl<|q9 (.d (.int .i64 (w64 (a113.1 + 1)))) rfl rfl<|qa rfl rfl<|q7<|qf ?_
    exact ⟨_,(Option.some.inj h112).symm,wkE [(0,0)] [] [] rfl ⟨⟨_,rfl,.d (.refl _)⟩,⟨_,rfl,.hs rfl (by decide) (ltd rfl)⟩,⟨_,rfl,.d (.refl _)⟩,trivial⟩ ⟨⟨ltd rfl,.inr ⟨by decide,_,rfl,.dat _ _⟩⟩,trivial⟩⟩
  ·refine qp ?_
   refine ⟨_,(Option.some.inj h112).symm,fun hm=>?_⟩
   subst hm
   exact ⟨_,rfl,wkE [(0,0)] [] [] rfl ⟨⟨_,rfl,.hs rfl (by decide) (ltd rfl)⟩,trivial⟩ ⟨⟨ltd rfl,.inr ⟨by decide,_,rfl,.dat _ _⟩⟩,trivial⟩⟩
 ·intro b116 hb
  subst hb
  refine q8<|q6<|q0 rfl rfl<|qa rfl rfl<|q7<|qm ?_
  obtain rfl:=someE h0
  exact finD (.inr rfl) (v:=.hs 0 1 0 b116.length) rfl (q8v rfl rfl) (.refl _)
theorem qpe (p0 : List api_Rect) (p1 : List api_Rect) (r : List Int) (h0 : qef p0 p1 = some r) : Pure Try.prog tab 68 [.sl 4 (p0.map qb),.sl 4 (p1.map qb)] (.sl 1 (r.map (eI .i64))):=by
 unfold qef at h0
 refine qu Try.func68 rfl (by kernel_rfl) (by kernel_rfl) rfl<|q8<|q6<|qa rfl rfl<|q7<|q8<|q6<|qa rfl rfl<|q7<|q8<|q8<|q6<|qa rfl rfl<|q7 ?_
 obtain ⟨m28,h29,h0⟩:=bindE h0
 refine qn (fun b30=>b30 = m28) (fun (b30 : List Int)=>⟨[(1,.d (.sl 4 (p1.map qb))),(5,.hs 0 1 0 b30.length)],[(0,.dat 1 (b30.map (eI .i64)))],1⟩) (by simp) ?_ ?_
 ·refine qo (q82 p0) (fun (a27 : Int × List Int)=>⟨[(0,.d (.sl 4 (p0.map qb))),(1,.d (.sl 4 (p1.map qb))),(5,.hs 0 1 0 a27.2.length),(6,.d (.int .i64 a27.1))],[(0,.dat 1 (a27.2.map (eI .i64)))],1⟩) (0,[]) m28 h29 (wkE [] [] [0] rfl ⟨⟨_,rfl,.d (.refl _)⟩,⟨_,rfl,.d (.refl _)⟩,⟨_,rfl,.nil (by decide) (ltd rfl)⟩,⟨_,rfl,.d (.refl _)⟩,trivial⟩ ⟨⟨ltd rfl,.inl ⟨by decide,_,by decide,rfl⟩⟩,trivial⟩) ?_
  intro a27 y25 h26
  unfold q82 at h26
  refine q8<|q8<|q6<|q0 rfl rfl<|q0 rfl rfl<|q1b rfl rfl rfl rfl<|q9 (.d (.bool (decide (a27.1 < (p0.length : Int))))) rfl rfl<|q7 ?_
  refine qd rfl h26 (fun _ h26=>?_) (fun _ h26=>?_)
  ·refine qg<|q8<|ql<|qk [(some [],[]),(some [0,1],[0,2]),(some [],[1]),(some [],[]),(some [],[]),(some [],[]),(some [],[]),(some [],[]),(some [],[]),(some [],[]),(some [],[]),(some [],[]),(some [],[]),(some [],[])] (by kernel_rfl)<|q0 rfl rfl<|q0 rfl rfl<|q0 rfl rfl ?_
   obtain ⟨v37,h38,h26⟩:=bindE h26
   refine q10 (enc:=qb) h38 rfl rfl rfl rfl rfl rfl<|q9 (.dref [.int .i64 v37.X0,.int .i64 v37.Y0,.int .i64 v37.X1,.int .i64 v37.Y1] 0) rfl rfl<|q9 (.d (.int .i64 v37.X0)) rfl rfl<|q0 rfl rfl<|q0 rfl rfl ?_
   obtain ⟨v39,h40,h26⟩:=bindE h26
   refine q10 (enc:=qb) h40 rfl rfl rfl rfl rfl rfl<|q9 (.dref [.int .i64 v39.X0,.int .i64 v39.Y0,.int .i64 v39.X1,.int .i64 v39.Y1] 2) rfl rfl<|q9 (.d (.int .i64 v39.X1)) rfl rfl<|q3m (.hs 1 1 0 [v37.X0,v39.X1].length) (.dat 1 ([v37.X0,v39.X1].map (eI .i64))) rfl rfl ?_
   obtain ⟨z41,h42,h26⟩:=bindE h26
   refine q5o (xs:=a27.2) (ys:=[v37.X0,v39.X1]) (enc:=(eI .i64)) (.hs 1 1 0 [v37.X0,v39.X1].length) h42 rfl rfl rfl rfl rfl rfl rfl (q4b rfl rfl) rfl rfl rfl rfl<|qa rfl rfl<|q7<|qf<|qv<|q6<|q0 rfl rfl<|q9 (.d (.int .i64 (w64 (a27.1 + 1)))) rfl rfl<|qa rfl rfl<|q7<|qf ?_
   exact ⟨_,(Option.some.inj h26).symm,wkE [(0,2)] [] [] rfl ⟨⟨_,rfl,.d (.refl _)⟩,⟨_,rfl,.d (.refl _)⟩,⟨_,rfl,.hs rfl (by decide) (ltd rfl)⟩,⟨_,rfl,.d (.refl _)⟩,trivial⟩ ⟨⟨ltd rfl,.inr ⟨by decide,_,rfl,.dat _ _⟩⟩,trivial⟩⟩
  ·refine qp ?_
   refine ⟨_,(Option.some.inj h26).symm,fun hm=>?_⟩
   subst hm
   exact ⟨_,rfl,wkE [(0,0)] [] [] rfl ⟨⟨_,rfl,.d (.refl _)⟩,⟨_,rfl,.hs rfl (by decide) (ltd rfl)⟩,trivial⟩ ⟨⟨ltd rfl,.inr ⟨by decide,_,rfl,.dat _ _⟩⟩,trivial⟩⟩
 ·intro b30 hb
  subst hb
  refine q8<|q8<|q6<|qa rfl rfl<|q7 ?_
  obtain ⟨m70,h71,h0⟩:=bindE h0
  refine qn (fun b72=>b72 = m70) (fun (b72 : List Int)=>⟨[(5,.hs 0 1 0 b72.length)],[(0,.dat 1 (b72.map (eI .i64)))],1⟩) (by simp) ?_ ?_
  ·refine qo (q83 p1) (fun (a69 : Int × List Int)=>⟨[(1,.d (.sl 4 (p1.map qb))),(5,.hs 0 1 0 a69.2.length),(7,.d (.int .i64 a69.1))],[(0,.dat 1 (a69.2.map (eI .i64)))],1⟩) (0,b30) m70 h71 (wkE [(0,0)] [] [] rfl ⟨⟨_,rfl,.d (.refl _)⟩,⟨_,rfl,.hs rfl (by decide) (ltd rfl)⟩,⟨_,rfl,.d (.refl _)⟩,trivial⟩ ⟨⟨ltd rfl,.inr ⟨by decide,_,rfl,.dat _ _⟩⟩,trivial⟩) ?_
   intro a69 y67 h68
   unfold q83 at h68
   refine q8<|q8<|q6<|q0 rfl rfl<|q0 rfl rfl<|q1b rfl rfl rfl rfl<|q9 (.d (.bool (decide (a69.1 < (p1.length : Int))))) rfl rfl<|q7 ?_
   refine qd rfl h68 (fun _ h68=>?_) (fun _ h68=>?_)
   ·refine qg<|q8<|ql<|qk [(some [],[]),(some [0,1],[0,2]),(some [],[1]),(some [],[]),(some [],[]),(some [],[]),(some [],[]),(some [],[]),(some [],[]),(some [],[]),(some [],[]),(some [],[]),(some [],[]),(some [],[])] (by kernel_rfl)<|q0 rfl rfl<|q0 rfl rfl<|q0 rfl rfl ?_
    obtain ⟨v79,h80,h68⟩:=bindE h68
    refine q10 (enc:=qb) h80 rfl rfl rfl rfl rfl rfl<|q9 (.dref [.int .i64 v79.X0,.int .i64 v79.Y0,.int .i64 v79.X1,.int .i64 v79.Y1] 0) rfl rfl<|q9 (.d (.int .i64 v79.X0)) rfl rfl<|q0 rfl rfl<|q0 rfl rfl ?_
    obtain ⟨v81,h82,h68⟩:=bindE h68
    refine q10 (enc:=qb) h82 rfl rfl rfl rfl rfl rfl<|q9 (.dref [.int .i64 v81.X0,.int .i64 v81.Y0,.int .i64 v81.X1,.int .i64 v81.Y1] 2) rfl rfl<|q9 (.d (.int .i64 v81.X1)) rfl rfl<|q3m (.hs 1 1 0 [v79.X0,v81.X1].length) (.dat 1 ([v79.X0,v81.X1].map (eI .i64))) rfl rfl ?_
    obtain ⟨z83,h84,h68⟩:=bindE h68
    refine q5o (xs:=a69.2) (ys:=[v79.X0,v81.X1]) (enc:=(eI .i64)) (.hs 1 1 0 [v79.X0,v81.X1].length) h84 rfl rfl rfl rfl rfl rfl rfl (q4b rfl rfl) rfl rfl rfl rfl<|qa rfl rfl<|q7<|qf<|qv<|q6<|q0 rfl rfl<|q9 (.d (.int .i64 (w64 (a69.1 + 1)))) rfl rfl<|qa rfl rfl<|q7<|qf ?_
    exact ⟨_,(Option.some.inj h68).symm,wkE [(0,2)] [] [] rfl ⟨⟨_,rfl,.d (.refl _)⟩,⟨_,rfl,.hs rfl (by decide) (ltd rfl)⟩,⟨_,rfl,.d (.refl _)⟩,trivial⟩ ⟨⟨ltd rfl,.inr ⟨by decide,_,rfl,.dat _ _⟩⟩,trivial⟩⟩
   ·refine qp ?_
    refine ⟨_,(Option.some.inj h68).symm,fun hm=>?_⟩
    subst hm
    exact ⟨_,rfl,wkE [(0,0)] [] [] rfl ⟨⟨_,rfl,.hs rfl (by decide) (ltd rfl)⟩,trivial⟩ ⟨⟨ltd rfl,.inr ⟨by decide,_,rfl,.dat _ _⟩⟩,trivial⟩⟩
  ·intro b72 hb
   subst hb
   refine q8 ?_
   refine q89 (st':=⟨[(5,.d (.sl 1 (b72.map (eI .i64))))],[],0⟩) (wkE [] [0] [] rfl ⟨⟨_,rfl,qcj rfl rfl (by decide)⟩,trivial⟩ trivial) ?_ (by simp)
   refine q6<|q0 rfl rfl ?_
   obtain ⟨r85,h86,h0⟩:=bindE h0
   refine q11 [.d (.sl 1 (b72.map (eI .i64)))] (qat b72 r85 h86) rfl rfl rfl (.inl rfl)<|qa rfl rfl<|q7<|qm ?_
   obtain rfl:=someE h0
   exact finD (.inr rfl) (v:=.d (.sl 1 (r85.map (eI .i64)))) rfl rfl (.refl _)
theorem qpf (p0 : List api_Rect) (p1 : List api_Rect) (r : List Int) (h0 : qeg p0 p1 = some r) : Pure Try.prog tab 69 [.sl 4 (p0.map qb),.sl 4 (p1.map qb)] (.sl 1 (r.map (eI .i64))):=by
 unfold qeg at h0
 refine qu Try.func69 rfl (by kernel_rfl) (by kernel_rfl) rfl<|q8<|q6<|qa rfl rfl<|q7<|q8<|q6<|qa rfl rfl<|q7<|q8<|q8<|q6<|qa rfl rfl<|q7 ?_
 obtain ⟨m28,h29,h0⟩:=bindE h0
 refine qn (fun b30=>b30 = m28) (fun (b30 : List Int)=>⟨[(1,.d (.sl 4 (p1.map qb))),(5,.hs 0 1 0 b30.length)],[(0,.dat 1 (b30.map (eI .i64)))],1⟩) (by simp) ?_ ?_
 ·refine qo (q84 p0) (fun (a27 : Int × List Int)=>⟨[(0,.d (.sl 4 (p0.map qb))),(1,.d (.sl 4 (p1.map qb))),(5,.hs 0 1 0 a27.2.length),(6,.d (.int .i64 a27.1))],[(0,.dat 1 (a27.2.map (eI .i64)))],1⟩) (0,[]) m28 h29 (wkE [] [] [0] rfl ⟨⟨_,rfl,.d (.refl _)⟩,⟨_,rfl,.d (.refl _)⟩,⟨_,rfl,.nil (by decide) (ltd rfl)⟩,⟨_,rfl,.d (.refl _)⟩,trivial⟩ ⟨⟨ltd rfl,.inl ⟨by decide,_,by decide,rfl⟩⟩,trivial⟩) ?_
  intro a27 y25 h26
  unfold q84 at h26
  refine q8<|q8<|q6<|q0 rfl rfl<|q0 rfl rfl<|q1b rfl rfl rfl rfl<|q9 (.d (.bool (decide (a27.1 < (p0.length : Int))))) rfl rfl<|q7 ?_
  refine qd rfl h26 (fun _ h26=>?_) (fun _ h26=>?_)
  ·refine qg<|q8<|ql<|qk [(some [],[]),(some [0,1],[0,2]),(some [],[1]),(some [],[]),(some [],[]),(some [],[]),(some [],[]),(some [],[]),(some [],[]),(some [],[]),(some [],[]),(some [],[]),(some [],[]),(some [],[])] (by kernel_rfl)<|q0 rfl rfl<|q0 rfl rfl<|q0 rfl rfl ?_
   obtain ⟨v37,h38,h26⟩:=bindE h26
   refine q10 (enc:=qb) h38 rfl rfl rfl rfl rfl rfl<|q9 (.dref [.int .i64 v37.X0,.int .i64 v37.Y0,.int .i64 v37.X1,.int .i64 v37.Y1] 1) rfl rfl<|q9 (.d (.int .i64 v37.Y0)) rfl rfl<|q0 rfl rfl<|q0 rfl rfl ?_
   obtain ⟨v39,h40,h26⟩:=bindE h26
   refine q10 (enc:=qb) h40 rfl rfl rfl rfl rfl rfl<|q9 (.dref [.int .i64 v39.X0,.int .i64 v39.Y0,.int .i64 v39.X1,.int .i64 v39.Y1] 3) rfl rfl<|q9 (.d (.int .i64 v39.Y1)) rfl rfl<|q3m (.hs 1 1 0 [v37.Y0,v39.Y1].length) (.dat 1 ([v37.Y0,v39.Y1].map (eI .i64))) rfl rfl ?_
   obtain ⟨z41,h42,h26⟩:=bindE h26
   refine q5o (xs:=a27.2) (ys:=[v37.Y0,v39.Y1]) (enc:=(eI .i64)) (.hs 1 1 0 [v37.Y0,v39.Y1].length) h42 rfl rfl rfl rfl rfl rfl rfl (q4b rfl rfl) rfl rfl rfl rfl<|qa rfl rfl<|q7<|qf<|qv<|q6<|q0 rfl rfl<|q9 (.d (.int .i64 (w64 (a27.1 + 1)))) rfl rfl<|qa rfl rfl<|q7<|qf ?_
   exact ⟨_,(Option.some.inj h26).symm,wkE [(0,2)] [] [] rfl ⟨⟨_,rfl,.d (.refl _)⟩,⟨_,rfl,.d (.refl _)⟩,⟨_,rfl,.hs rfl (by decide) (ltd rfl)⟩,⟨_,rfl,.d (.refl _)⟩,trivial⟩ ⟨⟨ltd rfl,.inr ⟨by decide,_,rfl,.dat _ _⟩⟩,trivial⟩⟩
  ·refine qp ?_
   refine ⟨_,(Option.some.inj h26).symm,fun hm=>?_⟩
   subst hm
   exact ⟨_,rfl,wkE [(0,0)] [] [] rfl ⟨⟨_,rfl,.d (.refl _)⟩,⟨_,rfl,.hs rfl (by decide) (ltd rfl)⟩,trivial⟩ ⟨⟨ltd rfl,.inr ⟨by decide,_,rfl,.dat _ _⟩⟩,trivial⟩⟩
 ·intro b30 hb
  subst hb
  refine q8<|q8<|q6<|qa rfl rfl<|q7 ?_
  obtain ⟨m70,h71,h0⟩:=bindE h0
  refine qn (fun b72=>b72 = m70) (fun (b72 : List Int)=>⟨[(5,.hs 0 1 0 b72.length)],[(0,.dat 1 (b72.map (eI .i64)))],1⟩) (by simp) ?_ ?_
  ·refine qo (q85 p1) (fun (a69 : Int × List Int)=>⟨[(1,.d (.sl 4 (p1.map qb))),(5,.hs 0 1 0 a69.2.length),(7,.d (.int .i64 a69.1))],[(0,.dat 1 (a69.2.map (eI .i64)))],1⟩) (0,b30) m70 h71 (wkE [(0,0)] [] [] rfl ⟨⟨_,rfl,.d (.refl _)⟩,⟨_,rfl,.hs rfl (by decide) (ltd rfl)⟩,⟨_,rfl,.d (.refl _)⟩,trivial⟩ ⟨⟨ltd rfl,.inr ⟨by decide,_,rfl,.dat _ _⟩⟩,trivial⟩) ?_
   intro a69 y67 h68
   unfold q85 at h68
   refine q8<|q8<|q6<|q0 rfl rfl<|q0 rfl rfl<|q1b rfl rfl rfl rfl<|q9 (.d (.bool (decide (a69.1 < (p1.length : Int))))) rfl rfl<|q7 ?_
   refine qd rfl h68 (fun _ h68=>?_) (fun _ h68=>?_)
   ·refine qg<|q8<|ql<|qk [(some [],[]),(some [0,1],[0,2]),(some [],[1]),(some [],[]),(some [],[]),(some [],[]),(some [],[]),(some [],[]),(some [],[]),(some [],[]),(some [],[]),(some [],[]),(some [],[]),(some [],[])] (by kernel_rfl)<|q0 rfl rfl<|q0 rfl rfl<|q0 rfl rfl ?_
    obtain ⟨v79,h80,h68⟩:=bindE h68
    refine q10 (enc:=qb) h80 rfl rfl rfl rfl rfl rfl<|q9 (.dref [.int .i64 v79.X0,.int .i64 v79.Y0,.int .i64 v79.X1,.int .i64 v79.Y1] 1) rfl rfl<|q9 (.d (.int .i64 v79.Y0)) rfl rfl<|q0 rfl rfl<|q0 rfl rfl ?_
    obtain ⟨v81,h82,h68⟩:=bindE h68
    refine q10 (enc:=qb) h82 rfl rfl rfl rfl rfl rfl<|q9 (.dref [.int .i64 v81.X0,.int .i64 v81.Y0,.int .i64 v81.X1,.int .i64 v81.Y1] 3) rfl rfl<|q9 (.d (.int .i64 v81.Y1)) rfl rfl<|q3m (.hs 1 1 0 [v79.Y0,v81.Y1].length) (.dat 1 ([v79.Y0,v81.Y1].map (eI .i64))) rfl rfl ?_
    obtain ⟨z83,h84,h68⟩:=bindE h68
    refine q5o (xs:=a69.2) (ys:=[v79.Y0,v81.Y1]) (enc:=(eI .i64)) (.hs 1 1 0 [v79.Y0,v81.Y1].length) h84 rfl rfl rfl rfl rfl rfl rfl (q4b rfl rfl) rfl rfl rfl rfl<|qa rfl rfl<|q7<|qf<|qv<|q6<|q0 rfl rfl<|q9 (.d (.int .i64 (w64 (a69.1 + 1)))) rfl rfl<|qa rfl rfl<|q7<|qf ?_
    exact ⟨_,(Option.some.inj h68).symm,wkE [(0,2)] [] [] rfl ⟨⟨_,rfl,.d (.refl _)⟩,⟨_,rfl,.hs rfl (by decide) (ltd rfl)⟩,⟨_,rfl,.d (.refl _)⟩,trivial⟩ ⟨⟨ltd rfl,.inr ⟨by decide,_,rfl,.dat _ _⟩⟩,trivial⟩⟩
   ·refine qp ?_
    refine ⟨_,(Option.some.inj h68).symm,fun hm=>?_⟩
    subst hm
    exact ⟨_,rfl,wkE [(0,0)] [] [] rfl ⟨⟨_,rfl,.hs rfl (by decide) (ltd rfl)⟩,trivial⟩ ⟨⟨ltd rfl,.inr ⟨by decide,_,rfl,.dat _ _⟩⟩,trivial⟩⟩
  ·intro b72 hb
   subst hb
   refine q8 ?_
   refine q89 (st':=⟨[(5,.d (.sl 1 (b72.map (eI .i64))))],[],0⟩) (wkE [] [0] [] rfl ⟨⟨_,rfl,qcj rfl rfl (by decide)⟩,trivial⟩ trivial) ?_ (by simp)
   refine q6<|q0 rfl rfl ?_
   obtain ⟨r85,h86,h0⟩:=bindE h0
   refine q11 [.d (.sl 1 (b72.map (eI .i64)))] (qat b72 r85 h86) rfl rfl rfl (.inl rfl)<|qa rfl rfl<|q7<|qm ?_
   obtain rfl:=someE h0
   exact finD (.inr rfl) (v:=.d (.sl 1 (r85.map (eI .i64)))) rfl rfl (.refl _)
theorem qhy (p0 : List api_Rect) (p1 : Int) (p2 : Int) (r : Bool) (h0 : qb3 p0 p1 p2 = some r) : Pure Try.prog tab 71 [.sl 4 (p0.map qb),.int .i64 p1,.int .i64 p2] (.bool r):=by
 unfold qb3 at h0
 refine qu Try.func71 rfl (by kernel_rfl) (by kernel_rfl) rfl<|q8<|q6<|qa rfl rfl<|q7<|q8<|q8<|q6<|qa rfl rfl<|q7 ?_
 obtain ⟨m180,h181,h0⟩:=bindE h0
 refine qn (fun b182=>.inl b182 = m180) (fun (b182 : Unit)=>⟨[],[],0⟩) (by simp) ?_ ?_
 ·refine qo (q6n p0 p1 p2) (fun (a179 : Int)=>⟨[(0,.d (.sl 4 (p0.map qb))),(1,.d (.int .i64 p1)),(2,.d (.int .i64 p2)),(7,.d (.int .i64 a179))],[],0⟩) 0 m180 h181 (wkE [] [] [] rfl ⟨⟨_,rfl,.d (.refl _)⟩,⟨_,rfl,.d (.refl _)⟩,⟨_,rfl,.d (.refl _)⟩,⟨_,rfl,.d (.refl _)⟩,trivial⟩ trivial) ?_
  intro a179 y177 h178
  unfold q6n at h178
  refine q8<|q8<|q6<|q0 rfl rfl<|q0 rfl rfl<|q1b rfl rfl rfl rfl<|q9 (.d (.bool (decide (a179 < (p0.length : Int))))) rfl rfl<|q7 ?_
  refine qd rfl h178 (fun _ h178=>?_) (fun _ h178=>?_)
  ·refine qg<|q8<|ql<|q8<|q6<|q0 rfl rfl<|q0 rfl rfl ?_
   obtain ⟨v227,h228,h178⟩:=bindE h178
   refine q10 (enc:=qb) h228 rfl rfl rfl rfl rfl rfl<|q9 (.dref [.int .i64 v227.X0,.int .i64 v227.Y0,.int .i64 v227.X1,.int .i64 v227.Y1] 0) rfl rfl<|q9 (.d (.int .i64 v227.X0)) rfl rfl<|q0 rfl rfl<|q9 (.d (.bool (decide (v227.X0≤p1)))) rfl rfl ?_
   obtain ⟨c231,h232,h178⟩:=bindE h178
   refine qt 9 (fun A st=>∃ (j233 j234 j235 j236 j237 j238 j239 j240 : V),st = A [(29,.d (.bool c231)),(28,j240),(27,j239),(26,j238),(25,j237),(24,j236),(23,j235),(22,j234),(21,j233)]) ?_ ?_
   ·refine qz rfl rfl h232 (fun h232=>?_) (fun h232=>?_)
    ·refine q0 rfl rfl<|q0 rfl rfl<|q0 rfl rfl ?_
     obtain ⟨v241,h242,h232⟩:=bindE h232
     refine q10 (enc:=qb) h242 rfl rfl rfl rfl rfl rfl<|q9 (.dref [.int .i64 v241.X0,.int .i64 v241.Y0,.int .i64 v241.X1,.int .i64 v241.Y1] 2) rfl rfl<|q9 (.d (.int .i64 v241.X1)) rfl rfl<|q9 (.d (.bool (decide (p1 < v241.X1)))) rfl rfl<|q9 (.d (.bool (decide (p1 < v241.X1)))) rfl rfl<|q7 ?_
     obtain rfl:=someE h232
     exact ⟨_,_,_,_,_,_,_,_,rfl⟩
    ·refine qc rfl<|qc rfl<|qc rfl<|qc rfl<|qc rfl<|qc rfl<|qc rfl<|q9 (.d (.bool false)) rfl rfl<|q7 ?_
     obtain rfl:=someE h232
     exact ⟨_,_,_,_,_,_,_,_,rfl⟩
   ·rintro _ ⟨j233,j234,j235,j236,j237,j238,j239,j240,rfl⟩
    obtain ⟨c245,h246,h178⟩:=bindE h178
    refine qt 9 (fun A st=>∃ (j247 j248 j249 j250 j251 j252 j253 j254 : V),st = A [(38,.d (.bool c245)),(37,j254),(36,j253),(35,j252),(34,j251),(33,j250),(32,j249),(31,j248),(30,j247)]) ?_ ?_
    ·refine qz rfl rfl h246 (fun h246=>?_) (fun h246=>?_)
     ·refine q0 rfl rfl<|q0 rfl rfl ?_
      obtain ⟨v255,h256,h246⟩:=bindE h246
      refine q10 (enc:=qb) h256 rfl rfl rfl rfl rfl rfl<|q9 (.dref [.int .i64 v255.X0,.int .i64 v255.Y0,.int .i64 v255.X1,.int .i64 v255.Y1] 1) rfl rfl<|q9 (.d (.int .i64 v255.Y0)) rfl rfl<|q0 rfl rfl<|q9 (.d (.bool (decide (v255.Y0≤p2)))) rfl rfl<|q9 (.d (.bool (decide (v255.Y0≤p2)))) rfl rfl<|q7 ?_
      obtain rfl:=someE h246
      exact ⟨_,_,_,_,_,_,_,_,rfl⟩
     ·refine qc rfl<|qc rfl<|qc rfl<|qc rfl<|qc rfl<|qc rfl<|qc rfl<|q9 (.d (.bool false)) rfl rfl<|q7 ?_
      obtain rfl:=someE h246
      exact ⟨_,_,_,_,_,_,_,_,rfl⟩
    ·rintro _ ⟨j247,j248,j249,j250,j251,j252,j253,j254,rfl⟩
     obtain ⟨c259,h260,h178⟩:=bindE h178
     refine qt 9 (fun A st=>∃ (j261 j262 j263 j264 j265 j266 j267 j268 : V),st = A [(47,.d (.bool c259)),(46,j268),(45,j267),(44,j266),(43,j265),(42,j264),(41,j263),(40,j262),(39,j261)]) ?_ ?_
     ·refine qz rfl rfl h260 (fun h260=>?_) (fun h260=>?_)
      ·refine q0 rfl rfl<|q0 rfl rfl<|q0 rfl rfl ?_
       obtain ⟨v269,h270,h260⟩:=bindE h260
       refine q10 (enc:=qb) h270 rfl rfl rfl rfl rfl rfl<|q9 (.dref [.int .i64 v269.X0,.int .i64 v269.Y0,.int .i64 v269.X1,.int .i64 v269.Y1] 3) rfl rfl<|q9 (.d (.int .i64 v269.Y1)) rfl rfl<|q9 (.d (.bool (decide (p2 < v269.Y1)))) rfl rfl<|q9 (.d (.bool (decide (p2 < v269.Y1)))) rfl rfl<|q7 ?_
       obtain rfl:=someE h260
       exact ⟨_,_,_,_,_,_,_,_,rfl⟩
      ·refine qc rfl<|qc rfl<|qc rfl<|qc rfl<|qc rfl<|qc rfl<|qc rfl<|q9 (.d (.bool false)) rfl rfl<|q7 ?_
       obtain rfl:=someE h260
       exact ⟨_,_,_,_,_,_,_,_,rfl⟩
     ·rintro _ ⟨j261,j262,j263,j264,j265,j266,j267,j268,rfl⟩
      refine q7 ?_
      refine qd rfl h178 (fun _ h178=>?_) (fun _ h178=>?_)
      ·refine q8<|q6<|qa rfl rfl<|q7<|qm ?_
       refine ⟨_,(Option.some.inj h178).symm,fun hm=>?_⟩
       subst hm
       obtain rfl:=someE h0
       exact finD (.inr rfl) (v:=.d (.bool true)) rfl rfl (.refl _)
      ·refine qg<|qf<|qv<|q6<|q0 rfl rfl<|q9 (.d (.int .i64 (w64 (a179 + 1)))) rfl rfl<|qa rfl rfl<|q7<|qf ?_
       exact ⟨_,(Option.some.inj h178).symm,wkE [] [] [] rfl ⟨⟨_,rfl,.d (.refl _)⟩,⟨_,rfl,.d (.refl _)⟩,⟨_,rfl,.d (.refl _)⟩,⟨_,rfl,.d (.refl _)⟩,trivial⟩ trivial⟩
  ·refine qp ?_
   refine ⟨_,(Option.some.inj h178).symm,fun hm=>?_⟩
   subst hm
   exact ⟨_,rfl,wkE [] [] [] rfl trivial trivial⟩
 ·intro b182 hb
  subst hb
  refine q8<|q6<|qa rfl rfl<|q7<|qm ?_
  obtain rfl:=someE h0
  exact finD (.inr rfl) (v:=.d (.bool false)) rfl rfl (.refl _)
theorem qlu (p0 : Int) (p1 : Bool) (p2 : Bool) (r : Bool) (h0 : q9a p0 p1 p2 = some r) : Pure Try.prog tab 70 [.int .i64 p0,.bool p1,.bool p2] (.bool r):=by
 unfold q9a at h0
 refine qu Try.func70 rfl (by kernel_rfl) (by kernel_rfl) rfl<|q8<|q6<|qa rfl rfl<|q7<|q8<|q8<|q6<|q0 rfl rfl<|q9 (.d (.bool (p0 == 1))) rfl rfl<|q7 ?_
 refine qd rfl h0 (fun _ h0=>?_) (fun _ h0=>?_)
 ·refine q8<|q6<|q0 rfl rfl ?_
  obtain ⟨c5,h6,h0⟩:=bindE h0
  refine qt 3 (fun A st=>∃ (j7 j8 : V),st = A [(12,.d (.bool c5)),(11,j8),(10,j7)]) ?_ ?_
  ·refine qz rfl rfl h6 (fun h6=>?_) (fun h6=>?_)
   ·refine q0 rfl rfl<|q9 (.d (.bool p2)) rfl rfl<|q7 ?_
    obtain rfl:=someE h6
    exact ⟨_,_,rfl⟩
   ·refine qc rfl<|q9 (.d (.bool false)) rfl rfl<|q7 ?_
    obtain rfl:=someE h6
    exact ⟨_,_,rfl⟩
  ·rintro _ ⟨j7,j8,rfl⟩
   refine qa rfl rfl<|q7<|qm ?_
   obtain rfl:=someE h0
   exact finD (.inr rfl) (v:=.d (.bool c5)) rfl rfl (.refl _)
 ·refine qg<|q8<|q8<|q6<|q0 rfl rfl<|q9 (.d (.bool (p0 == 2))) rfl rfl<|q7 ?_
  refine qd rfl h0 (fun _ h0=>?_) (fun _ h0=>?_)
  ·refine q8<|q6<|q0 rfl rfl ?_
   obtain ⟨c13,h14,h0⟩:=bindE h0
   refine qt 3 (fun A st=>∃ (j15 j16 : V),st = A [(18,.d (.bool c13)),(17,j16),(16,j15)]) ?_ ?_
   ·refine qz rfl rfl h14 (fun h14=>?_) (fun h14=>?_)
    ·refine qc rfl<|q9 (.d (.bool true)) rfl rfl<|q7 ?_
     obtain rfl:=someE h14
     exact ⟨_,_,rfl⟩
    ·refine q0 rfl rfl<|q9 (.d (.bool p2)) rfl rfl<|q7 ?_
     obtain rfl:=someE h14
     exact ⟨_,_,rfl⟩
   ·rintro _ ⟨j15,j16,rfl⟩
    refine qa rfl rfl<|q7<|qm ?_
    obtain rfl:=someE h0
    exact finD (.inr rfl) (v:=.d (.bool c13)) rfl rfl (.refl _)
  ·refine qg<|q8<|q6<|q0 rfl rfl ?_
   obtain ⟨c17,h18,h0⟩:=bindE h0
   refine qt 4 (fun A st=>∃ (j19 j20 j21 : V),st = A [(23,.d (.bool c17)),(22,j21),(21,j20),(20,j19)]) ?_ ?_
   ·refine qz rfl rfl h18 (fun h18=>?_) (fun h18=>?_)
    ·refine q0 rfl rfl<|q9 (.d (.bool (!p2))) rfl rfl<|q9 (.d (.bool (!p2))) rfl rfl<|q7 ?_
     obtain rfl:=someE h18
     exact ⟨_,_,_,rfl⟩
    ·refine qc rfl<|qc rfl<|q9 (.d (.bool false)) rfl rfl<|q7 ?_
     obtain rfl:=someE h18
     exact ⟨_,_,_,rfl⟩
   ·rintro _ ⟨j19,j20,j21,rfl⟩
    refine qa rfl rfl<|q7<|qm ?_
    obtain rfl:=someE h0
    exact finD (.inr rfl) (v:=.d (.bool c17)) rfl rfl (.refl _)
theorem qlv (p0 : List Int) (p1 : List Bool) (r : List api_Span) (h0 : q86 p0 p1 = some r) : Pure Try.prog tab 72 [.sl 1 (p0.map (eI .i64)),.sl 1 (p1.map eB)] (.sl 2 (r.map qh)):=by
 unfold q86 at h0
 refine qu Try.func72 rfl (by kernel_rfl) (by kernel_rfl) rfl<|q8<|q6<|qa rfl rfl<|q7<|q8<|q6<|qa rfl rfl<|q7<|q8<|q8<|q6<|qa rfl rfl<|q7 ?_
 obtain ⟨m65,h66,h0⟩:=bindE h0
 refine qn (fun b67=>b67 = m65) (fun (b67 : List api_Span)=>⟨[(5,.hs 0 2 0 b67.length)],[(0,.dat 2 (b67.map qh))],1⟩) (by simp) ?_ ?_
 ·refine qo (q6g p0 p1) (fun (a64 : Int × List api_Span)=>⟨[(0,.d (.sl 1 (p0.map (eI .i64)))),(1,.d (.sl 1 (p1.map eB))),(5,.hs 0 2 0 a64.2.length),(6,.d (.int .i64 a64.1))],[(0,.dat 2 (a64.2.map qh))],1⟩) (0,[]) m65 h66 (wkE [] [] [0] rfl ⟨⟨_,rfl,.d (.refl _)⟩,⟨_,rfl,.d (.refl _)⟩,⟨_,rfl,.nil (by decide) (ltd rfl)⟩,⟨_,rfl,.d (.refl _)⟩,trivial⟩ ⟨⟨ltd rfl,.inl ⟨by decide,_,by decide,rfl⟩⟩,trivial⟩) ?_
  intro a64 y62 h63
  unfold q6g at h63
  refine q8<|q8<|q6<|q0 rfl rfl<|q9 (.d (.int .i64 (w64 (a64.1 + 1)))) rfl rfl<|q0 rfl rfl<|q1b rfl rfl rfl rfl<|q9 (.d (.bool (decide ((w64 (a64.1 + 1)) < (p0.length : Int))))) rfl rfl<|q7 ?_
  refine qd rfl h63 (fun _ h63=>?_) (fun _ h63=>?_)
  ·refine qg<|q8 ?_
   obtain ⟨m103,h102,h63⟩:=bindE h63
   refine qn (fun b104=>b104 = m103) (fun (b104 : List api_Span)=>⟨[(0,.d (.sl 1 (p0.map (eI .i64)))),(1,.d (.sl 1 (p1.map eB))),(5,.hs 0 2 0 b104.length),(6,.d (.int .i64 a64.1))],[(0,.dat 2 (b104.map qh))],1⟩) (by simp) ?_ ?_
   ·refine q8<|q8<|q6<|q0 rfl rfl<|q0 rfl rfl ?_
    obtain ⟨v105,h106,h102⟩:=bindE h102
    refine q10 (enc:=eB) h106 rfl rfl rfl rfl rfl rfl<|q9 (.d (.bool v105)) rfl rfl<|q9 (.d (.bool (!v105))) rfl rfl<|q7 ?_
    refine qd rfl h102 (fun _ h102=>?_) (fun _ h102=>?_)
    ·refine qp ?_
     obtain rfl:=someE h102
     exact ⟨_,rfl,wkE [(0,0)] [] [] rfl ⟨⟨_,rfl,.d (.refl _)⟩,⟨_,rfl,.d (.refl _)⟩,⟨_,rfl,.hs rfl (by decide) (ltd rfl)⟩,⟨_,rfl,.d (.refl _)⟩,trivial⟩ ⟨⟨ltd rfl,.inr ⟨by decide,_,rfl,.dat _ _⟩⟩,trivial⟩⟩
    ·refine qg<|q8<|q6<|q0 rfl rfl<|q9 (.d (.int .i64 (a64.2.length : Int))) rfl rfl<|qa rfl rfl<|q7<|q8<|qk [(some [],[]),(some [],[]),(some [],[]),(some [],[]),(some [],[]),(some [],[]),(some [0],[]),(some [],[]),(some [],[]),(some [],[]),(some [],[]),(some [],[]),(some [],[]),(some [],[]),(some [],[])] (by kernel_rfl)<|q0 rfl rfl<|q9 (.d (.bool (decide ((a64.2.length : Int) > 0)))) rfl rfl ?_
     obtain ⟨c111,h112,h102⟩:=bindE h102
     refine qt 13 (fun A st=>∃ (j113 j114 j115 j116 j117 j118 j119 j120 j121 j122 j123 j124 : V),st = A [(36,.d (.bool c111)),(35,j124),(34,j123),(33,j122),(32,j121),(31,j120),(30,j119),(29,j118),(28,j117),(27,j116),(26,j115),(25,j114),(24,j113)]) ?_ ?_
     ·refine qz rfl rfl h112 (fun h112=>?_) (fun h112=>?_)
      ·refine q0 rfl rfl<|q0 rfl rfl<|q9 (.d (.int .i64 (w64 ((a64.2.length : Int) - 1)))) rfl rfl ?_
       obtain ⟨v125,h126,h112⟩:=bindE h112
       refine qj h126 rfl rfl rfl rfl rfl rfl rfl<|q9 (.ref 0 2 (w64 ((a64.2.length : Int) - 1)).toNat 1) rfl rfl<|qr (.d (.int .i64 v125.Hi)) h126 rfl rfl rfl rfl rfl rfl<|q0 rfl rfl<|q0 rfl rfl ?_
       obtain ⟨v127,h128,h112⟩:=bindE h112
       refine q10 (enc:=(eI .i64)) h128 rfl rfl rfl rfl rfl rfl<|q9 (.d (.int .i64 v127)) rfl rfl<|q9 (.d (.bool (v125.Hi == v127))) rfl rfl<|q9 (.d (.bool (v125.Hi == v127))) rfl rfl<|q7 ?_
       obtain rfl:=someE h112
       exact ⟨_,_,_,_,_,_,_,_,_,_,_,_,rfl⟩
      ·refine qc rfl<|qc rfl<|qc rfl<|qc rfl<|qc rfl<|qc rfl<|qc rfl<|qc rfl<|qc rfl<|qc rfl<|qc rfl<|q9 (.d (.bool false)) rfl rfl<|q7 ?_
       obtain rfl:=someE h112
       exact ⟨_,_,_,_,_,_,_,_,_,_,_,_,rfl⟩
     ·rintro _ ⟨j113,j114,j115,j116,j117,j118,j119,j120,j121,j122,j123,j124,rfl⟩
      refine q7 ?_
      refine qd rfl h102 (fun _ h102=>?_) (fun _ h102=>?_)
      ·refine q6<|q0 rfl rfl<|q0 rfl rfl<|q9 (.d (.int .i64 (w64 ((a64.2.length : Int) - 1)))) rfl rfl<|q0 rfl rfl<|q0 rfl rfl<|q9 (.d (.int .i64 (w64 (a64.1 + 1)))) rfl rfl ?_
       obtain ⟨v129,h130,h102⟩:=bindE h102
       refine q10 (enc:=(eI .i64)) h130 rfl rfl rfl rfl rfl rfl<|q9 (.d (.int .i64 v129)) rfl rfl ?_
       obtain ⟨v131,h132,h102⟩:=bindE h102
       refine qj h132 rfl rfl rfl rfl rfl rfl rfl<|q9 (.ref 0 2 (w64 ((a64.2.length : Int) - 1)).toNat 1) rfl rfl<|q19 (ds:=[.int .i64 v129]) ({Lo:=v131.Lo,Hi:=v129} : api_Span) h132 rfl rfl rfl rfl rfl rfl rfl rfl (leb rfl) rfl<|q7<|qf ?_
       obtain rfl:=someE h102
       exact ⟨_,rfl,wkE [(0,0)] [] [] rfl ⟨⟨_,rfl,.d (.refl _)⟩,⟨_,rfl,.d (.refl _)⟩,⟨_,rfl,q16 (by simp) rfl (by decide) (ltd rfl)⟩,⟨_,rfl,.d (.refl _)⟩,trivial⟩ ⟨⟨ltd rfl,.inr ⟨by decide,_,rfl,.dat _ _⟩⟩,trivial⟩⟩
      ·refine qk [(some [],[]),(some [0,1],[0,2]),(some [],[1]),(some [],[]),(some [],[]),(some [],[]),(some [],[]),(some [],[]),(some [],[]),(some [],[]),(some [],[]),(some [],[]),(some [],[]),(some [],[])] (by kernel_rfl)<|q0 rfl rfl<|q0 rfl rfl<|q0 rfl rfl ?_
       obtain ⟨v133,h134,h102⟩:=bindE h102
       refine q10 (enc:=(eI .i64)) h134 rfl rfl rfl rfl rfl rfl<|q9 (.d (.int .i64 v133)) rfl rfl<|q0 rfl rfl<|q0 rfl rfl<|q9 (.d (.int .i64 (w64 (a64.1 + 1)))) rfl rfl ?_
       obtain ⟨v135,h136,h102⟩:=bindE h102
       refine q10 (enc:=(eI .i64)) h136 rfl rfl rfl rfl rfl rfl<|q9 (.d (.int .i64 v135)) rfl rfl<|q9 (.d (.agg [.int .i64 v133,.int .i64 v135])) rfl rfl<|q3m (.hs 1 2 0 [({Lo:=v133,Hi:=v135} : api_Span)].length) (.dat 2 ([({Lo:=v133,Hi:=v135} : api_Span)].map qh)) rfl rfl ?_
       obtain ⟨z137,h138,h102⟩:=bindE h102
       refine q5o (xs:=a64.2) (ys:=[({Lo:=v133,Hi:=v135} : api_Span)]) (enc:=qh) (.hs 1 2 0 [({Lo:=v133,Hi:=v135} : api_Span)].length) h138 rfl rfl rfl rfl rfl rfl rfl (q4b rfl rfl) rfl rfl rfl rfl<|qa rfl rfl<|q7<|qf ?_
       obtain rfl:=someE h102
       exact ⟨_,rfl,wkE [(0,2)] [] [] rfl ⟨⟨_,rfl,.d (.refl _)⟩,⟨_,rfl,.d (.refl _)⟩,⟨_,rfl,.hs rfl (by decide) (ltd rfl)⟩,⟨_,rfl,.d (.refl _)⟩,trivial⟩ ⟨⟨ltd rfl,.inr ⟨by decide,_,rfl,.dat _ _⟩⟩,trivial⟩⟩
   ·intro b104 hb
    subst hb
    refine q6<|q0 rfl rfl<|q9 (.d (.int .i64 (w64 (a64.1 + 1)))) rfl rfl<|qa rfl rfl<|q7<|qf ?_
    exact ⟨_,(Option.some.inj h63).symm,wkE [(0,0)] [] [] rfl ⟨⟨_,rfl,.d (.refl _)⟩,⟨_,rfl,.d (.refl _)⟩,⟨_,rfl,.hs rfl (by decide) (ltd rfl)⟩,⟨_,rfl,.d (.refl _)⟩,trivial⟩ ⟨⟨ltd rfl,.inr ⟨by decide,_,rfl,.dat _ _⟩⟩,trivial⟩⟩
  ·refine qp ?_
   refine ⟨_,(Option.some.inj h63).symm,fun hm=>?_⟩
   subst hm
   exact ⟨_,rfl,wkE [(0,0)] [] [] rfl ⟨⟨_,rfl,.hs rfl (by decide) (ltd rfl)⟩,trivial⟩ ⟨⟨ltd rfl,.inr ⟨by decide,_,rfl,.dat _ _⟩⟩,trivial⟩⟩
 ·intro b67 hb
  subst hb
  refine q8<|q6<|q0 rfl rfl<|qa rfl rfl<|q7<|qm ?_
  obtain rfl:=someE h0
  exact finD (.inr rfl) (v:=.hs 0 2 0 b67.length) rfl (q8v rfl rfl) (.refl _)
theorem qmm (p0 : List api_Span) (p1 : List api_Span) (r : Bool) (h0 : q9x p0 p1 = some r) : Pure Try.prog tab 73 [.sl 2 (p0.map qh),.sl 2 (p1.map qh)] (.bool r):=by
 unfold q9x at h0
 refine qu Try.func73 rfl (by kernel_rfl) (by kernel_rfl) rfl<|q8<|q6<|qa rfl rfl<|q7<|q8<|q8<|q6<|q0 rfl rfl<|q1b rfl rfl rfl rfl<|q0 rfl rfl<|q1b rfl rfl rfl rfl<|q9 (.d (.bool ((p0.length : Int) != (p1.length : Int)))) rfl rfl<|q7 ?_
 refine qd rfl h0 (fun _ h0=>?_) (fun _ h0=>?_)
 ·refine q8<|q6<|qa rfl rfl<|q7<|qm ?_
  obtain rfl:=someE h0
  exact finD (.inr rfl) (v:=.d (.bool false)) rfl rfl (.refl _)
 ·refine qg<|q8<|q8<|q6<|qa rfl rfl<|q7 ?_
  obtain ⟨m20,h21,h0⟩:=bindE h0
  refine qn (fun b22=>.inl b22 = m20) (fun (b22 : Unit)=>⟨[],[],0⟩) (by simp) ?_ ?_
  ·refine qo (qac p0 p1) (fun (a19 : Int)=>⟨[(0,.d (.sl 2 (p0.map qh))),(1,.d (.sl 2 (p1.map qh))),(5,.d (.int .i64 a19))],[],0⟩) 0 m20 h21 (wkE [] [] [] rfl ⟨⟨_,rfl,.d (.refl _)⟩,⟨_,rfl,.d (.refl _)⟩,⟨_,rfl,.d (.refl _)⟩,trivial⟩ trivial) ?_
   intro a19 y17 h18
   unfold qac at h18
   refine q8<|q8<|q6<|q0 rfl rfl<|q0 rfl rfl<|q1b rfl rfl rfl rfl<|q9 (.d (.bool (decide (a19 < (p0.length : Int))))) rfl rfl<|q7 ?_
   refine qd rfl h18 (fun _ h18=>?_) (fun _ h18=>?_)
   ·refine qg<|q8<|ql<|q8<|qk [(some [],[]),(some [],[]),(some [],[]),(some [],[]),(some [],[]),(some [],[]),(some [],[]),(some [],[]),(some [],[])] (by kernel_rfl)<|q0 rfl rfl<|q0 rfl rfl ?_
    obtain ⟨v27,h28,h18⟩:=bindE h18
    refine q10 (enc:=qh) h28 rfl rfl rfl rfl rfl rfl<|q9 (.d (.agg [.int .i64 v27.Lo,.int .i64 v27.Hi])) rfl rfl<|q0 rfl rfl<|q0 rfl rfl ?_
    obtain ⟨v29,h30,h18⟩:=bindE h18
    refine q10 (enc:=qh) h30 rfl rfl rfl rfl rfl rfl<|q9 (.d (.agg [.int .i64 v29.Lo,.int .i64 v29.Hi])) rfl rfl<|q9 (.d (.bool (!((v27.Lo == v29.Lo) && ((v27.Hi == v29.Hi) && true))))) rfl rfl<|q7 ?_
    refine qd rfl h18 (fun _ h18=>?_) (fun _ h18=>?_)
    ·refine q8<|q6<|qa rfl rfl<|q7<|qm ?_
     refine ⟨_,(Option.some.inj h18).symm,fun hm=>?_⟩
     subst hm
     obtain rfl:=someE h0
     exact finD (.inr rfl) (v:=.d (.bool false)) rfl rfl (.refl _)
    ·refine qg<|qf<|qv<|q6<|q0 rfl rfl<|q9 (.d (.int .i64 (w64 (a19 + 1)))) rfl rfl<|qa rfl rfl<|q7<|qf ?_
     exact ⟨_,(Option.some.inj h18).symm,wkE [] [] [] rfl ⟨⟨_,rfl,.d (.refl _)⟩,⟨_,rfl,.d (.refl _)⟩,⟨_,rfl,.d (.refl _)⟩,trivial⟩ trivial⟩
   ·refine qp ?_
    refine ⟨_,(Option.some.inj h18).symm,fun hm=>?_⟩
    subst hm
    exact ⟨_,rfl,wkE [] [] [] rfl trivial trivial⟩
  ·intro b22 hb
   subst hb
   refine q8<|q6<|qa rfl rfl<|q7<|qm ?_
   obtain rfl:=someE h0
   exact finD (.inr rfl) (v:=.d (.bool true)) rfl rfl (.refl _)
theorem q8x (p0 : Int) (p1 : List api_Rect) (p2 : List api_Rect) (r : List api_Rect) (h0 : q5g p0 p1 p2 = some r) : Pure Try.prog tab 54 [.int .i64 p0,.sl 4 (p1.map qb),.sl 4 (p2.map qb)] (.sl 4 (r.map qb)):=by
 unfold q5g at h0
 refine qu Try.func54 rfl (by kernel_rfl) (by kernel_rfl) rfl<|q8<|q6<|qa rfl rfl<|q7<|q8<|q6<|q0 rfl rfl<|q0 rfl rfl ?_
 obtain ⟨r1,h2,h0⟩:=bindE h0
 refine q11 [.d (.sl 4 (p1.map qb)),.d (.sl 4 (p2.map qb))] (qpe p1 p2 r1 h2) rfl rfl rfl (.inl rfl)<|q0 rfl rfl<|q0 rfl rfl ?_
 obtain ⟨r3,h4,h0⟩:=bindE h0
 refine q11 [.d (.sl 4 (p1.map qb)),.d (.sl 4 (p2.map qb))] (qpf p1 p2 r3 h4) rfl rfl rfl (.inl rfl)<|qa rfl rfl<|qa rfl rfl<|q7<|q8<|q6<|qa rfl rfl<|q7<|q8<|q6<|qa rfl rfl<|q7<|q8<|q6<|qa rfl rfl<|q7<|q8<|q8<|q6<|qa rfl rfl<|q7 ?_
 obtain ⟨m452,h453,h0⟩:=bindE h0
 refine qn (fun b454=>b454 = m452) (fun (b454 : List api_Rect)=>⟨[(9,.hs 0 4 0 b454.length)],[(0,.dat 4 (b454.map qb))],1⟩) (by simp) ?_ ?_
 ·refine qo (q5j r1 r3 p1 p2 p0) (fun (a451 : List api_Span × Int × Int × List api_Rect)=>⟨[(0,.d (.int .i64 p0)),(1,.d (.sl 4 (p1.map qb))),(2,.d (.sl 4 (p2.map qb))),(7,.d (.sl 1 (r1.map (eI .i64)))),(8,.d (.sl 1 (r3.map (eI .i64)))),(9,.hs 0 4 0 a451.2.2.2.length),(10,.d (.sl 2 (a451.1.map qh))),(11,.d (.int .i64 a451.2.1)),(12,.d (.int .i64 a451.2.2.1))],[(0,.dat 4 (a451.2.2.2.map qb))],1⟩) ([],0,0,[]) m452 h453 (wkE [] [] [0] rfl ⟨⟨_,rfl,.d (.refl _)⟩,⟨_,rfl,.d (.refl _)⟩,⟨_,rfl,.d (.refl _)⟩,⟨_,rfl,.d (.refl _)⟩,⟨_,rfl,.d (.refl _)⟩,⟨_,rfl,.nil (by decide) (ltd rfl)⟩,⟨_,rfl,.d (.nil _)⟩,⟨_,rfl,.d (.refl _)⟩,⟨_,rfl,.d (.refl _)⟩,trivial⟩ ⟨⟨ltd rfl,.inl ⟨by decide,_,by decide,rfl⟩⟩,trivial⟩) ?_
  intro a451 y449 h450
  unfold q5j at h450
  refine q8<|q8<|q6<|q0 rfl rfl<|q9 (.d (.int .i64 (w64 (a451.2.2.1 + 1)))) rfl rfl<|q0 rfl rfl<|q1b rfl rfl rfl rfl<|q9 (.d (.bool (decide ((w64 (a451.2.2.1 + 1)) < (r1.length : Int))))) rfl rfl<|q7 ?_
  refine qd rfl h450 (fun _ h450=>?_) (fun _ h450=>?_)
  ·refine qg<|q8 ?_
   obtain ⟨m607,h606,h450⟩:=bindE h450
   refine qn (fun b608=>b608 = m607) (fun (b608 : List api_Span × Int × List api_Rect)=>⟨[(0,.d (.int .i64 p0)),(1,.d (.sl 4 (p1.map qb))),(2,.d (.sl 4 (p2.map qb))),(7,.d (.sl 1 (r1.map (eI .i64)))),(8,.d (.sl 1 (r3.map (eI .i64)))),(9,.hs 0 4 0 b608.2.2.length),(10,.d (.sl 2 (b608.1.map qh))),(11,.d (.int .i64 b608.2.1)),(12,.d (.int .i64 a451.2.2.1))],[(0,.dat 4 (b608.2.2.map qb))],1⟩) (by simp) ?_ ?_
   ·refine q8<|q6<|qa rfl rfl<|q7<|q8<|q8<|q6<|qa rfl rfl<|q7 ?_
    obtain ⟨m676,h677,h606⟩:=bindE h606
    refine qn (fun b678=>b678 = m676) (fun (b678 : List Bool)=>⟨[(0,.d (.int .i64 p0)),(1,.d (.sl 4 (p1.map qb))),(2,.d (.sl 4 (p2.map qb))),(7,.d (.sl 1 (r1.map (eI .i64)))),(8,.d (.sl 1 (r3.map (eI .i64)))),(9,.hs 0 4 0 a451.2.2.2.length),(10,.d (.sl 2 (a451.1.map qh))),(11,.d (.int .i64 a451.2.1)),(12,.d (.int .i64 a451.2.2.1)),(13,.hs 1 1 0 b678.length)],[(0,.dat 4 (a451.2.2.2.map qb)),(1,.dat 1 (b678.map eB))],2⟩) (by simp) ?_ ?_
    ·refine qo (q62 r3 r1 a451 p1 p2 p0) (fun (a675 : Int × List Bool)=>⟨[(0,.d (.int .i64 p0)),(1,.d (.sl 4 (p1.map qb))),(2,.d (.sl 4 (p2.map qb))),(7,.d (.sl 1 (r1.map (eI .i64)))),(8,.d (.sl 1 (r3.map (eI .i64)))),(9,.hs 0 4 0 a451.2.2.2.length),(10,.d (.sl 2 (a451.1.map qh))),(11,.d (.int .i64 a451.2.1)),(12,.d (.int .i64 a451.2.2.1)),(13,.hs 1 1 0 a675.2.length),(14,.d (.int .i64 a675.1))],[(0,.dat 4 (a451.2.2.2.map qb)),(1,.dat 1 (a675.2.map eB))],2⟩) (0,[]) m676 h677 (wkE [(0,0)] [] [1] rfl ⟨⟨_,rfl,.d (.refl _)⟩,⟨_,rfl,.d (.refl _)⟩,⟨_,rfl,.d (.refl _)⟩,⟨_,rfl,.d (.refl _)⟩,⟨_,rfl,.d (.refl _)⟩,⟨_,rfl,.hs rfl (by decide) (ltd rfl)⟩,⟨_,rfl,.d (.refl _)⟩,⟨_,rfl,.d (.refl _)⟩,⟨_,rfl,.d (.refl _)⟩,⟨_,rfl,.nil (by decide) (ltd rfl)⟩,⟨_,rfl,.d (.refl _)⟩,trivial⟩ ⟨⟨ltd rfl,.inr ⟨by decide,_,rfl,.dat _ _⟩⟩,⟨ltd rfl,.inl ⟨by decide,_,by decide,rfl⟩⟩,trivial⟩) ?_
     intro a675 y673 h674
     unfold q62 at h674
     refine q8<|q8<|q6<|q0 rfl rfl<|q0 rfl rfl<|q1b rfl rfl rfl rfl<|q9 (.d (.bool (decide (a675.1 < (r3.length : Int))))) rfl rfl<|q7 ?_
     refine qd rfl h674 (fun _ h674=>?_) (fun _ h674=>?_)
     ·refine qg<|q8<|ql<|qk [(some [],[]),(some [1,2],[1,3]),(some [],[2]),(some [],[]),(some [],[]),(some [],[]),(some [],[]),(some [],[]),(some [],[]),(some [],[]),(some [],[]),(some [],[]),(some [],[]),(some [],[]),(some [],[]),(some [],[]),(some [],[]),(some [],[]),(some [],[]),(some [],[]),(some [],[]),(some [],[]),(some [],[]),(some [],[]),(some [],[]),(some [],[])] (by kernel_rfl)<|q0 rfl rfl<|q0 rfl rfl<|q0 rfl rfl<|q0 rfl rfl<|q0 rfl rfl ?_
      obtain ⟨v695,h696,h674⟩:=bindE h674
      refine q10 (enc:=(eI .i64)) h696 rfl rfl rfl rfl rfl rfl<|q9 (.d (.int .i64 v695)) rfl rfl<|q0 rfl rfl<|q0 rfl rfl ?_
      obtain ⟨v697,h698,h674⟩:=bindE h674
      refine q10 (enc:=(eI .i64)) h698 rfl rfl rfl rfl rfl rfl<|q9 (.d (.int .i64 v697)) rfl rfl ?_
      obtain ⟨r699,h700,h674⟩:=bindE h674
      refine q11 [.d (.sl 4 (p1.map qb)),.d (.int .i64 v695),.d (.int .i64 v697)] (qhy p1 v695 v697 r699 h700) rfl rfl rfl (.inl rfl)<|q0 rfl rfl<|q0 rfl rfl<|q0 rfl rfl ?_
      obtain ⟨v701,h702,h674⟩:=bindE h674
      refine q10 (enc:=(eI .i64)) h702 rfl rfl rfl rfl rfl rfl<|q9 (.d (.int .i64 v701)) rfl rfl<|q0 rfl rfl<|q0 rfl rfl ?_
      obtain ⟨v703,h704,h674⟩:=bindE h674
      refine q10 (enc:=(eI .i64)) h704 rfl rfl rfl rfl rfl rfl<|q9 (.d (.int .i64 v703)) rfl rfl ?_
      obtain ⟨r705,h706,h674⟩:=bindE h674
      refine q11 [.d (.sl 4 (p2.map qb)),.d (.int .i64 v701),.d (.int .i64 v703)] (qhy p2 v701 v703 r705 h706) rfl rfl rfl (.inl rfl) ?_
      obtain ⟨r707,h708,h674⟩:=bindE h674
      refine q11 [.d (.int .i64 p0),.d (.bool r699),.d (.bool r705)] (qlu p0 r699 r705 r707 h708) rfl rfl rfl (.inl rfl)<|q3m (.hs 2 1 0 [r707].length) (.dat 1 ([r707].map eB)) rfl rfl ?_
      obtain ⟨z709,h710,h674⟩:=bindE h674
      refine q5o (xs:=a675.2) (ys:=[r707]) (enc:=eB) (.hs 2 1 0 [r707].length) h710 rfl rfl rfl rfl rfl rfl rfl (q4b rfl rfl) rfl rfl rfl rfl<|qa rfl rfl<|q7<|qf<|qv<|q6<|q0 rfl rfl<|q9 (.d (.int .i64 (w64 (a675.1 + 1)))) rfl rfl<|qa rfl rfl<|q7<|qf ?_
      exact ⟨_,(Option.some.inj h674).symm,wkE [(0,0),(1,3)] [] [] rfl ⟨⟨_,rfl,.d (.refl _)⟩,⟨_,rfl,.d (.refl _)⟩,⟨_,rfl,.d (.refl _)⟩,⟨_,rfl,.d (.refl _)⟩,⟨_,rfl,.d (.refl _)⟩,⟨_,rfl,.hs rfl (by decide) (ltd rfl)⟩,⟨_,rfl,.d (.refl _)⟩,⟨_,rfl,.d (.refl _)⟩,⟨_,rfl,.d (.refl _)⟩,⟨_,rfl,.hs rfl (by decide) (ltd rfl)⟩,⟨_,rfl,.d (.refl _)⟩,trivial⟩ ⟨⟨ltd rfl,.inr ⟨by decide,_,rfl,.dat _ _⟩⟩,⟨ltd rfl,.inr ⟨by decide,_,rfl,.dat _ _⟩⟩,trivial⟩⟩
     ·refine qp ?_
      refine ⟨_,(Option.some.inj h674).symm,fun hm=>?_⟩
      subst hm
      exact ⟨_,rfl,wkE [(0,0),(1,1)] [] [] rfl ⟨⟨_,rfl,.d (.refl _)⟩,⟨_,rfl,.d (.refl _)⟩,⟨_,rfl,.d (.refl _)⟩,⟨_,rfl,.d (.refl _)⟩,⟨_,rfl,.d (.refl _)⟩,⟨_,rfl,.hs rfl (by decide) (ltd rfl)⟩,⟨_,rfl,.d (.refl _)⟩,⟨_,rfl,.d (.refl _)⟩,⟨_,rfl,.d (.refl _)⟩,⟨_,rfl,.hs rfl (by decide) (ltd rfl)⟩,trivial⟩ ⟨⟨ltd rfl,.inr ⟨by decide,_,rfl,.dat _ _⟩⟩,⟨ltd rfl,.inr ⟨by decide,_,rfl,.dat _ _⟩⟩,trivial⟩⟩
    ·intro b678 hb
     subst hb
     refine q8 ?_
     refine q89 (st':=⟨[(0,.d (.int .i64 p0)),(1,.d (.sl 4 (p1.map qb))),(2,.d (.sl 4 (p2.map qb))),(7,.d (.sl 1 (r1.map (eI .i64)))),(8,.d (.sl 1 (r3.map (eI .i64)))),(9,.hs 0 4 0 a451.2.2.2.length),(10,.d (.sl 2 (a451.1.map qh))),(11,.d (.int .i64 a451.2.1)),(12,.d (.int .i64 a451.2.2.1)),(13,.d (.sl 1 (b678.map eB)))],[(0,.dat 4 (a451.2.2.2.map qb))],1⟩) (wkE [(0,0)] [1] [] rfl ⟨⟨_,rfl,.d (.refl _)⟩,⟨_,rfl,.d (.refl _)⟩,⟨_,rfl,.d (.refl _)⟩,⟨_,rfl,.d (.refl _)⟩,⟨_,rfl,.d (.refl _)⟩,⟨_,rfl,.hs rfl (by decide) (ltd rfl)⟩,⟨_,rfl,.d (.refl _)⟩,⟨_,rfl,.d (.refl _)⟩,⟨_,rfl,.d (.refl _)⟩,⟨_,rfl,qcj rfl rfl (by decide)⟩,trivial⟩ ⟨⟨ltd rfl,.inr ⟨by decide,_,rfl,.dat _ _⟩⟩,trivial⟩) ?_ (by simp)
     refine q6<|q0 rfl rfl<|q0 rfl rfl ?_
     obtain ⟨r711,h712,h606⟩:=bindE h606
     refine q11 [.d (.sl 1 (r3.map (eI .i64))),.d (.sl 1 (b678.map eB))] (qlv r3 b678 r711 h712) rfl rfl rfl (.inl rfl)<|qa rfl rfl<|q7<|q8<|q8<|q6<|q0 rfl rfl<|q9 (.d (.bool (decide (a451.2.2.1 > 0)))) rfl rfl ?_
     obtain ⟨c715,h716,h606⟩:=bindE h606
     refine qt 5 (fun A st=>∃ (j717 j718 j719 j720 : V),st = A [(71,.d (.bool c715)),(70,j720),(69,j719),(68,j718),(67,j717)]) ?_ ?_
     ·refine qz rfl rfl h716 (fun h716=>?_) (fun h716=>?_)
      ·refine q0 rfl rfl<|q0 rfl rfl ?_
       obtain ⟨r721,h722,h716⟩:=bindE h716
       refine q11 [.d (.sl 2 (r711.map qh)),.d (.sl 2 (a451.1.map qh))] (qmm r711 a451.1 r721 h722) rfl rfl rfl (.inl rfl)<|q9 (.d (.bool r721)) rfl rfl<|q7 ?_
       obtain rfl:=someE h716
       exact ⟨_,_,_,_,rfl⟩
      ·refine qc rfl<|qc rfl<|qc rfl<|q9 (.d (.bool false)) rfl rfl<|q7 ?_
       obtain rfl:=someE h716
       exact ⟨_,_,_,_,rfl⟩
     ·rintro _ ⟨j717,j718,j719,j720,rfl⟩
      refine q7 ?_
      refine qd rfl h606 (fun _ h606=>?_) (fun _ h606=>?_)
      ·refine q8<|q8<|q6<|q0 rfl rfl<|qa rfl rfl<|q7 ?_
       obtain ⟨m759,h760,h606⟩:=bindE h606
       refine qn (fun b761=>b761 = m759) (fun (b761 : List api_Rect)=>⟨[(0,.d (.int .i64 p0)),(1,.d (.sl 4 (p1.map qb))),(2,.d (.sl 4 (p2.map qb))),(7,.d (.sl 1 (r1.map (eI .i64)))),(8,.d (.sl 1 (r3.map (eI .i64)))),(9,.hs 0 4 0 b761.length),(10,.d (.sl 2 (a451.1.map qh))),(11,.d (.int .i64 a451.2.1)),(12,.d (.int .i64 a451.2.2.1))],[(0,.dat 4 (b761.map qb))],1⟩) (by simp) ?_ ?_
       ·refine qo (q63 r1 a451) (fun (a758 : Int × List api_Rect)=>⟨[(0,.d (.int .i64 p0)),(1,.d (.sl 4 (p1.map qb))),(2,.d (.sl 4 (p2.map qb))),(7,.d (.sl 1 (r1.map (eI .i64)))),(8,.d (.sl 1 (r3.map (eI .i64)))),(9,.hs 0 4 0 a758.2.length),(10,.d (.sl 2 (a451.1.map qh))),(11,.d (.int .i64 a451.2.1)),(12,.d (.int .i64 a451.2.2.1)),(16,.d (.int .i64 a758.1))],[(0,.dat 4 (a758.2.map qb))],1⟩) (a451.2.1,a451.2.2.2) m759 h760 (wkE [(0,0)] [] [] rfl ⟨⟨_,rfl,.d (.refl _)⟩,⟨_,rfl,.d (.refl _)⟩,⟨_,rfl,.d (.refl _)⟩,⟨_,rfl,.d (.refl _)⟩,⟨_,rfl,.d (.refl _)⟩,⟨_,rfl,.hs rfl (by decide) (ltd rfl)⟩,⟨_,rfl,.d (.refl _)⟩,⟨_,rfl,.d (.refl _)⟩,⟨_,rfl,.d (.refl _)⟩,⟨_,rfl,.d (.refl _)⟩,trivial⟩ ⟨⟨ltd rfl,.inr ⟨by decide,_,rfl,.dat _ _⟩⟩,trivial⟩) ?_
        intro a758 y756 h757
        unfold q63 at h757
        refine q8<|q8<|q6<|q0 rfl rfl<|q0 rfl rfl<|q9 (.d (.int .i64 (a758.2.length : Int))) rfl rfl<|q9 (.d (.bool (decide (a758.1 < (a758.2.length : Int))))) rfl rfl<|q7 ?_
        refine qd rfl h757 (fun _ h757=>?_) (fun _ h757=>?_)
        ·refine qg<|q8<|ql<|q6<|q0 rfl rfl<|q0 rfl rfl<|q0 rfl rfl<|q0 rfl rfl<|q9 (.d (.int .i64 (w64 (a451.2.2.1 + 1)))) rfl rfl ?_
         obtain ⟨v766,h767,h757⟩:=bindE h757
         refine q10 (enc:=(eI .i64)) h767 rfl rfl rfl rfl rfl rfl<|q9 (.d (.int .i64 v766)) rfl rfl ?_
         obtain ⟨v768,h769,h757⟩:=bindE h757
         refine qj h769 rfl rfl rfl rfl rfl rfl rfl<|q9 (.ref 0 4 a758.1.toNat 2) rfl rfl<|q19 (ds:=[.int .i64 v766]) ({X0:=v768.X0,Y0:=v768.Y0,X1:=v766,Y1:=v768.Y1} : api_Rect) h769 rfl rfl rfl rfl rfl rfl rfl rfl (leb rfl) rfl<|q7<|qf<|qv<|q6<|q0 rfl rfl<|q9 (.d (.int .i64 (w64 (a758.1 + 1)))) rfl rfl<|qa rfl rfl<|q7<|qf ?_
         exact ⟨_,(Option.some.inj h757).symm,wkE [(0,0)] [] [] rfl ⟨⟨_,rfl,.d (.refl _)⟩,⟨_,rfl,.d (.refl _)⟩,⟨_,rfl,.d (.refl _)⟩,⟨_,rfl,.d (.refl _)⟩,⟨_,rfl,.d (.refl _)⟩,⟨_,rfl,q16 (by simp) rfl (by decide) (ltd rfl)⟩,⟨_,rfl,.d (.refl _)⟩,⟨_,rfl,.d (.refl _)⟩,⟨_,rfl,.d (.refl _)⟩,⟨_,rfl,.d (.refl _)⟩,trivial⟩ ⟨⟨ltd rfl,.inr ⟨by decide,_,rfl,.dat _ _⟩⟩,trivial⟩⟩
        ·refine qp ?_
         refine ⟨_,(Option.some.inj h757).symm,fun hm=>?_⟩
         subst hm
         exact ⟨_,rfl,wkE [(0,0)] [] [] rfl ⟨⟨_,rfl,.d (.refl _)⟩,⟨_,rfl,.d (.refl _)⟩,⟨_,rfl,.d (.refl _)⟩,⟨_,rfl,.d (.refl _)⟩,⟨_,rfl,.d (.refl _)⟩,⟨_,rfl,.hs rfl (by decide) (ltd rfl)⟩,⟨_,rfl,.d (.refl _)⟩,⟨_,rfl,.d (.refl _)⟩,⟨_,rfl,.d (.refl _)⟩,trivial⟩ ⟨⟨ltd rfl,.inr ⟨by decide,_,rfl,.dat _ _⟩⟩,trivial⟩⟩
       ·intro b761 hb
        subst hb
        refine qp ?_
        obtain rfl:=someE h606
        exact ⟨_,rfl,wkE [(0,0)] [] [] rfl ⟨⟨_,rfl,.d (.refl _)⟩,⟨_,rfl,.d (.refl _)⟩,⟨_,rfl,.d (.refl _)⟩,⟨_,rfl,.d (.refl _)⟩,⟨_,rfl,.d (.refl _)⟩,⟨_,rfl,.hs rfl (by decide) (ltd rfl)⟩,⟨_,rfl,.d (.refl _)⟩,⟨_,rfl,.d (.refl _)⟩,⟨_,rfl,.d (.refl _)⟩,trivial⟩ ⟨⟨ltd rfl,.inr ⟨by decide,_,rfl,.dat _ _⟩⟩,trivial⟩⟩
      ·refine qg<|q8<|q6<|q0 rfl rfl<|q9 (.d (.int .i64 (a451.2.2.2.length : Int))) rfl rfl<|q0 rfl rfl<|qa rfl rfl<|qa rfl rfl<|q7<|q8<|q6<|qa rfl rfl<|q7 ?_
       obtain ⟨m813,h814,h606⟩:=bindE h606
       refine ql<|qo (q6l r711 r1 a451) (fun (a812 : Int × List api_Rect)=>⟨[(0,.d (.int .i64 p0)),(1,.d (.sl 4 (p1.map qb))),(2,.d (.sl 4 (p2.map qb))),(7,.d (.sl 1 (r1.map (eI .i64)))),(8,.d (.sl 1 (r3.map (eI .i64)))),(9,.hs 0 4 0 a812.2.length),(10,.d (.sl 2 (r711.map qh))),(11,.d (.int .i64 (a451.2.2.2.length : Int))),(12,.d (.int .i64 a451.2.2.1)),(15,.d (.sl 2 (r711.map qh))),(17,.d (.int .i64 a812.1))],[(0,.dat 4 (a812.2.map qb))],1⟩) (0,a451.2.2.2) m813 h814 (wkE [(0,0)] [] [] rfl ⟨⟨_,rfl,.d (.refl _)⟩,⟨_,rfl,.d (.refl _)⟩,⟨_,rfl,.d (.refl _)⟩,⟨_,rfl,.d (.refl _)⟩,⟨_,rfl,.d (.refl _)⟩,⟨_,rfl,.hs rfl (by decide) (ltd rfl)⟩,⟨_,rfl,.d (.refl _)⟩,⟨_,rfl,.d (.refl _)⟩,⟨_,rfl,.d (.refl _)⟩,⟨_,rfl,.d (.refl _)⟩,⟨_,rfl,.d (.refl _)⟩,trivial⟩ ⟨⟨ltd rfl,.inr ⟨by decide,_,rfl,.dat _ _⟩⟩,trivial⟩) ?_
       intro a812 y810 h811
       unfold q6l at h811
       refine q8<|q8<|q6<|q0 rfl rfl<|q0 rfl rfl<|q1b rfl rfl rfl rfl<|q9 (.d (.bool (decide (a812.1 < (r711.length : Int))))) rfl rfl<|q7 ?_
       refine qd rfl h811 (fun _ h811=>?_) (fun _ h811=>?_)
       ·refine qg<|q8<|ql<|qk [(some [],[]),(some [0,1],[0,2]),(some [],[1]),(some [],[]),(some [],[]),(some [],[]),(some [],[]),(some [],[]),(some [],[]),(some [],[]),(some [],[]),(some [],[]),(some [],[]),(some [],[]),(some [],[]),(some [],[]),(some [],[]),(some [],[]),(some [],[]),(some [],[]),(some [],[]),(some [],[]),(some [],[]),(some [],[])] (by kernel_rfl)<|q0 rfl rfl<|q0 rfl rfl<|q0 rfl rfl ?_
        obtain ⟨v826,h827,h811⟩:=bindE h811
        refine q10 (enc:=(eI .i64)) h827 rfl rfl rfl rfl rfl rfl<|q9 (.d (.int .i64 v826)) rfl rfl<|q0 rfl rfl<|q0 rfl rfl ?_
        obtain ⟨v828,h829,h811⟩:=bindE h811
        refine q10 (enc:=qh) h829 rfl rfl rfl rfl rfl rfl<|q9 (.dref [.int .i64 v828.Lo,.int .i64 v828.Hi] 0) rfl rfl<|q9 (.d (.int .i64 v828.Lo)) rfl rfl<|q0 rfl rfl<|q0 rfl rfl<|q9 (.d (.int .i64 (w64 (a451.2.2.1 + 1)))) rfl rfl ?_
        obtain ⟨v830,h831,h811⟩:=bindE h811
        refine q10 (enc:=(eI .i64)) h831 rfl rfl rfl rfl rfl rfl<|q9 (.d (.int .i64 v830)) rfl rfl<|q0 rfl rfl<|q0 rfl rfl ?_
        obtain ⟨v832,h833,h811⟩:=bindE h811
        refine q10 (enc:=qh) h833 rfl rfl rfl rfl rfl rfl<|q9 (.dref [.int .i64 v832.Lo,.int .i64 v832.Hi] 1) rfl rfl<|q9 (.d (.int .i64 v832.Hi)) rfl rfl<|q9 (.d (.agg [.int .i64 v826,.int .i64 v828.Lo,.int .i64 v830,.int .i64 v832.Hi])) rfl rfl<|q3m (.hs 1 4 0 [({X0:=v826,Y0:=v828.Lo,X1:=v830,Y1:=v832.Hi} : api_Rect)].length) (.dat 4 ([({X0:=v826,Y0:=v828.Lo,X1:=v830,Y1:=v832.Hi} : api_Rect)].map qb)) rfl rfl ?_
        obtain ⟨z834,h835,h811⟩:=bindE h811
        refine q5o (xs:=a812.2) (ys:=[({X0:=v826,Y0:=v828.Lo,X1:=v830,Y1:=v832.Hi} : api_Rect)]) (enc:=qb) (.hs 1 4 0 [({X0:=v826,Y0:=v828.Lo,X1:=v830,Y1:=v832.Hi} : api_Rect)].length) h835 rfl rfl rfl rfl rfl rfl rfl (q4b rfl rfl) rfl rfl rfl rfl<|qa rfl rfl<|q7<|qf<|qv<|q6<|q0 rfl rfl<|q9 (.d (.int .i64 (w64 (a812.1 + 1)))) rfl rfl<|qa rfl rfl<|q7<|qf ?_
        exact ⟨_,(Option.some.inj h811).symm,wkE [(0,2)] [] [] rfl ⟨⟨_,rfl,.d (.refl _)⟩,⟨_,rfl,.d (.refl _)⟩,⟨_,rfl,.d (.refl _)⟩,⟨_,rfl,.d (.refl _)⟩,⟨_,rfl,.d (.refl _)⟩,⟨_,rfl,.hs rfl (by decide) (ltd rfl)⟩,⟨_,rfl,.d (.refl _)⟩,⟨_,rfl,.d (.refl _)⟩,⟨_,rfl,.d (.refl _)⟩,⟨_,rfl,.d (.refl _)⟩,⟨_,rfl,.d (.refl _)⟩,trivial⟩ ⟨⟨ltd rfl,.inr ⟨by decide,_,rfl,.dat _ _⟩⟩,trivial⟩⟩
       ·refine qp ?_
        refine ⟨_,(Option.some.inj h811).symm,fun hm=>?_⟩
        subst hm
        obtain rfl:=someE h606
        exact ⟨_,rfl,wkE [(0,0)] [] [] rfl ⟨⟨_,rfl,.d (.refl _)⟩,⟨_,rfl,.d (.refl _)⟩,⟨_,rfl,.d (.refl _)⟩,⟨_,rfl,.d (.refl _)⟩,⟨_,rfl,.d (.refl _)⟩,⟨_,rfl,.hs rfl (by decide) (ltd rfl)⟩,⟨_,rfl,.d (.refl _)⟩,⟨_,rfl,.d (.refl _)⟩,⟨_,rfl,.d (.refl _)⟩,trivial⟩ ⟨⟨ltd rfl,.inr ⟨by decide,_,rfl,.dat _ _⟩⟩,trivial⟩⟩
   ·intro b608 hb
    subst hb
    refine q6<|q0 rfl rfl<|q9 (.d (.int .i64 (w64 (a451.2.2.1 + 1)))) rfl rfl<|qa rfl rfl<|q7<|qf ?_
    exact ⟨_,(Option.some.inj h450).symm,wkE [(0,0)] [] [] rfl ⟨⟨_,rfl,.d (.refl _)⟩,⟨_,rfl,.d (.refl _)⟩,⟨_,rfl,.d (.refl _)⟩,⟨_,rfl,.d (.refl _)⟩,⟨_,rfl,.d (.refl _)⟩,⟨_,rfl,.hs rfl (by decide) (ltd rfl)⟩,⟨_,rfl,.d (.refl _)⟩,⟨_,rfl,.d (.refl _)⟩,⟨_,rfl,.d (.refl _)⟩,trivial⟩ ⟨⟨ltd rfl,.inr ⟨by decide,_,rfl,.dat _ _⟩⟩,trivial⟩⟩
  ·refine qp ?_
   refine ⟨_,(Option.some.inj h450).symm,fun hm=>?_⟩
   subst hm
   exact ⟨_,rfl,wkE [(0,0)] [] [] rfl ⟨⟨_,rfl,.hs rfl (by decide) (ltd rfl)⟩,trivial⟩ ⟨⟨ltd rfl,.inr ⟨by decide,_,rfl,.dat _ _⟩⟩,trivial⟩⟩
 ·intro b454 hb
  subst hb
  refine q8<|q6<|q0 rfl rfl<|qa rfl rfl<|q7<|qm ?_
  obtain rfl:=someE h0
  exact finD (.inr rfl) (v:=.hs 0 4 0 b454.length) rfl (q8v rfl rfl) (.refl _)
theorem qbk (p0 : List api_Rect) (p1 : List api_Rect) (r : Bool) (h0 : q64 p0 p1 = some r) : Pure Try.prog tab 53 [.sl 4 (p0.map qb),.sl 4 (p1.map qb)] (.bool r):=by
 unfold q64 at h0
 refine qu Try.func53 rfl (by kernel_rfl) (by kernel_rfl) rfl<|q8<|q6<|qa rfl rfl<|q7<|q8<|q8<|q6<|q0 rfl rfl<|q1b rfl rfl rfl rfl<|q0 rfl rfl<|q1b rfl rfl rfl rfl<|q9 (.d (.bool ((p0.length : Int) != (p1.length : Int)))) rfl rfl<|q7 ?_
 refine qd rfl h0 (fun _ h0=>?_) (fun _ h0=>?_)
 ·refine q8<|q6<|qa rfl rfl<|q7<|qm ?_
  obtain rfl:=someE h0
  exact finD (.inr rfl) (v:=.d (.bool false)) rfl rfl (.refl _)
 ·refine qg<|q8<|q8<|q6<|qa rfl rfl<|q7 ?_
  obtain ⟨m20,h21,h0⟩:=bindE h0
  refine qn (fun b22=>.inl b22 = m20) (fun (b22 : Unit)=>⟨[],[],0⟩) (by simp) ?_ ?_
  ·refine qo (q7a p0 p1) (fun (a19 : Int)=>⟨[(0,.d (.sl 4 (p0.map qb))),(1,.d (.sl 4 (p1.map qb))),(5,.d (.int .i64 a19))],[],0⟩) 0 m20 h21 (wkE [] [] [] rfl ⟨⟨_,rfl,.d (.refl _)⟩,⟨_,rfl,.d (.refl _)⟩,⟨_,rfl,.d (.refl _)⟩,trivial⟩ trivial) ?_
   intro a19 y17 h18
   unfold q7a at h18
   refine q8<|q8<|q6<|q0 rfl rfl<|q0 rfl rfl<|q1b rfl rfl rfl rfl<|q9 (.d (.bool (decide (a19 < (p0.length : Int))))) rfl rfl<|q7 ?_
   refine qd rfl h18 (fun _ h18=>?_) (fun _ h18=>?_)
   ·refine qg<|q8<|ql<|q8<|qk [(some [],[]),(some [],[]),(some [],[]),(some [],[]),(some [],[]),(some [],[]),(some [],[]),(some [],[]),(some [],[])] (by kernel_rfl)<|q0 rfl rfl<|q0 rfl rfl ?_
    obtain ⟨v27,h28,h18⟩:=bindE h18
    refine q10 (enc:=qb) h28 rfl rfl rfl rfl rfl rfl<|q9 (.d (.agg [.int .i64 v27.X0,.int .i64 v27.Y0,.int .i64 v27.X1,.int .i64 v27.Y1])) rfl rfl<|q0 rfl rfl<|q0 rfl rfl ?_
    obtain ⟨v29,h30,h18⟩:=bindE h18
    refine q10 (enc:=qb) h30 rfl rfl rfl rfl rfl rfl<|q9 (.d (.agg [.int .i64 v29.X0,.int .i64 v29.Y0,.int .i64 v29.X1,.int .i64 v29.Y1])) rfl rfl<|q9 (.d (.bool (!((v27.X0 == v29.X0) && ((v27.Y0 == v29.Y0) && ((v27.X1 == v29.X1) && ((v27.Y1 == v29.Y1) && true))))))) rfl rfl<|q7 ?_
    refine qd rfl h18 (fun _ h18=>?_) (fun _ h18=>?_)
    ·refine q8<|q6<|qa rfl rfl<|q7<|qm ?_
     refine ⟨_,(Option.some.inj h18).symm,fun hm=>?_⟩
     subst hm
     obtain rfl:=someE h0
     exact finD (.inr rfl) (v:=.d (.bool false)) rfl rfl (.refl _)
    ·refine qg<|qf<|qv<|q6<|q0 rfl rfl<|q9 (.d (.int .i64 (w64 (a19 + 1)))) rfl rfl<|qa rfl rfl<|q7<|qf ?_
     exact ⟨_,(Option.some.inj h18).symm,wkE [] [] [] rfl ⟨⟨_,rfl,.d (.refl _)⟩,⟨_,rfl,.d (.refl _)⟩,⟨_,rfl,.d (.refl _)⟩,trivial⟩ trivial⟩
   ·refine qp ?_
    refine ⟨_,(Option.some.inj h18).symm,fun hm=>?_⟩
    subst hm
    exact ⟨_,rfl,wkE [] [] [] rfl trivial trivial⟩
  ·intro b22 hb
   subst hb
   refine q8<|q6<|qa rfl rfl<|q7<|qm ?_
   obtain rfl:=someE h0
   exact finD (.inr rfl) (v:=.d (.bool true)) rfl rfl (.refl _)
theorem q9n (p0 : List api_Rect) (r : Int) (h0 : q76 p0 = some r) : Pure Try.prog tab 34 [.sl 4 (p0.map qb)] (.int .i64 r):=by
 unfold q76 at h0
 refine qu Try.func34 rfl (by kernel_rfl) (by kernel_rfl) rfl<|q8<|q6<|qa rfl rfl<|q7<|q8<|q8<|q6<|q0 rfl rfl<|q1b rfl rfl rfl rfl<|q9 (.d (.bool (decide ((p0.length : Int) > 400)))) rfl rfl<|q7 ?_
 refine qd rfl h0 (fun _ h0=>?_) (fun _ h0=>?_)
 ·refine q8<|q6<|qa rfl rfl<|q7<|qm ?_
  obtain rfl:=someE h0
  exact finD (.inr rfl) (v:=.d (.int .i64 4)) rfl rfl (.refl _)
 ·refine qg<|q8<|q8<|q6<|qa rfl rfl<|q7 ?_
  obtain ⟨m20,h21,h0⟩:=bindE h0
  refine qn (fun b22=>.inl b22 = m20) (fun (b22 : Unit)=>⟨[(0,.d (.sl 4 (p0.map qb)))],[],0⟩) (by simp) ?_ ?_
  ·refine qo (q6h p0) (fun (a19 : Int)=>⟨[(0,.d (.sl 4 (p0.map qb))),(3,.d (.int .i64 a19))],[],0⟩) 0 m20 h21 (wkE [] [] [] rfl ⟨⟨_,rfl,.d (.refl _)⟩,⟨_,rfl,.d (.refl _)⟩,trivial⟩ trivial) ?_
   intro a19 y17 h18
   unfold q6h at h18
   refine q8<|q8<|q6<|q0 rfl rfl<|q0 rfl rfl<|q1b rfl rfl rfl rfl<|q9 (.d (.bool (decide (a19 < (p0.length : Int))))) rfl rfl<|q7 ?_
   refine qd rfl h18 (fun _ h18=>?_) (fun _ h18=>?_)
   ·refine qg<|q8<|ql<|q8<|q6<|q0 rfl rfl<|q0 rfl rfl ?_
    obtain ⟨v27,h28,h18⟩:=bindE h18
    refine q10 (enc:=qb) h28 rfl rfl rfl rfl rfl rfl<|q9 (.d (.agg [.int .i64 v27.X0,.int .i64 v27.Y0,.int .i64 v27.X1,.int .i64 v27.Y1])) rfl rfl ?_
    obtain ⟨r29,h30,h18⟩:=bindE h18
    refine q11 [.d (.agg [.int .i64 v27.X0,.int .i64 v27.Y0,.int .i64 v27.X1,.int .i64 v27.Y1])] (qlt v27 r29 h30) rfl rfl rfl (.inl rfl)<|q9 (.d (.bool (!r29))) rfl rfl<|q7 ?_
    refine qd rfl h18 (fun _ h18=>?_) (fun _ h18=>?_)
    ·refine q8<|q6<|qa rfl rfl<|q7<|qm ?_
     refine ⟨_,(Option.some.inj h18).symm,fun hm=>?_⟩
     subst hm
     obtain rfl:=someE h0
     exact finD (.inr rfl) (v:=.d (.int .i64 8)) rfl rfl (.refl _)
    ·refine qg<|qf<|qv<|q6<|q0 rfl rfl<|q9 (.d (.int .i64 (w64 (a19 + 1)))) rfl rfl<|qa rfl rfl<|q7<|qf ?_
     exact ⟨_,(Option.some.inj h18).symm,wkE [] [] [] rfl ⟨⟨_,rfl,.d (.refl _)⟩,⟨_,rfl,.d (.refl _)⟩,trivial⟩ trivial⟩
   ·refine qp ?_
    refine ⟨_,(Option.some.inj h18).symm,fun hm=>?_⟩
    subst hm
    exact ⟨_,rfl,wkE [] [] [] rfl ⟨⟨_,rfl,.d (.refl _)⟩,trivial⟩ trivial⟩
  ·intro b22 hb
   subst hb
   refine q8<|q8<|q6<|q0 rfl rfl ?_
   obtain ⟨r31,h32,h0⟩:=bindE h0
   refine q11 [.d (.int .i64 2),.d (.sl 4 (p0.map qb)),.d (.nilsl)] (q9w (.cons (.refl _) (.cons (.refl _) (.cons (.nil _) .nil))) (q8x 2 p0 [] r31 h32)) rfl rfl rfl (.inl rfl)<|q0 rfl rfl ?_
   obtain ⟨r33,h34,h0⟩:=bindE h0
   refine q11 [.d (.sl 4 (r31.map qb)),.d (.sl 4 (p0.map qb))] (qbk r31 p0 r33 h34) rfl rfl rfl (.inl rfl)<|q9 (.d (.bool (!r33))) rfl rfl<|q7 ?_
   refine qd rfl h0 (fun _ h0=>?_) (fun _ h0=>?_)
   ·refine q8<|q6<|qa rfl rfl<|q7<|qm ?_
    obtain rfl:=someE h0
    exact finD (.inr rfl) (v:=.d (.int .i64 8)) rfl rfl (.refl _)
   ·refine qg<|q8<|q6<|qa rfl rfl<|q7<|qm ?_
    obtain rfl:=someE h0
    exact finD (.inr rfl) (v:=.d (.int .i64 0)) rfl rfl (.refl _)
theorem qf3 (p0 : List api_Rect) (p1 : Int) (p2 : Int) (r : List api_Box) (h0 : q9b p0 p1 p2 = some r) : Pure Try.prog tab 35 [.sl 4 (p0.map qb),.int .i64 p1,.int .i64 p2] (.sl 6 (r.map qi)):=by
 unfold q9b at h0
 refine qu Try.func35 rfl (by kernel_rfl) (by kernel_rfl) rfl<|q8<|q6<|qa rfl rfl<|q7<|q8<|q6<|qa rfl rfl<|q7<|q8<|q8<|q6<|qa rfl rfl<|q7 ?_
 obtain ⟨m44,h45,h0⟩:=bindE h0
 refine qn (fun b46=>b46 = m44) (fun (b46 : List api_Box)=>⟨[(7,.hs 0 6 0 b46.length)],[(0,.dat 6 (b46.map qi))],1⟩) (by simp) ?_ ?_
 ·refine qo (q71 p0 p1 p2) (fun (a43 : Int × List api_Box)=>⟨[(0,.d (.sl 4 (p0.map qb))),(1,.d (.int .i64 p1)),(2,.d (.int .i64 p2)),(7,.hs 0 6 0 a43.2.length),(8,.d (.int .i64 a43.1))],[(0,.dat 6 (a43.2.map qi))],1⟩) (0,[]) m44 h45 (wkE [] [] [0] rfl ⟨⟨_,rfl,.d (.refl _)⟩,⟨_,rfl,.d (.refl _)⟩,⟨_,rfl,.d (.refl _)⟩,⟨_,rfl,.nil (by decide) (ltd rfl)⟩,⟨_,rfl,.d (.refl _)⟩,trivial⟩ ⟨⟨ltd rfl,.inl ⟨by decide,_,by decide,rfl⟩⟩,trivial⟩) ?_
  intro a43 y41 h42
  unfold q71 at h42
  refine q8<|q8<|q6<|q0 rfl rfl<|q0 rfl rfl<|q1b rfl rfl rfl rfl<|q9 (.d (.bool (decide (a43.1 < (p0.length : Int))))) rfl rfl<|q7 ?_
  refine qd rfl h42 (fun _ h42=>?_) (fun _ h42=>?_)
  ·refine qg<|q8<|ql<|qk [(some [],[]),(some [0,1],[0,2]),(some [],[1]),(some [],[]),(some [],[]),(some [],[]),(some [],[]),(some [],[]),(some [],[]),(some [],[]),(some [],[]),(some [],[]),(some [],[]),(some [],[]),(some [],[]),(some [],[]),(some [],[]),(some [],[]),(some [],[]),(some [],[]),(some [],[]),(some [],[]),(some [],[]),(some [],[]),(some [],[]),(some [],[]),(some [],[]),(some [],[]),(some [],[])] (by kernel_rfl)<|q0 rfl rfl<|q0 rfl rfl<|q0 rfl rfl ?_
   obtain ⟨v57,h58,h42⟩:=bindE h42
   refine q10 (enc:=qb) h58 rfl rfl rfl rfl rfl rfl<|q9 (.dref [.int .i64 v57.X0,.int .i64 v57.Y0,.int .i64 v57.X1,.int .i64 v57.Y1] 0) rfl rfl<|q9 (.d (.int .i64 v57.X0)) rfl rfl<|q0 rfl rfl<|q0 rfl rfl ?_
   obtain ⟨v59,h60,h42⟩:=bindE h42
   refine q10 (enc:=qb) h60 rfl rfl rfl rfl rfl rfl<|q9 (.dref [.int .i64 v59.X0,.int .i64 v59.Y0,.int .i64 v59.X1,.int .i64 v59.Y1] 1) rfl rfl<|q9 (.d (.int .i64 v59.Y0)) rfl rfl<|q0 rfl rfl<|q9 (.d (.agg [.int .i64 v57.X0,.int .i64 v59.Y0,.int .i64 p1])) rfl rfl<|q0 rfl rfl<|q0 rfl rfl ?_
   obtain ⟨v61,h62,h42⟩:=bindE h42
   refine q10 (enc:=qb) h62 rfl rfl rfl rfl rfl rfl<|q9 (.dref [.int .i64 v61.X0,.int .i64 v61.Y0,.int .i64 v61.X1,.int .i64 v61.Y1] 2) rfl rfl<|q9 (.d (.int .i64 v61.X1)) rfl rfl<|q0 rfl rfl<|q0 rfl rfl ?_
   obtain ⟨v63,h64,h42⟩:=bindE h42
   refine q10 (enc:=qb) h64 rfl rfl rfl rfl rfl rfl<|q9 (.dref [.int .i64 v63.X0,.int .i64 v63.Y0,.int .i64 v63.X1,.int .i64 v63.Y1] 3) rfl rfl<|q9 (.d (.int .i64 v63.Y1)) rfl rfl<|q0 rfl rfl<|q9 (.d (.agg [.int .i64 v61.X1,.int .i64 v63.Y1,.int .i64 p2])) rfl rfl<|q9 (.d (.agg [.int .i64 v57.X0,.int .i64 v59.Y0,.int .i64 p1,.int .i64 v61.X1,.int .i64 v63.Y1,.int .i64 p2])) rfl rfl<|q3m (.hs 1 6 0 [({Lo:=({X:=v57.X0,Y:=v59.Y0,Z:=p1} : q15),Hi:=({X:=v61.X1,Y:=v63.Y1,Z:=p2} : q15)} : api_Box)].length) (.dat 6 ([({Lo:=({X:=v57.X0,Y:=v59.Y0,Z:=p1} : q15),Hi:=({X:=v61.X1,Y:=v63.Y1,Z:=p2} : q15)} : api_Box)].map qi)) rfl rfl ?_
   obtain ⟨z65,h66,h42⟩:=bindE h42
   refine q5o (xs:=a43.2) (ys:=[({Lo:=({X:=v57.X0,Y:=v59.Y0,Z:=p1} : q15),Hi:=({X:=v61.X1,Y:=v63.Y1,Z:=p2} : q15)} : api_Box)]) (enc:=qi) (.hs 1 6 0 [({Lo:=({X:=v57.X0,Y:=v59.Y0,Z:=p1} : q15),Hi:=({X:=v61.X1,Y:=v63.Y1,Z:=p2} : q15)} : api_Box)].length) h66 rfl rfl rfl rfl rfl rfl rfl (q4b rfl rfl) rfl rfl rfl rfl<|qa rfl rfl<|q7<|qf<|qv<|q6<|q0 rfl rfl<|q9 (.d (.int .i64 (w64 (a43.1 + 1)))) rfl rfl<|qa rfl rfl<|q7<|qf ?_
   exact ⟨_,(Option.some.inj h42).symm,wkE [(0,2)] [] [] rfl ⟨⟨_,rfl,.d (.refl _)⟩,⟨_,rfl,.d (.refl _)⟩,⟨_,rfl,.d (.refl _)⟩,⟨_,rfl,.hs rfl (by decide) (ltd rfl)⟩,⟨_,rfl,.d (.refl _)⟩,trivial⟩ ⟨⟨ltd rfl,.inr ⟨by decide,_,rfl,.dat _ _⟩⟩,trivial⟩⟩
  ·refine qp ?_
   refine ⟨_,(Option.some.inj h42).symm,fun hm=>?_⟩
   subst hm
   exact ⟨_,rfl,wkE [(0,0)] [] [] rfl ⟨⟨_,rfl,.hs rfl (by decide) (ltd rfl)⟩,trivial⟩ ⟨⟨ltd rfl,.inr ⟨by decide,_,rfl,.dat _ _⟩⟩,trivial⟩⟩
 ·intro b46 hb
  subst hb
  refine q8<|q6<|q0 rfl rfl<|qa rfl rfl<|q7<|qm ?_
  obtain rfl:=someE h0
  exact finD (.inr rfl) (v:=.hs 0 6 0 b46.length) rfl (q8v rfl rfl) (.refl _)
theorem qlw (p0 : List api_Rect) (p1 : Int) (p2 : Int) (r : List api_Box × Int) (h0 : qaj p0 p1 p2 = some r) : Pure Try.prog tab 14 [.sl 4 (p0.map qb),.int .i64 p1,.int .i64 p2] (.tup [.sl 6 (r.1.map qi),.int .i64 r.2]):=by
 unfold qaj at h0
 refine qu Try.func14 rfl (by kernel_rfl) (by kernel_rfl) rfl<|q8<|q6<|qa rfl rfl<|qa rfl rfl<|q7<|q8<|q8<|q6<|q0 rfl rfl ?_
 obtain ⟨r1,h2,h0⟩:=bindE h0
 refine q11 [.d (.sl 4 (p0.map qb))] (q9n p0 r1 h2) rfl rfl rfl (.inl rfl)<|q9 (.d (.bool (r1 != 0))) rfl rfl<|q7 ?_
 refine qd rfl h0 (fun _ h0=>?_) (fun _ h0=>?_)
 ·refine q8<|q6<|q0 rfl rfl ?_
  obtain ⟨r5,h6,h0⟩:=bindE h0
  refine q11 [.d (.sl 4 (p0.map qb))] (q9n p0 r5 h6) rfl rfl rfl (.inl rfl)<|qa rfl rfl<|qa rfl rfl<|q7<|qm ?_
  obtain rfl:=someE h0
  exact finD (.inr rfl) (v:=.d (.tup [.nilsl,.int .i64 r5])) rfl rfl (q55 (.cons (.nil _) (.cons (.refl _) .nil)))
 ·refine qg<|q8<|q8<|q6<|q0 rfl rfl<|q9 (.d (.bool (decide (p1 < (-1000000))))) rfl rfl ?_
  obtain ⟨c7,h8,h0⟩:=bindE h0
  refine qt 4 (fun A st=>∃ (j9 j10 j11 : V),st = A [(18,.d (.bool c7)),(17,j11),(16,j10),(15,j9)]) ?_ ?_
  ·refine qz rfl rfl h8 (fun h8=>?_) (fun h8=>?_)
   ·refine qc rfl<|qc rfl<|q9 (.d (.bool true)) rfl rfl<|q7 ?_
    obtain rfl:=someE h8
    exact ⟨_,_,_,rfl⟩
   ·refine q0 rfl rfl<|q9 (.d (.bool (decide (p1 > 1000000)))) rfl rfl<|q9 (.d (.bool (decide (p1 > 1000000)))) rfl rfl<|q7 ?_
    obtain rfl:=someE h8
    exact ⟨_,_,_,rfl⟩
  ·rintro _ ⟨j9,j10,j11,rfl⟩
   obtain ⟨c12,h13,h0⟩:=bindE h0
   refine qt 4 (fun A st=>∃ (j14 j15 j16 : V),st = A [(22,.d (.bool c12)),(21,j16),(20,j15),(19,j14)]) ?_ ?_
   ·refine qz rfl rfl h13 (fun h13=>?_) (fun h13=>?_)
    ·refine qc rfl<|qc rfl<|q9 (.d (.bool true)) rfl rfl<|q7 ?_
     obtain rfl:=someE h13
     exact ⟨_,_,_,rfl⟩
    ·refine q0 rfl rfl<|q9 (.d (.bool (decide (p2 < (-1000000))))) rfl rfl<|q9 (.d (.bool (decide (p2 < (-1000000))))) rfl rfl<|q7 ?_
     obtain rfl:=someE h13
     exact ⟨_,_,_,rfl⟩
   ·rintro _ ⟨j14,j15,j16,rfl⟩
    obtain ⟨c17,h18,h0⟩:=bindE h0
    refine qt 4 (fun A st=>∃ (j19 j20 j21 : V),st = A [(26,.d (.bool c17)),(25,j21),(24,j20),(23,j19)]) ?_ ?_
    ·refine qz rfl rfl h18 (fun h18=>?_) (fun h18=>?_)
     ·refine qc rfl<|qc rfl<|q9 (.d (.bool true)) rfl rfl<|q7 ?_
      obtain rfl:=someE h18
      exact ⟨_,_,_,rfl⟩
     ·refine q0 rfl rfl<|q9 (.d (.bool (decide (p2 > 1000000)))) rfl rfl<|q9 (.d (.bool (decide (p2 > 1000000)))) rfl rfl<|q7 ?_
      obtain rfl:=someE h18
      exact ⟨_,_,_,rfl⟩
    ·rintro _ ⟨j19,j20,j21,rfl⟩
     obtain ⟨c22,h23,h0⟩:=bindE h0
     refine qt 5 (fun A st=>∃ (j24 j25 j26 j27 : V),st = A [(31,.d (.bool c22)),(30,j27),(29,j26),(28,j25),(27,j24)]) ?_ ?_
     ·refine qz rfl rfl h23 (fun h23=>?_) (fun h23=>?_)
      ·refine qc rfl<|qc rfl<|qc rfl<|q9 (.d (.bool true)) rfl rfl<|q7 ?_
       obtain rfl:=someE h23
       exact ⟨_,_,_,_,rfl⟩
      ·refine q0 rfl rfl<|q0 rfl rfl<|q9 (.d (.bool (decide (p1 ≥ p2)))) rfl rfl<|q9 (.d (.bool (decide (p1 ≥ p2)))) rfl rfl<|q7 ?_
       obtain rfl:=someE h23
       exact ⟨_,_,_,_,rfl⟩
     ·rintro _ ⟨j24,j25,j26,j27,rfl⟩
      refine q7 ?_
      refine qd rfl h0 (fun _ h0=>?_) (fun _ h0=>?_)
      ·refine q8<|q6<|qa rfl rfl<|qa rfl rfl<|q7<|qm ?_
       obtain rfl:=someE h0
       exact finD (.inr rfl) (v:=.d (.tup [.nilsl,.int .i64 2])) rfl rfl (q55 (.cons (.nil _) (.cons (.refl _) .nil)))
      ·refine qg<|q8<|q6<|q0 rfl rfl<|q0 rfl rfl<|q0 rfl rfl ?_
       obtain ⟨r28,h29,h0⟩:=bindE h0
       refine q11 [.d (.sl 4 (p0.map qb)),.d (.int .i64 p1),.d (.int .i64 p2)] (qf3 p0 p1 p2 r28 h29) rfl rfl rfl (.inl rfl)<|qa rfl rfl<|qa rfl rfl<|q7<|qm ?_
       obtain rfl:=someE h0
       exact finD (.inr rfl) (v:=.d (.tup [.sl 6 (r28.map qi),.int .i64 0])) rfl rfl (.refl _)
theorem q75 (p0 : List qs) (p1 : qs→Option Bool) (p1F : FuncId) (p1C : List DV) (p1Ok : ∀ (x0 : qs) (r : Bool),p1 x0 = some r→Pure Try.prog tab p1F ([.agg [.sl 4 (x0.Region.map qb),.int .i64 x0.Height]] ++ p1C) (.bool r)) (r : Int) (h0 : q3z p0 p1 = some r) : Pure Try.prog tab 55 [.sl 2 (p0.map qw),.fn p1F p1C] (.int .i64 r):=by
 unfold q3z at h0
 refine qu Try.func55 rfl (by kernel_rfl) (by kernel_rfl) rfl<|q8<|q6<|qa rfl rfl<|q7<|q8<|q8<|q6<|q0 rfl rfl<|q1b rfl rfl rfl rfl<|q0 rfl rfl<|q7 ?_
 obtain ⟨m20,h21,h0⟩:=bindE h0
 refine qn (fun b22=>.inl b22 = m20) (fun (b22 : Unit)=>⟨[],[],0⟩) (by simp) ?_ ?_
 ·refine qo (q1f p0 p1) (fun (a19 : Int)=>⟨[(0,.d (.sl 2 (p0.map qw))),(1,.d (.fn p1F p1C)),(7,.d (.int .i64 (p0.length : Int))),(8,.d (.int .i64 a19))],[],0⟩) 0 m20 h21 (wkE [] [] [] rfl ⟨⟨_,rfl,.d (.refl _)⟩,⟨_,rfl,.d (.refl _)⟩,⟨_,rfl,.d (.refl _)⟩,⟨_,rfl,.d (.refl _)⟩,trivial⟩ trivial) ?_
  intro a19 y17 h18
  unfold q1f at h18
  refine q8<|q6<|q9 (.d (.bool (decide (a19 < (p0.length : Int))))) rfl rfl<|q7<|q8 ?_
  refine qd rfl h18 (fun _ h18=>?_) (fun _ h18=>?_)
  ·refine qg<|q8<|ql<|q8<|q6<|q0 rfl rfl<|qa rfl rfl<|q7<|q8<|q6<|q0 rfl rfl<|q0 rfl rfl<|q0 rfl rfl ?_
   obtain ⟨v27,h28,h18⟩:=bindE h18
   refine q10 (enc:=qw) h28 rfl rfl rfl rfl rfl rfl<|q9 (.d (.agg [.sl 4 (v27.Region.map qb),.int .i64 v27.Height])) rfl rfl ?_
   obtain ⟨r29,h30,h18⟩:=bindE h18
   refine q6i [.d (.agg [.sl 4 (v27.Region.map qb),.int .i64 v27.Height])] (p1Ok v27 r29 h30) rfl rfl rfl (.inl rfl)<|q7 ?_
   refine qd rfl h18 (fun _ h18=>?_) (fun _ h18=>?_)
   ·refine q8<|q6<|q0 rfl rfl<|qa rfl rfl<|q7<|qm ?_
    refine ⟨_,(Option.some.inj h18).symm,fun hm=>?_⟩
    subst hm
    obtain rfl:=someE h0
    exact finD (.inr rfl) (v:=.d (.int .i64 a19)) rfl rfl (.refl _)
   ·refine qg<|qf<|qv<|q6<|q9 (.d (.int .i64 (w64 (a19 + 1)))) rfl rfl<|q0 rfl rfl<|q7<|qf ?_
    exact ⟨_,(Option.some.inj h18).symm,wkE [] [] [] rfl ⟨⟨_,rfl,.d (.refl _)⟩,⟨_,rfl,.d (.refl _)⟩,⟨_,rfl,.d (.refl _)⟩,⟨_,rfl,.d (.refl _)⟩,trivial⟩ trivial⟩
  ·refine qp ?_
   refine ⟨_,(Option.some.inj h18).symm,fun hm=>?_⟩
   subst hm
   exact ⟨_,rfl,wkE [] [] [] rfl trivial trivial⟩
 ·intro b22 hb
  subst hb
  refine q8<|q6<|qa rfl rfl<|q7<|qm ?_
  obtain rfl:=someE h0
  exact finD (.inr rfl) (v:=.d (.int .i64 (-1))) rfl rfl (.refl _)
theorem q6u (p0 : List qs) (p1 : qs→Option Bool) (p1F : FuncId) (p1C : List DV) (p1Ok : ∀ (x0 : qs) (r : Bool),p1 x0 = some r→Pure Try.prog tab p1F ([.agg [.sl 4 (x0.Region.map qb),.int .i64 x0.Height]] ++ p1C) (.bool r)) (r : Bool) (h0 : q2g p0 p1 = some r) : Pure Try.prog tab 36 [.sl 2 (p0.map qw),.fn p1F p1C] (.bool r):=by
 unfold q2g at h0
 refine qu Try.func36 rfl (by kernel_rfl) (by kernel_rfl) rfl<|q8<|q6<|qa rfl rfl<|q7<|q8<|q6<|q0 rfl rfl<|q0 rfl rfl ?_
 obtain ⟨r1,h2,h0⟩:=bindE h0
 refine q11 [.d (.sl 2 (p0.map qw)),.d (.fn p1F p1C)] (q75 p0 p1 p1F p1C p1Ok r1 h2) rfl rfl rfl (.inl rfl)<|q9 (.d (.bool (decide (r1 ≥ 0)))) rfl rfl<|qa rfl rfl<|q7<|qm ?_
 obtain rfl:=someE h0
 exact finD (.inr rfl) (v:=.d (.bool (decide (r1 ≥ 0)))) rfl rfl (.refl _)
theorem qh2 (p0 : qs) (r : Bool) (h0 : q53 p0 = some r) : Pure Try.prog tab 37 [.agg [.sl 4 (p0.Region.map qb),.int .i64 p0.Height]] (.bool r):=by
 unfold q53 at h0
 refine qu Try.func37 rfl (by kernel_rfl) (by kernel_rfl) rfl<|q8<|q6<|q3m (.ref 0 2 0 0) (.dat 2 [[.sl 4 (p0.Region.map qb),.int .i64 p0.Height]]) rfl rfl<|qa rfl rfl<|q7<|q8<|q6<|q9 (.ref 0 2 0 1) rfl rfl<|q9 (.d (.int .i64 p0.Height)) rfl rfl<|q9 (.d (.bool (decide (p0.Height < 1)))) rfl rfl ?_
 obtain ⟨c1,h2,h0⟩:=bindE h0
 refine qt 5 (fun A st=>∃ (j3 j4 j5 j6 : V),st = A [(10,.d (.bool c1)),(9,j6),(8,j5),(7,j4),(6,j3)]) ?_ ?_
 ·refine qz rfl rfl h2 (fun h2=>?_) (fun h2=>?_)
  ·refine qc rfl<|qc rfl<|qc rfl<|q9 (.d (.bool true)) rfl rfl<|q7 ?_
   obtain rfl:=someE h2
   exact ⟨_,_,_,_,rfl⟩
  ·refine q9 (.ref 0 2 0 1) rfl rfl<|q9 (.d (.int .i64 p0.Height)) rfl rfl<|q9 (.d (.bool (decide (p0.Height > 1000000)))) rfl rfl<|q9 (.d (.bool (decide (p0.Height > 1000000)))) rfl rfl<|q7 ?_
   obtain rfl:=someE h2
   exact ⟨_,_,_,_,rfl⟩
 ·rintro _ ⟨j3,j4,j5,j6,rfl⟩
  refine qa rfl rfl<|q7<|qm ?_
  obtain rfl:=someE h0
  exact finD (.inr rfl) (v:=.d (.bool c1)) rfl rfl (.refl _)
theorem qcd (p0 : List api_Box) (p1 : List api_Rect) (p2 : Int) (p3 : Int) (p4 : Int) (p5 : Int) (p6 : List api_Rect) (r : List api_Rect × Int × Int × List api_Box) (h0 : q5t  p0 p1 p2 p3 p4 p5 p6 = some r) : EvCall Try.prog tab 32 [.ref 0 4 0 0,.d (.int .i64 p4),.d (.int .i64 p5),.d (.sl 4 (p6.map qb))] [(0,.cel 4 [[.hs 1 6 0 p0.length,.d (.sl 4 (p1.map qb)),.d (.int .i64 p2),.d (.int .i64 p3)]]),(1,.dat 6 (p0.map qi))] 2 (.d (.tup [])) [(0,.cel 4 [[.hs 2 6 0 r.2.2.2.length,.d (.sl 4 (r.1.map qb)),.d (.int .i64 r.2.1),.d (.int .i64 r.2.2.1)]]),(2,.dat 6 (r.2.2.2.map qi))] 3:=by
 unfold q5t at h0
 refine q18 Try.func32 rfl (by kernel_rfl) (by kernel_rfl) rfl<|q8<|q8<|q6<|q0 rfl rfl<|q1b rfl rfl rfl rfl<|q9 (.d (.bool (decide ((p6.length : Int) > 0)))) rfl rfl ?_
 obtain ⟨c101,h102,h0⟩:=bindE h0
 refine qt 8 (fun A st=>∃ (j103 j104 j105 j106 j107 j108 j109 : V),st = A [(21,.d (.bool c101)),(20,j109),(19,j108),(18,j107),(17,j106),(16,j105),(15,j104),(14,j103)]) ?_ ?_
 ·refine qz rfl rfl h102 (fun h102=>?_) (fun h102=>?_)
  ·refine q0 rfl rfl<|q9 (.ref 0 4 0 0) rfl rfl<|q9 (.ref 0 4 0 3) rfl rfl<|q9 (.d (.int .i64 p3)) rfl rfl<|q0 rfl rfl<|q9 (.d (.bool (p3 == p4))) rfl rfl<|q9 (.d (.bool (p3 == p4))) rfl rfl<|q7 ?_
   obtain rfl:=someE h102
   exact ⟨_,_,_,_,_,_,_,rfl⟩
  ·refine qc rfl<|qc rfl<|qc rfl<|qc rfl<|qc rfl<|qc rfl<|q9 (.d (.bool false)) rfl rfl<|q7 ?_
   obtain rfl:=someE h102
   exact ⟨_,_,_,_,_,_,_,rfl⟩
 ·rintro _ ⟨j103,j104,j105,j106,j107,j108,j109,rfl⟩
  obtain ⟨c112,h113,h0⟩:=bindE h0
  refine qt 8 (fun A st=>∃ (j114 j115 j116 j117 j118 j119 j120 : V),st = A [(29,.d (.bool c112)),(28,j120),(27,j119),(26,j118),(25,j117),(24,j116),(23,j115),(22,j114)]) ?_ ?_
  ·refine qz rfl rfl h113 (fun h113=>?_) (fun h113=>?_)
   ·refine q0 rfl rfl<|q9 (.ref 0 4 0 0) rfl rfl<|q9 (.ref 0 4 0 1) rfl rfl<|q9 (.d (.sl 4 (p1.map qb))) rfl rfl<|q0 rfl rfl ?_
    obtain ⟨r121,h122,h113⟩:=bindE h113
    refine q11 [.d (.sl 4 (p1.map qb)),.d (.sl 4 (p6.map qb))] (q4x p1 p6 r121 h122) rfl rfl rfl (.inl rfl)<|q9 (.d (.bool r121)) rfl rfl<|q7 ?_
    obtain rfl:=someE h113
    exact ⟨_,_,_,_,_,_,_,rfl⟩
   ·refine qc rfl<|qc rfl<|qc rfl<|qc rfl<|qc rfl<|qc rfl<|q9 (.d (.bool false)) rfl rfl<|q7 ?_
    obtain rfl:=someE h113
    exact ⟨_,_,_,_,_,_,_,rfl⟩
  ·rintro _ ⟨j114,j115,j116,j117,j118,j119,j120,rfl⟩
   refine q7 ?_
   refine qd rfl h0 (fun _ h0=>?_) (fun _ h0=>?_)
   ·refine q8<|q8<|q6<|q0 rfl rfl<|q9 (.ref 0 4 0 0) rfl rfl<|q9 (.ref 0 4 0 2) rfl rfl<|q9 (.d (.int .i64 p2)) rfl rfl<|qa rfl rfl<|q7 ?_
    obtain ⟨m143,h144,h0⟩:=bindE h0
    refine qn (fun b145=>b145 = m143) (fun (b145 : List api_Box)=>⟨[(0,.ref 0 4 0 0),(2,.d (.int .i64 p5))],[(0,.cel 4 [[.hs 1 6 0 b145.length,.d (.sl 4 (p1.map qb)),.d (.int .i64 p2),.d (.int .i64 p3)]]),(1,.dat 6 (b145.map qi))],2⟩) (by simp) ?_ ?_
    ·refine qo (q4p p5) (fun (a142 : Int × List api_Box)=>⟨[(0,.ref 0 4 0 0),(2,.d (.int .i64 p5)),(8,.d (.int .i64 a142.1))],[(0,.cel 4 [[.hs 1 6 0 a142.2.length,.d (.sl 4 (p1.map qb)),.d (.int .i64 p2),.d (.int .i64 p3)]]),(1,.dat 6 (a142.2.map qi))],2⟩) (p2,p0) m143 h144 (wkE [] [] [] rfl ⟨⟨_,rfl,.ref rfl (by decide) (ltd rfl)⟩,⟨_,rfl,.d (.refl _)⟩,⟨_,rfl,.d (.refl _)⟩,trivial⟩ ⟨⟨ltd rfl,.inr ⟨by decide,_,rfl,qq (.cons (.hs rfl (by decide) (ltd rfl)) rfl (.cons (.d (.refl _)) rfl (.cons (.d (.refl _)) rfl (.cons (.d (.refl _)) rfl .nil))))⟩⟩,⟨ltd rfl,.inr ⟨by decide,_,rfl,.dat _ _⟩⟩,trivial⟩) ?_
     intro a142 y140 h141
     unfold q4p at h141
     refine q8<|q8<|q6<|q0 rfl rfl<|q0 rfl rfl<|q9 (.ref 0 4 0 0) rfl rfl<|q9 (.ref 0 4 0 0) rfl rfl<|q9 (.hs 1 6 0 a142.2.length) rfl rfl<|q9 (.d (.int .i64 (a142.2.length : Int))) rfl rfl<|q9 (.d (.bool (decide (a142.1 < (a142.2.length : Int))))) rfl rfl<|q7 ?_
     refine qd rfl h141 (fun _ h141=>?_) (fun _ h141=>?_)
     ·refine qg<|q8<|ql<|q6<|q0 rfl rfl<|q9 (.ref 0 4 0 0) rfl rfl<|q9 (.ref 0 4 0 0) rfl rfl<|q9 (.hs 1 6 0 a142.2.length) rfl rfl<|q0 rfl rfl<|q0 rfl rfl ?_
      obtain ⟨v148,h149,h141⟩:=bindE h141
      refine qj h149 rfl rfl rfl rfl rfl rfl rfl<|q9 (.ref 1 6 a142.1.toNat 3) rfl rfl<|q9 (.ref 1 6 a142.1.toNat 5) rfl rfl<|q19 (ds:=[.int .i64 p5]) ({Lo:=v148.Lo,Hi:=({X:=v148.Hi.X,Y:=v148.Hi.Y,Z:=p5} : q15)} : api_Box) h149 rfl rfl rfl rfl rfl rfl rfl rfl (leb rfl) rfl<|q7<|qf<|qv<|q6<|q0 rfl rfl<|q9 (.d (.int .i64 (w64 (a142.1 + 1)))) rfl rfl<|qa rfl rfl<|q7<|qf ?_
      exact ⟨_,(Option.some.inj h141).symm,wkE [] [] [] rfl ⟨⟨_,rfl,.ref rfl (by decide) (ltd rfl)⟩,⟨_,rfl,.d (.refl _)⟩,⟨_,rfl,.d (.refl _)⟩,trivial⟩ ⟨⟨ltd rfl,.inr ⟨by decide,_,rfl,qq (.cons (q16 (by simp) rfl (by decide) (ltd rfl)) rfl (.cons (.d (.refl _)) rfl (.cons (.d (.refl _)) rfl (.cons (.d (.refl _)) rfl .nil))))⟩⟩,⟨ltd rfl,.inr ⟨by decide,_,rfl,.dat _ _⟩⟩,trivial⟩⟩
     ·refine qp ?_
      refine ⟨_,(Option.some.inj h141).symm,fun hm=>?_⟩
      subst hm
      exact ⟨_,rfl,wkE [] [] [] rfl ⟨⟨_,rfl,.ref rfl (by decide) (ltd rfl)⟩,⟨_,rfl,.d (.refl _)⟩,trivial⟩ ⟨⟨ltd rfl,.inr ⟨by decide,_,rfl,qq (.cons (.hs rfl (by decide) (ltd rfl)) rfl (.cons (.d (.refl _)) rfl (.cons (.d (.refl _)) rfl (.cons (.d (.refl _)) rfl .nil))))⟩⟩,⟨ltd rfl,.inr ⟨by decide,_,rfl,.dat _ _⟩⟩,trivial⟩⟩
    ·intro b145 hb
     subst hb
     refine q8<|q6<|q0 rfl rfl<|q0 rfl rfl<|q9 (.ref 0 4 0 0) rfl rfl<|q9 (.ref 0 4 0 3) rfl rfl<|q1z 0 (.cel 4 [[.hs 1 6 0 b145.length,.d (.sl 4 (p1.map qb)),.d (.int .i64 p2),.d (.int .i64 p5)]]) rfl rfl<|q7<|qm ?_
     obtain rfl:=someE h0
     exact ⟨.inr rfl,_,rfl,wkE [(2,1)] [] [] rfl ⟨⟨_,rfl,.d (.refl _)⟩,trivial⟩ ⟨⟨ltd rfl,.inr ⟨by decide,_,rfl,qq (.cons (.hs rfl (by decide) (ltd rfl)) rfl (.cons (.d (.refl _)) rfl (.cons (.d (.refl _)) rfl (.cons (.d (.refl _)) rfl .nil))))⟩⟩,⟨ltd rfl,.inr ⟨by decide,_,rfl,.dat _ _⟩⟩,trivial⟩⟩
   ·refine qg<|q8<|q6<|q0 rfl rfl<|q0 rfl rfl<|q0 rfl rfl<|q0 rfl rfl<|q9 (.ref 0 4 0 0) rfl rfl<|q9 (.ref 0 4 0 0) rfl rfl<|q9 (.hs 1 6 0 p0.length) rfl rfl<|q9 (.d (.int .i64 (p0.length : Int))) rfl rfl<|q0 rfl rfl<|q0 rfl rfl<|q9 (.ref 0 4 0 0) rfl rfl<|q9 (.ref 0 4 0 2) rfl rfl<|q1z 0 (.cel 4 [[.hs 1 6 0 p0.length,.d (.sl 4 (p1.map qb)),.d (.int .i64 (p0.length : Int)),.d (.int .i64 p3)]]) rfl rfl<|q9 (.ref 0 4 0 0) rfl rfl<|q9 (.ref 0 4 0 1) rfl rfl<|q1z 0 (.cel 4 [[.hs 1 6 0 p0.length,.d (.sl 4 (p6.map qb)),.d (.int .i64 (p0.length : Int)),.d (.int .i64 p3)]]) rfl rfl<|q9 (.ref 0 4 0 0) rfl rfl<|q9 (.ref 0 4 0 3) rfl rfl<|q1z 0 (.cel 4 [[.hs 1 6 0 p0.length,.d (.sl 4 (p6.map qb)),.d (.int .i64 (p0.length : Int)),.d (.int .i64 p5)]]) rfl rfl<|q7<|q8<|q6<|q0 rfl rfl<|q1b rfl rfl rfl rfl<|q0 rfl rfl<|q7 ?_
    obtain ⟨m169,h170,h0⟩:=bindE h0
    refine ql<|qo (q4q p6 p4 p5 p0) (fun (a168 : Int × List api_Box)=>⟨[(0,.ref 0 4 0 0),(1,.d (.int .i64 p4)),(2,.d (.int .i64 p5)),(72,.d (.sl 4 (p6.map qb))),(73,.d (.int .i64 (p6.length : Int))),(74,.d (.int .i64 a168.1))],[(0,.cel 4 [[.hs 2 6 0 a168.2.length,.d (.sl 4 (p6.map qb)),.d (.int .i64 (p0.length : Int)),.d (.int .i64 p5)]]),(2,.dat 6 (a168.2.map qi))],3⟩) (0,p0) m169 h170 (wkE [(2,1)] [] [] rfl ⟨⟨_,rfl,.ref rfl (by decide) (ltd rfl)⟩,⟨_,rfl,.d (.refl _)⟩,⟨_,rfl,.d (.refl _)⟩,⟨_,rfl,.d (.refl _)⟩,⟨_,rfl,.d (.refl _)⟩,⟨_,rfl,.d (.refl _)⟩,trivial⟩ ⟨⟨ltd rfl,.inr ⟨by decide,_,rfl,qq (.cons (.hs rfl (by decide) (ltd rfl)) rfl (.cons (.d (.refl _)) rfl (.cons (.d (.refl _)) rfl (.cons (.d (.refl _)) rfl .nil))))⟩⟩,⟨ltd rfl,.inr ⟨by decide,_,rfl,.dat _ _⟩⟩,trivial⟩) ?_
    intro a168 y166 h167
    unfold q4q at h167
    refine q8<|q6<|q9 (.d (.bool (decide (a168.1 < (p6.length : Int))))) rfl rfl<|q7<|q8 ?_
    refine qd rfl h167 (fun _ h167=>?_) (fun _ h167=>?_)
    ·refine qg<|q8<|ql<|q8<|q6 ?_
     obtain ⟨v176,h177,h167⟩:=bindE h167
     refine q10 (enc:=qb) h177 rfl rfl rfl rfl rfl rfl<|q9 (.d (.agg [.int .i64 v176.X0,.int .i64 v176.Y0,.int .i64 v176.X1,.int .i64 v176.Y1])) rfl rfl<|q3q rfl rfl<|q1z 3 (.dat 4 [[.int .i64 v176.X0,.int .i64 v176.Y0,.int .i64 v176.X1,.int .i64 v176.Y1]]) rfl rfl<|q7<|qk [(some [0],[0]),(some [],[]),(some [],[]),(some [2,4],[2,5]),(some [],[4]),(some [],[]),(some [],[]),(some [],[]),(some [3],[]),(some [],[]),(some [3],[]),(some [],[]),(some [],[]),(some [],[]),(some [3],[]),(some [],[]),(some [3],[]),(some [],[]),(some [0],[]),(some [],[]),(some [],[]),(some [],[]),(some [],[])] (by kernel_rfl)<|q0 rfl rfl<|q0 rfl rfl<|q9 (.ref 0 4 0 0) rfl rfl<|q9 (.ref 0 4 0 0) rfl rfl<|q9 (.hs 2 6 0 a168.2.length) rfl rfl<|q9 (.ref 3 4 0 0) rfl rfl<|q9 (.d (.int .i64 v176.X0)) rfl rfl<|q9 (.ref 3 4 0 1) rfl rfl<|q9 (.d (.int .i64 v176.Y0)) rfl rfl<|q0 rfl rfl<|q9 (.d (.agg [.int .i64 v176.X0,.int .i64 v176.Y0,.int .i64 p4])) rfl rfl<|q9 (.ref 3 4 0 2) rfl rfl<|q9 (.d (.int .i64 v176.X1)) rfl rfl<|q9 (.ref 3 4 0 3) rfl rfl<|q9 (.d (.int .i64 v176.Y1)) rfl rfl<|q0 rfl rfl<|q9 (.d (.agg [.int .i64 v176.X1,.int .i64 v176.Y1,.int .i64 p5])) rfl rfl<|q9 (.d (.agg [.int .i64 v176.X0,.int .i64 v176.Y0,.int .i64 p4,.int .i64 v176.X1,.int .i64 v176.Y1,.int .i64 p5])) rfl rfl<|q3m (.hs 4 6 0 [({Lo:=({X:=v176.X0,Y:=v176.Y0,Z:=p4} : q15),Hi:=({X:=v176.X1,Y:=v176.Y1,Z:=p5} : q15)} : api_Box)].length) (.dat 6 ([({Lo:=({X:=v176.X0,Y:=v176.Y0,Z:=p4} : q15),Hi:=({X:=v176.X1,Y:=v176.Y1,Z:=p5} : q15)} : api_Box)].map qi)) rfl rfl ?_
     obtain ⟨z178,h179,h167⟩:=bindE h167
     refine q5o (xs:=a168.2) (ys:=[({Lo:=({X:=v176.X0,Y:=v176.Y0,Z:=p4} : q15),Hi:=({X:=v176.X1,Y:=v176.Y1,Z:=p5} : q15)} : api_Box)]) (enc:=qi) (.hs 4 6 0 [({Lo:=({X:=v176.X0,Y:=v176.Y0,Z:=p4} : q15),Hi:=({X:=v176.X1,Y:=v176.Y1,Z:=p5} : q15)} : api_Box)].length) h179 rfl rfl rfl rfl rfl rfl rfl (q4b rfl rfl) rfl rfl rfl rfl<|q9 (.ref 0 4 0 0) rfl rfl<|q9 (.ref 0 4 0 0) rfl rfl<|q1z 0 (.cel 4 [[.hs 5 6 0 z178.length,.d (.sl 4 (p6.map qb)),.d (.int .i64 (p0.length : Int)),.d (.int .i64 p5)]]) rfl rfl<|q7<|qf<|qv<|q6<|q9 (.d (.int .i64 (w64 (a168.1 + 1)))) rfl rfl<|q0 rfl rfl<|q7<|qf ?_
     exact ⟨_,(Option.some.inj h167).symm,wkE [(2,5)] [] [] rfl ⟨⟨_,rfl,.ref rfl (by decide) (ltd rfl)⟩,⟨_,rfl,.d (.refl _)⟩,⟨_,rfl,.d (.refl _)⟩,⟨_,rfl,.d (.refl _)⟩,⟨_,rfl,.d (.refl _)⟩,⟨_,rfl,.d (.refl _)⟩,trivial⟩ ⟨⟨ltd rfl,.inr ⟨by decide,_,rfl,qq (.cons (.hs rfl (by decide) (ltd rfl)) rfl (.cons (.d (.refl _)) rfl (.cons (.d (.refl _)) rfl (.cons (.d (.refl _)) rfl .nil))))⟩⟩,⟨ltd rfl,.inr ⟨by decide,_,rfl,.dat _ _⟩⟩,trivial⟩⟩
    ·refine qp ?_
     refine ⟨_,(Option.some.inj h167).symm,fun hm=>?_⟩
     subst hm
     obtain rfl:=someE h0
     exact ⟨.inl rfl,_,rfl,wkE [(2,2)] [] [] rfl ⟨⟨_,rfl,.d (.refl _)⟩,trivial⟩ ⟨⟨ltd rfl,.inr ⟨by decide,_,rfl,qq (.cons (.hs rfl (by decide) (ltd rfl)) rfl (.cons (.d (.refl _)) rfl (.cons (.d (.refl _)) rfl (.cons (.d (.refl _)) rfl .nil))))⟩⟩,⟨ltd rfl,.inr ⟨by decide,_,rfl,.dat _ _⟩⟩,trivial⟩⟩
theorem qim (p0 : List qs) (p1 : Int) (r : List api_Box × Int) (h0 : q8p p0 p1 = some r) : Pure Try.prog tab 15 [.sl 2 (p0.map qw),.int .i64 p1] (.tup [.sl 6 (r.1.map qi),.int .i64 r.2]):=by
 unfold q8p at h0
 refine qu Try.func15 rfl (by kernel_rfl) (by kernel_rfl) rfl<|q8<|q6<|qa rfl rfl<|qa rfl rfl<|q7<|q8<|q8<|q6<|q0 rfl rfl<|q1b rfl rfl rfl rfl<|q9 (.d (.bool (decide ((p0.length : Int) > 100)))) rfl rfl<|q7 ?_
 refine qd rfl h0 (fun _ h0=>?_) (fun _ h0=>?_)
 ·refine q8<|q6<|qa rfl rfl<|qa rfl rfl<|q7<|qm ?_
  obtain rfl:=someE h0
  exact finD (.inr rfl) (v:=.d (.tup [.nilsl,.int .i64 4])) rfl rfl (q55 (.cons (.nil _) (.cons (.refl _) .nil)))
 ·refine qg<|q8<|q8<|q6<|q0 rfl rfl<|q1b rfl rfl rfl rfl<|q0 rfl rfl<|q7 ?_
  obtain ⟨m20,h21,h0⟩:=bindE h0
  refine qn (fun b22=>.inl b22 = m20) (fun (b22 : Unit)=>⟨[(0,.d (.sl 2 (p0.map qw))),(1,.d (.int .i64 p1))],[],0⟩) (by simp) ?_ ?_
  ·refine qo (q4n p0) (fun (a19 : Int)=>⟨[(0,.d (.sl 2 (p0.map qw))),(1,.d (.int .i64 p1)),(15,.d (.sl 2 (p0.map qw))),(16,.d (.int .i64 (p0.length : Int))),(17,.d (.int .i64 a19))],[],0⟩) 0 m20 h21 (wkE [] [] [] rfl ⟨⟨_,rfl,.d (.refl _)⟩,⟨_,rfl,.d (.refl _)⟩,⟨_,rfl,.d (.refl _)⟩,⟨_,rfl,.d (.refl _)⟩,⟨_,rfl,.d (.refl _)⟩,trivial⟩ trivial) ?_
   intro a19 y17 h18
   unfold q4n at h18
   refine q8<|q6<|q9 (.d (.bool (decide (a19 < (p0.length : Int))))) rfl rfl<|q7<|q8 ?_
   refine qd rfl h18 (fun _ h18=>?_) (fun _ h18=>?_)
   ·refine qg<|q8<|ql<|q8<|q6 ?_
    obtain ⟨v27,h28,h18⟩:=bindE h18
    refine q10 (enc:=qw) h28 rfl rfl rfl rfl rfl rfl<|q9 (.d (.agg [.sl 4 (v27.Region.map qb),.int .i64 v27.Height])) rfl rfl<|q3q rfl rfl<|q1z 0 (.dat 2 [[.sl 4 (v27.Region.map qb),.int .i64 v27.Height]]) rfl rfl<|q7<|q8<|q6<|q9 (.ref 0 2 0 0) rfl rfl<|q9 (.d (.sl 4 (v27.Region.map qb))) rfl rfl ?_
    obtain ⟨r29,h30,h18⟩:=bindE h18
    refine q11 [.d (.sl 4 (v27.Region.map qb))] (qby v27.Region r29 h30) rfl rfl rfl (.inl rfl)<|qa rfl rfl<|q7<|q8<|q6<|q0 rfl rfl<|q9 (.d (.bool (r29 != 0))) rfl rfl<|q7 ?_
    refine qd rfl h18 (fun _ h18=>?_) (fun _ h18=>?_)
    ·refine q8<|q6<|q0 rfl rfl<|qa rfl rfl<|qa rfl rfl<|q7<|qm ?_
     refine ⟨_,(Option.some.inj h18).symm,fun hm=>?_⟩
     subst hm
     obtain rfl:=someE h0
     exact finD (.inr rfl) (v:=.d (.tup [.nilsl,.int .i64 r29])) rfl rfl (q55 (.cons (.nil _) (.cons (.refl _) .nil)))
    ·refine qg<|qf<|qv<|q6<|q9 (.d (.int .i64 (w64 (a19 + 1)))) rfl rfl<|q0 rfl rfl<|q7<|qf ?_
     exact ⟨_,(Option.some.inj h18).symm,wkE [] [] [] rfl ⟨⟨_,rfl,.d (.refl _)⟩,⟨_,rfl,.d (.refl _)⟩,⟨_,rfl,.d (.refl _)⟩,⟨_,rfl,.d (.refl _)⟩,⟨_,rfl,.d (.refl _)⟩,trivial⟩ trivial⟩
   ·refine qp ?_
    refine ⟨_,(Option.some.inj h18).symm,fun hm=>?_⟩
    subst hm
    exact ⟨_,rfl,wkE [] [] [] rfl ⟨⟨_,rfl,.d (.refl _)⟩,⟨_,rfl,.d (.refl _)⟩,trivial⟩ trivial⟩
  ·intro b22 hb
   subst hb
   refine q8<|q8<|q6<|q0 rfl rfl ?_
   obtain ⟨r31,h32,h0⟩:=bindE h0
   refine q11 [.d (.int .i64 p1)] (qas p1 r31 h32) rfl rfl rfl (.inl rfl)<|q9 (.d (.bool (!r31))) rfl rfl ?_
   obtain ⟨c35,h36,h0⟩:=bindE h0
   refine qt 4 (fun A st=>∃ (j37 j38 j39 : V),st = A [(34,.d (.bool c35)),(33,j39),(32,j38),(31,j37)]) ?_ ?_
   ·refine qz rfl rfl h36 (fun h36=>?_) (fun h36=>?_)
    ·refine qc rfl<|qc rfl<|q9 (.d (.bool true)) rfl rfl<|q7 ?_
     obtain rfl:=someE h36
     exact ⟨_,_,_,rfl⟩
    ·refine q0 rfl rfl ?_
     obtain ⟨r40,h41,h36⟩:=bindE h36
     refine q11 [.d (.sl 2 (p0.map qw)),.d (.fn 37 [])] (q6u p0 (fun x0=>q53 x0) 37 [] (fun x0 r hr=>qh2 x0 r hr) r40 h41) rfl rfl rfl (.inl rfl)<|q9 (.d (.bool r40)) rfl rfl<|q7 ?_
     obtain rfl:=someE h36
     exact ⟨_,_,_,rfl⟩
   ·rintro _ ⟨j37,j38,j39,rfl⟩
    refine q7 ?_
    refine qd rfl h0 (fun _ h0=>?_) (fun _ h0=>?_)
    ·refine q8<|q6<|qa rfl rfl<|qa rfl rfl<|q7<|qm ?_
     obtain rfl:=someE h0
     exact finD (.inr rfl) (v:=.d (.tup [.nilsl,.int .i64 2])) rfl rfl (q55 (.cons (.nil _) (.cons (.refl _) .nil)))
    ·refine qg<|q8<|q6<|q3q rfl rfl<|q7<|q8<|q8<|q6<|q0 rfl rfl<|q1b rfl rfl rfl rfl<|q0 rfl rfl<|q7 ?_
     obtain ⟨m61,h62,h0⟩:=bindE h0
     refine qn (fun b63=>.inl b63 = m61) (fun (b63 : List api_Rect × Int × Int × List api_Box)=>⟨[(9,.ref 0 4 0 0)],[(0,.cel 4 [[.hs 1 6 0 b63.2.2.2.length,.d (.sl 4 (b63.1.map qb)),.d (.int .i64 b63.2.1),.d (.int .i64 b63.2.2.1)]]),(1,.dat 6 (b63.2.2.2.map qi))],2⟩) (by simp) ?_ ?_
     ·refine qo (q4e p0) (fun (a60 : Int × Int × List api_Rect × Int × Int × List api_Box)=>⟨[(1,.d (.int .i64 a60.1)),(9,.ref 0 4 0 0),(35,.d (.sl 2 (p0.map qw))),(36,.d (.int .i64 (p0.length : Int))),(37,.d (.int .i64 a60.2.1))],[(0,.cel 4 [[.hs 1 6 0 a60.2.2.2.2.2.length,.d (.sl 4 (a60.2.2.1.map qb)),.d (.int .i64 a60.2.2.2.1),.d (.int .i64 a60.2.2.2.2.1)]]),(1,.dat 6 (a60.2.2.2.2.2.map qi))],2⟩) (p1,0,[],0,0,[]) m61 h62 (wkE [(0,0)] [] [1] rfl ⟨⟨_,rfl,.d (.refl _)⟩,⟨_,rfl,.ref rfl (by decide) (ltd rfl)⟩,⟨_,rfl,.d (.refl _)⟩,⟨_,rfl,.d (.refl _)⟩,⟨_,rfl,.d (.refl _)⟩,trivial⟩ ⟨⟨ltd rfl,.inr ⟨by decide,_,rfl,q79 (.cons (.nil (by decide) (ltd rfl)) rfl (.cons (.d (.nil _)) rfl (.cons (.d (.refl _)) rfl (.cons (.d (.refl _)) rfl .nil))))⟩⟩,⟨ltd rfl,.inl ⟨by decide,_,by decide,rfl⟩⟩,trivial⟩) ?_
      intro a60 y58 h59
      unfold q4e at h59
      refine q8<|q6<|q9 (.d (.bool (decide (a60.2.1 < (p0.length : Int))))) rfl rfl<|q7<|q8 ?_
      refine qd rfl h59 (fun _ h59=>?_) (fun _ h59=>?_)
      ·refine qg<|q8<|ql<|q8<|q6 ?_
       obtain ⟨v68,h69,h59⟩:=bindE h59
       refine q10 (enc:=qw) h69 rfl rfl rfl rfl rfl rfl<|q9 (.d (.agg [.sl 4 (v68.Region.map qb),.int .i64 v68.Height])) rfl rfl<|q3q rfl rfl<|q1z 2 (.dat 2 [[.sl 4 (v68.Region.map qb),.int .i64 v68.Height]]) rfl rfl<|q7<|q8<|q8<|q6<|q0 rfl rfl<|q9 (.ref 2 2 0 1) rfl rfl<|q9 (.d (.int .i64 v68.Height)) rfl rfl<|q9 (.d (.int .i64 (w64 (a60.1 + v68.Height)))) rfl rfl<|q9 (.d (.bool (decide ((w64 (a60.1 + v68.Height)) > 1000000)))) rfl rfl<|q7 ?_
       refine qd rfl h59 (fun _ h59=>?_) (fun _ h59=>?_)
       ·refine q8<|q6<|qa rfl rfl<|qa rfl rfl<|q7<|qm ?_
        refine ⟨_,(Option.some.inj h59).symm,fun hm=>?_⟩
        subst hm
        obtain rfl:=someE h0
        exact finD (.inr rfl) (v:=.d (.tup [.nilsl,.int .i64 16])) rfl rfl (q55 (.cons (.nil _) (.cons (.refl _) .nil)))
       ·refine qg<|q8<|q6<|q0 rfl rfl<|q0 rfl rfl<|q9 (.ref 2 2 0 1) rfl rfl<|q9 (.d (.int .i64 v68.Height)) rfl rfl<|q9 (.d (.int .i64 (w64 (a60.1 + v68.Height)))) rfl rfl<|q9 (.ref 2 2 0 0) rfl rfl<|q9 (.d (.sl 4 (v68.Region.map qb))) rfl rfl ?_
        obtain ⟨e70,h71,h59⟩:=bindE h59
        refine q12 [(0,0),(1,1)] [(0,0),(1,1),(2,3),(3,2)] [.ref 0 4 0 0,.d (.int .i64 a60.1),.d (.int .i64 (w64 (a60.1 + v68.Height))),.d (.sl 4 (v68.Region.map qb))] (.d (.tup [])) [(0,.cel 4 [[.hs 3 6 0 e70.2.2.2.length,.d (.sl 4 (e70.1.map qb)),.d (.int .i64 e70.2.1),.d (.int .i64 e70.2.2.1)]]),(3,.dat 6 (e70.2.2.2.map qi))] [(0,.cel 4 [[.hs 3 6 0 e70.2.2.2.length,.d (.sl 4 (e70.1.map qb)),.d (.int .i64 e70.2.1),.d (.int .i64 e70.2.2.1)]]),(3,.dat 6 (e70.2.2.2.map qi)),(2,.dat 2 [[.sl 4 (v68.Region.map qb),.int .i64 v68.Height]])] 4 (qcd a60.2.2.2.2.2 a60.2.2.1 a60.2.2.2.1 a60.2.2.2.2.1 a60.1 (w64 (a60.1 + v68.Height)) v68.Region e70 h71) rfl rfl rfl (qx [(0,0),(1,1)] [] [] rfl ⟨⟨_,rfl,.ref rfl (by decide) (ltd rfl)⟩,⟨_,rfl,.d (.refl _)⟩,⟨_,rfl,.d (.refl _)⟩,⟨_,rfl,.d (.refl _)⟩,trivial⟩ ⟨⟨ltd rfl,.inr ⟨by decide,_,rfl,qq (.cons (.hs rfl (by decide) (ltd rfl)) rfl (.cons (.d (.refl _)) rfl (.cons (.d (.refl _)) rfl (.cons (.d (.refl _)) rfl .nil))))⟩⟩,⟨ltd rfl,.inr ⟨by decide,_,rfl,.dat _ _⟩⟩,trivial⟩) (qx [(0,0),(1,1),(2,3),(3,2)] [] [] rfl ⟨⟨_,rfl,.d (.refl _)⟩,trivial⟩ ⟨⟨ltd rfl,.inr ⟨by decide,_,rfl,qq (.cons (.hs rfl (by decide) (ltd rfl)) rfl (.cons (.d (.refl _)) rfl (.cons (.d (.refl _)) rfl (.cons (.d (.refl _)) rfl .nil))))⟩⟩,⟨ltd rfl,.inr ⟨by decide,_,rfl,.dat _ _⟩⟩,trivial⟩) rfl ⟨.inl rfl,.inl rfl,.inr ⟨rfl,rfl⟩,trivial⟩<|q7<|q6<|q0 rfl rfl<|q9 (.ref 2 2 0 1) rfl rfl<|q9 (.d (.int .i64 v68.Height)) rfl rfl<|q9 (.d (.int .i64 (w64 (a60.1 + v68.Height)))) rfl rfl<|qa rfl rfl<|q7<|qf<|qv<|q6<|q9 (.d (.int .i64 (w64 (a60.2.1 + 1)))) rfl rfl<|q0 rfl rfl<|q7<|qf ?_
        exact ⟨_,(Option.some.inj h59).symm,wkE [(0,0),(1,3)] [] [] rfl ⟨⟨_,rfl,.d (.refl _)⟩,⟨_,rfl,.ref rfl (by decide) (ltd rfl)⟩,⟨_,rfl,.d (.refl _)⟩,⟨_,rfl,.d (.refl _)⟩,⟨_,rfl,.d (.refl _)⟩,trivial⟩ ⟨⟨ltd rfl,.inr ⟨by decide,_,rfl,qq (.cons (.hs rfl (by decide) (ltd rfl)) rfl (.cons (.d (.refl _)) rfl (.cons (.d (.refl _)) rfl (.cons (.d (.refl _)) rfl .nil))))⟩⟩,⟨ltd rfl,.inr ⟨by decide,_,rfl,.dat _ _⟩⟩,trivial⟩⟩
      ·refine qp ?_
       refine ⟨_,(Option.some.inj h59).symm,fun hm=>?_⟩
       subst hm
       exact ⟨_,rfl,wkE [(0,0),(1,1)] [] [] rfl ⟨⟨_,rfl,.ref rfl (by decide) (ltd rfl)⟩,trivial⟩ ⟨⟨ltd rfl,.inr ⟨by decide,_,rfl,qq (.cons (.hs rfl (by decide) (ltd rfl)) rfl (.cons (.d (.refl _)) rfl (.cons (.d (.refl _)) rfl (.cons (.d (.refl _)) rfl .nil))))⟩⟩,⟨ltd rfl,.inr ⟨by decide,_,rfl,.dat _ _⟩⟩,trivial⟩⟩
     ·intro b63 hb
      subst hb
      refine q8<|q6 ?_
      obtain ⟨m73,h72,h0⟩:=bindE h0
      refine qd2 [.ref 0 4 0 0] (fun b74=>b74 = m73) (fun (b74 : Int × List api_Box)=>⟨[(59,.tup [.hs 0 6 0 b74.2.length,.d (.int .i64 b74.1)])],[(0,.dat 6 (b74.2.map qi))],1⟩) rfl rfl Try.func33 rfl (by kernel_rfl) (by kernel_rfl) rfl ?_ ?_
      ·refine q8<|q6<|qa rfl rfl<|qa rfl rfl<|q7<|q8<|q8<|q6<|q0 rfl rfl<|q9 (.ref 0 4 0 0) rfl rfl<|q9 (.ref 0 4 0 0) rfl rfl<|q9 (.hs 1 6 0 b63.2.2.2.length) rfl rfl<|q9 (.d (.int .i64 (b63.2.2.2.length : Int))) rfl rfl<|q9 (.d (.bool (decide ((b63.2.2.2.length : Int) > 400)))) rfl rfl<|q7 ?_
       refine qd rfl h72 (fun _ h72=>?_) (fun _ h72=>?_)
       ·refine q8<|q6<|qa rfl rfl<|qa rfl rfl<|q7<|qm ?_
        refine ⟨.inr rfl,_,rfl,?_⟩
        obtain rfl:=someE h72
        exact ⟨_,rfl,wkE [] [] [0] rfl ⟨⟨_,rfl,(qi4 (.cons (.nil (by decide) (ltd rfl)) (.cons (.d (.refl _)) .nil)))⟩,trivial⟩ ⟨⟨ltd rfl,.inl ⟨by decide,_,by decide,rfl⟩⟩,trivial⟩⟩
       ·refine qg<|q8<|q6<|q0 rfl rfl<|q9 (.ref 0 4 0 0) rfl rfl<|q9 (.ref 0 4 0 0) rfl rfl<|q9 (.hs 1 6 0 b63.2.2.2.length) rfl rfl<|qa rfl rfl<|qa rfl rfl<|q7<|qm ?_
        refine ⟨.inr rfl,_,rfl,?_⟩
        obtain rfl:=someE h72
        exact ⟨_,rfl,wkE [(0,1)] [] [] rfl ⟨⟨_,rfl,(qku (.cons (.hs rfl (by decide) (ltd rfl)) (.cons (.d (.refl _)) .nil)))⟩,trivial⟩ ⟨⟨ltd rfl,.inr ⟨by decide,_,rfl,.dat _ _⟩⟩,trivial⟩⟩
      ·intro b74 hb
       subst hb
       refine q9 (.hs 0 6 0 b74.2.length) rfl rfl<|q9 (.d (.int .i64 b74.1)) rfl rfl<|qa rfl rfl<|qa rfl rfl<|q7<|qm ?_
       obtain rfl:=someE h0
       exact finD (.inr rfl) (v:=.tup [.hs 0 6 0 b74.2.length,.d (.int .i64 b74.1)]) rfl (qhh (q97 (q8v rfl rfl) (q97 rfl rfl))) (.refl _)
theorem qmn (p0 : List api_Box) (p1 : List api_Box) (r : List Int) (h0 : qbb p0 p1 = some r) : Pure Try.prog tab 56 [.sl 6 (p0.map qi),.sl 6 (p1.map qi)] (.sl 1 (r.map (eI .i64))):=by
 unfold qbb at h0
 refine qu Try.func56 rfl (by kernel_rfl) (by kernel_rfl) rfl<|q8<|q6<|qa rfl rfl<|q7<|q8<|q6<|qa rfl rfl<|q7<|q8<|q8<|q6<|qa rfl rfl<|q7 ?_
 obtain ⟨m28,h29,h0⟩:=bindE h0
 refine qn (fun b30=>b30 = m28) (fun (b30 : List Int)=>⟨[(1,.d (.sl 6 (p1.map qi))),(5,.hs 0 1 0 b30.length)],[(0,.dat 1 (b30.map (eI .i64)))],1⟩) (by simp) ?_ ?_
 ·refine qo (q6r p0) (fun (a27 : Int × List Int)=>⟨[(0,.d (.sl 6 (p0.map qi))),(1,.d (.sl 6 (p1.map qi))),(5,.hs 0 1 0 a27.2.length),(6,.d (.int .i64 a27.1))],[(0,.dat 1 (a27.2.map (eI .i64)))],1⟩) (0,[]) m28 h29 (wkE [] [] [0] rfl ⟨⟨_,rfl,.d (.refl _)⟩,⟨_,rfl,.d (.refl _)⟩,⟨_,rfl,.nil (by decide) (ltd rfl)⟩,⟨_,rfl,.d (.refl _)⟩,trivial⟩ ⟨⟨ltd rfl,.inl ⟨by decide,_,by decide,rfl⟩⟩,trivial⟩) ?_
  intro a27 y25 h26
  unfold q6r at h26
  refine q8<|q8<|q6<|q0 rfl rfl<|q0 rfl rfl<|q1b rfl rfl rfl rfl<|q9 (.d (.bool (decide (a27.1 < (p0.length : Int))))) rfl rfl<|q7 ?_
  refine qd rfl h26 (fun _ h26=>?_) (fun _ h26=>?_)
  ·refine qg<|q8<|ql<|qk [(some [],[]),(some [0,1],[0,2]),(some [],[1]),(some [],[]),(some [],[]),(some [],[]),(some [],[]),(some [],[]),(some [],[]),(some [],[]),(some [],[]),(some [],[]),(some [],[]),(some [],[]),(some [],[]),(some [],[])] (by kernel_rfl)<|q0 rfl rfl<|q0 rfl rfl<|q0 rfl rfl ?_
   obtain ⟨v37,h38,h26⟩:=bindE h26
   refine q10 (enc:=qi) h38 rfl rfl rfl rfl rfl rfl<|q9 (.dref [.int .i64 v37.Lo.X,.int .i64 v37.Lo.Y,.int .i64 v37.Lo.Z,.int .i64 v37.Hi.X,.int .i64 v37.Hi.Y,.int .i64 v37.Hi.Z] 0) rfl rfl<|q9 (.dref [.int .i64 v37.Lo.X,.int .i64 v37.Lo.Y,.int .i64 v37.Lo.Z,.int .i64 v37.Hi.X,.int .i64 v37.Hi.Y,.int .i64 v37.Hi.Z] 2) rfl rfl<|q9 (.d (.int .i64 v37.Lo.Z)) rfl rfl<|q0 rfl rfl<|q0 rfl rfl ?_
   obtain ⟨v39,h40,h26⟩:=bindE h26
   refine q10 (enc:=qi) h40 rfl rfl rfl rfl rfl rfl<|q9 (.dref [.int .i64 v39.Lo.X,.int .i64 v39.Lo.Y,.int .i64 v39.Lo.Z,.int .i64 v39.Hi.X,.int .i64 v39.Hi.Y,.int .i64 v39.Hi.Z] 3) rfl rfl<|q9 (.dref [.int .i64 v39.Lo.X,.int .i64 v39.Lo.Y,.int .i64 v39.Lo.Z,.int .i64 v39.Hi.X,.int .i64 v39.Hi.Y,.int .i64 v39.Hi.Z] 5) rfl rfl<|q9 (.d (.int .i64 v39.Hi.Z)) rfl rfl<|q3m (.hs 1 1 0 [v37.Lo.Z,v39.Hi.Z].length) (.dat 1 ([v37.Lo.Z,v39.Hi.Z].map (eI .i64))) rfl rfl ?_
   obtain ⟨z41,h42,h26⟩:=bindE h26
   refine q5o (xs:=a27.2) (ys:=[v37.Lo.Z,v39.Hi.Z]) (enc:=(eI .i64)) (.hs 1 1 0 [v37.Lo.Z,v39.Hi.Z].length) h42 rfl rfl rfl rfl rfl rfl rfl (q4b rfl rfl) rfl rfl rfl rfl<|qa rfl rfl<|q7<|qf<|qv<|q6<|q0 rfl rfl<|q9 (.d (.int .i64 (w64 (a27.1 + 1)))) rfl rfl<|qa rfl rfl<|q7<|qf ?_
   exact ⟨_,(Option.some.inj h26).symm,wkE [(0,2)] [] [] rfl ⟨⟨_,rfl,.d (.refl _)⟩,⟨_,rfl,.d (.refl _)⟩,⟨_,rfl,.hs rfl (by decide) (ltd rfl)⟩,⟨_,rfl,.d (.refl _)⟩,trivial⟩ ⟨⟨ltd rfl,.inr ⟨by decide,_,rfl,.dat _ _⟩⟩,trivial⟩⟩
  ·refine qp ?_
   refine ⟨_,(Option.some.inj h26).symm,fun hm=>?_⟩
   subst hm
   exact ⟨_,rfl,wkE [(0,0)] [] [] rfl ⟨⟨_,rfl,.d (.refl _)⟩,⟨_,rfl,.hs rfl (by decide) (ltd rfl)⟩,trivial⟩ ⟨⟨ltd rfl,.inr ⟨by decide,_,rfl,.dat _ _⟩⟩,trivial⟩⟩
 ·intro b30 hb
  subst hb
  refine q8<|q8<|q6<|qa rfl rfl<|q7 ?_
  obtain ⟨m70,h71,h0⟩:=bindE h0
  refine qn (fun b72=>b72 = m70) (fun (b72 : List Int)=>⟨[(5,.hs 0 1 0 b72.length)],[(0,.dat 1 (b72.map (eI .i64)))],1⟩) (by simp) ?_ ?_
  ·refine qo (q6s p1) (fun (a69 : Int × List Int)=>⟨[(1,.d (.sl 6 (p1.map qi))),(5,.hs 0 1 0 a69.2.length),(7,.d (.int .i64 a69.1))],[(0,.dat 1 (a69.2.map (eI .i64)))],1⟩) (0,b30) m70 h71 (wkE [(0,0)] [] [] rfl ⟨⟨_,rfl,.d (.refl _)⟩,⟨_,rfl,.hs rfl (by decide) (ltd rfl)⟩,⟨_,rfl,.d (.refl _)⟩,trivial⟩ ⟨⟨ltd rfl,.inr ⟨by decide,_,rfl,.dat _ _⟩⟩,trivial⟩) ?_
   intro a69 y67 h68
   unfold q6s at h68
   refine q8<|q8<|q6<|q0 rfl rfl<|q0 rfl rfl<|q1b rfl rfl rfl rfl<|q9 (.d (.bool (decide (a69.1 < (p1.length : Int))))) rfl rfl<|q7 ?_
   refine qd rfl h68 (fun _ h68=>?_) (fun _ h68=>?_)
   ·refine qg<|q8<|ql<|qk [(some [],[]),(some [0,1],[0,2]),(some [],[1]),(some [],[]),(some [],[]),(some [],[]),(some [],[]),(some [],[]),(some [],[]),(some [],[]),(some [],[]),(some [],[]),(some [],[]),(some [],[]),(some [],[]),(some [],[])] (by kernel_rfl)<|q0 rfl rfl<|q0 rfl rfl<|q0 rfl rfl ?_
    obtain ⟨v79,h80,h68⟩:=bindE h68
    refine q10 (enc:=qi) h80 rfl rfl rfl rfl rfl rfl<|q9 (.dref [.int .i64 v79.Lo.X,.int .i64 v79.Lo.Y,.int .i64 v79.Lo.Z,.int .i64 v79.Hi.X,.int .i64 v79.Hi.Y,.int .i64 v79.Hi.Z] 0) rfl rfl<|q9 (.dref [.int .i64 v79.Lo.X,.int .i64 v79.Lo.Y,.int .i64 v79.Lo.Z,.int .i64 v79.Hi.X,.int .i64 v79.Hi.Y,.int .i64 v79.Hi.Z] 2) rfl rfl<|q9 (.d (.int .i64 v79.Lo.Z)) rfl rfl<|q0 rfl rfl<|q0 rfl rfl ?_
    obtain ⟨v81,h82,h68⟩:=bindE h68
    refine q10 (enc:=qi) h82 rfl rfl rfl rfl rfl rfl<|q9 (.dref [.int .i64 v81.Lo.X,.int .i64 v81.Lo.Y,.int .i64 v81.Lo.Z,.int .i64 v81.Hi.X,.int .i64 v81.Hi.Y,.int .i64 v81.Hi.Z] 3) rfl rfl<|q9 (.dref [.int .i64 v81.Lo.X,.int .i64 v81.Lo.Y,.int .i64 v81.Lo.Z,.int .i64 v81.Hi.X,.int .i64 v81.Hi.Y,.int .i64 v81.Hi.Z] 5) rfl rfl<|q9 (.d (.int .i64 v81.Hi.Z)) rfl rfl<|q3m (.hs 1 1 0 [v79.Lo.Z,v81.Hi.Z].length) (.dat 1 ([v79.Lo.Z,v81.Hi.Z].map (eI .i64))) rfl rfl ?_
    obtain ⟨z83,h84,h68⟩:=bindE h68
    refine q5o (xs:=a69.2) (ys:=[v79.Lo.Z,v81.Hi.Z]) (enc:=(eI .i64)) (.hs 1 1 0 [v79.Lo.Z,v81.Hi.Z].length) h84 rfl rfl rfl rfl rfl rfl rfl (q4b rfl rfl) rfl rfl rfl rfl<|qa rfl rfl<|q7<|qf<|qv<|q6<|q0 rfl rfl<|q9 (.d (.int .i64 (w64 (a69.1 + 1)))) rfl rfl<|qa rfl rfl<|q7<|qf ?_
    exact ⟨_,(Option.some.inj h68).symm,wkE [(0,2)] [] [] rfl ⟨⟨_,rfl,.d (.refl _)⟩,⟨_,rfl,.hs rfl (by decide) (ltd rfl)⟩,⟨_,rfl,.d (.refl _)⟩,trivial⟩ ⟨⟨ltd rfl,.inr ⟨by decide,_,rfl,.dat _ _⟩⟩,trivial⟩⟩
   ·refine qp ?_
    refine ⟨_,(Option.some.inj h68).symm,fun hm=>?_⟩
    subst hm
    exact ⟨_,rfl,wkE [(0,0)] [] [] rfl ⟨⟨_,rfl,.hs rfl (by decide) (ltd rfl)⟩,trivial⟩ ⟨⟨ltd rfl,.inr ⟨by decide,_,rfl,.dat _ _⟩⟩,trivial⟩⟩
  ·intro b72 hb
   subst hb
   refine q8 ?_
   refine q89 (st':=⟨[(5,.d (.sl 1 (b72.map (eI .i64))))],[],0⟩) (wkE [] [0] [] rfl ⟨⟨_,rfl,qcj rfl rfl (by decide)⟩,trivial⟩ trivial) ?_ (by simp)
   refine q6<|q0 rfl rfl ?_
   obtain ⟨r85,h86,h0⟩:=bindE h0
   refine q11 [.d (.sl 1 (b72.map (eI .i64)))] (qat b72 r85 h86) rfl rfl rfl (.inl rfl)<|qa rfl rfl<|q7<|qm ?_
   obtain rfl:=someE h0
   exact finD (.inr rfl) (v:=.d (.sl 1 (r85.map (eI .i64)))) rfl rfl (.refl _)
theorem qc0 (p0 : List api_Box) (p1 : Int) (r : List api_Rect) (h0 : q8q p0 p1 = some r) : Pure Try.prog tab 57 [.sl 6 (p0.map qi),.int .i64 p1] (.sl 4 (r.map qb)):=by
 unfold q8q at h0
 refine qu Try.func57 rfl (by kernel_rfl) (by kernel_rfl) rfl<|q8<|q6<|qa rfl rfl<|q7<|q8<|q6<|qa rfl rfl<|q7<|q8<|q8<|q6<|qa rfl rfl<|q7 ?_
 obtain ⟨m61,h62,h0⟩:=bindE h0
 refine qn (fun b63=>b63 = m61) (fun (b63 : List api_Rect)=>⟨[(5,.hs 0 4 0 b63.length)],[(0,.dat 4 (b63.map qb))],1⟩) (by simp) ?_ ?_
 ·refine qo (q9c p0 p1) (fun (a60 : Int × List api_Rect)=>⟨[(0,.d (.sl 6 (p0.map qi))),(1,.d (.int .i64 p1)),(5,.hs 0 4 0 a60.2.length),(6,.d (.int .i64 a60.1))],[(0,.dat 4 (a60.2.map qb))],1⟩) (0,[]) m61 h62 (wkE [] [] [0] rfl ⟨⟨_,rfl,.d (.refl _)⟩,⟨_,rfl,.d (.refl _)⟩,⟨_,rfl,.nil (by decide) (ltd rfl)⟩,⟨_,rfl,.d (.refl _)⟩,trivial⟩ ⟨⟨ltd rfl,.inl ⟨by decide,_,by decide,rfl⟩⟩,trivial⟩) ?_
  intro a60 y58 h59
  unfold q9c at h59
  refine q8<|q8<|q6<|q0 rfl rfl<|q0 rfl rfl<|q1b rfl rfl rfl rfl<|q9 (.d (.bool (decide (a60.1 < (p0.length : Int))))) rfl rfl<|q7 ?_
  refine qd rfl h59 (fun _ h59=>?_) (fun _ h59=>?_)
  ·refine qg<|q8 ?_
   obtain ⟨m92,h91,h59⟩:=bindE h59
   refine qn (fun b93=>b93 = m92) (fun (b93 : List api_Rect)=>⟨[(0,.d (.sl 6 (p0.map qi))),(1,.d (.int .i64 p1)),(5,.hs 0 4 0 b93.length),(6,.d (.int .i64 a60.1))],[(0,.dat 4 (b93.map qb))],1⟩) (by simp) ?_ ?_
   ·refine q8<|q6<|q0 rfl rfl<|q0 rfl rfl ?_
    obtain ⟨v94,h95,h91⟩:=bindE h91
    refine q10 (enc:=qi) h95 rfl rfl rfl rfl rfl rfl<|q9 (.dref [.int .i64 v94.Lo.X,.int .i64 v94.Lo.Y,.int .i64 v94.Lo.Z,.int .i64 v94.Hi.X,.int .i64 v94.Hi.Y,.int .i64 v94.Hi.Z] 0) rfl rfl<|q9 (.dref [.int .i64 v94.Lo.X,.int .i64 v94.Lo.Y,.int .i64 v94.Lo.Z,.int .i64 v94.Hi.X,.int .i64 v94.Hi.Y,.int .i64 v94.Hi.Z] 2) rfl rfl<|q9 (.d (.int .i64 v94.Lo.Z)) rfl rfl<|q0 rfl rfl<|q9 (.d (.bool (decide (v94.Lo.Z≤p1)))) rfl rfl ?_
    obtain ⟨c98,h99,h91⟩:=bindE h91
    refine qt 10 (fun A st=>∃ (j100 j101 j102 j103 j104 j105 j106 j107 j108 : V),st = A [(30,.d (.bool c98)),(29,j108),(28,j107),(27,j106),(26,j105),(25,j104),(24,j103),(23,j102),(22,j101),(21,j100)]) ?_ ?_
    ·refine qz rfl rfl h99 (fun h99=>?_) (fun h99=>?_)
     ·refine q0 rfl rfl<|q0 rfl rfl<|q0 rfl rfl ?_
      obtain ⟨v109,h110,h99⟩:=bindE h99
      refine q10 (enc:=qi) h110 rfl rfl rfl rfl rfl rfl<|q9 (.dref [.int .i64 v109.Lo.X,.int .i64 v109.Lo.Y,.int .i64 v109.Lo.Z,.int .i64 v109.Hi.X,.int .i64 v109.Hi.Y,.int .i64 v109.Hi.Z] 3) rfl rfl<|q9 (.dref [.int .i64 v109.Lo.X,.int .i64 v109.Lo.Y,.int .i64 v109.Lo.Z,.int .i64 v109.Hi.X,.int .i64 v109.Hi.Y,.int .i64 v109.Hi.Z] 5) rfl rfl<|q9 (.d (.int .i64 v109.Hi.Z)) rfl rfl<|q9 (.d (.bool (decide (p1 < v109.Hi.Z)))) rfl rfl<|q9 (.d (.bool (decide (p1 < v109.Hi.Z)))) rfl rfl<|q7 ?_
      obtain rfl:=someE h99
      exact ⟨_,_,_,_,_,_,_,_,_,rfl⟩
     ·refine qc rfl<|qc rfl<|qc rfl<|qc rfl<|qc rfl<|qc rfl<|qc rfl<|qc rfl<|q9 (.d (.bool false)) rfl rfl<|q7 ?_
      obtain rfl:=someE h99
      exact ⟨_,_,_,_,_,_,_,_,_,rfl⟩
    ·rintro _ ⟨j100,j101,j102,j103,j104,j105,j106,j107,j108,rfl⟩
     refine q7 ?_
     refine qd rfl h91 (fun _ h91=>?_) (fun _ h91=>?_)
     ·refine qk [(some [],[]),(some [0,1],[0,2]),(some [],[1]),(some [],[]),(some [],[]),(some [],[]),(some [],[]),(some [],[]),(some [],[]),(some [],[]),(some [],[]),(some [],[]),(some [],[]),(some [],[]),(some [],[]),(some [],[]),(some [],[]),(some [],[]),(some [],[]),(some [],[]),(some [],[]),(some [],[]),(some [],[]),(some [],[]),(some [],[]),(some [],[]),(some [],[]),(some [],[]),(some [],[])] (by kernel_rfl)<|q0 rfl rfl<|q0 rfl rfl<|q0 rfl rfl ?_
      obtain ⟨v111,h112,h91⟩:=bindE h91
      refine q10 (enc:=qi) h112 rfl rfl rfl rfl rfl rfl<|q9 (.dref [.int .i64 v111.Lo.X,.int .i64 v111.Lo.Y,.int .i64 v111.Lo.Z,.int .i64 v111.Hi.X,.int .i64 v111.Hi.Y,.int .i64 v111.Hi.Z] 0) rfl rfl<|q9 (.dref [.int .i64 v111.Lo.X,.int .i64 v111.Lo.Y,.int .i64 v111.Lo.Z,.int .i64 v111.Hi.X,.int .i64 v111.Hi.Y,.int .i64 v111.Hi.Z] 0) rfl rfl<|q9 (.d (.int .i64 v111.Lo.X)) rfl rfl<|q0 rfl rfl<|q0 rfl rfl ?_
      obtain ⟨v113,h114,h91⟩:=bindE h91
      refine q10 (enc:=qi) h114 rfl rfl rfl rfl rfl rfl<|q9 (.dref [.int .i64 v113.Lo.X,.int .i64 v113.Lo.Y,.int .i64 v113.Lo.Z,.int .i64 v113.Hi.X,.int .i64 v113.Hi.Y,.int .i64 v113.Hi.Z] 0) rfl rfl<|q9 (.dref [.int .i64 v113.Lo.X,.int .i64 v113.Lo.Y,.int .i64 v113.Lo.Z,.int .i64 v113.Hi.X,.int .i64 v113.Hi.Y,.int .i64 v113.Hi.Z] 1) rfl rfl<|q9 (.d (.int .i64 v113.Lo.Y)) rfl rfl<|q0 rfl rfl<|q0 rfl rfl ?_
      obtain ⟨v115,h116,h91⟩:=bindE h91
      refine q10 (enc:=qi) h116 rfl rfl rfl rfl rfl rfl<|q9 (.dref [.int .i64 v115.Lo.X,.int .i64 v115.Lo.Y,.int .i64 v115.Lo.Z,.int .i64 v115.Hi.X,.int .i64 v115.Hi.Y,.int .i64 v115.Hi.Z] 3) rfl rfl<|q9 (.dref [.int .i64 v115.Lo.X,.int .i64 v115.Lo.Y,.int .i64 v115.Lo.Z,.int .i64 v115.Hi.X,.int .i64 v115.Hi.Y,.int .i64 v115.Hi.Z] 3) rfl rfl<|q9 (.d (.int .i64 v115.Hi.X)) rfl rfl<|q0 rfl rfl<|q0 rfl rfl ?_
      obtain ⟨v117,h118,h91⟩:=bindE h91
      refine q10 (enc:=qi) h118 rfl rfl rfl rfl rfl rfl<|q9 (.dref [.int .i64 v117.Lo.X,.int .i64 v117.Lo.Y,.int .i64 v117.Lo.Z,.int .i64 v117.Hi.X,.int .i64 v117.Hi.Y,.int .i64 v117.Hi.Z] 3) rfl rfl<|q9 (.dref [.int .i64 v117.Lo.X,.int .i64 v117.Lo.Y,.int .i64 v117.Lo.Z,.int .i64 v117.Hi.X,.int .i64 v117.Hi.Y,.int .i64 v117.Hi.Z] 4) rfl rfl<|q9 (.d (.int .i64 v117.Hi.Y)) rfl rfl<|q9 (.d (.agg [.int .i64 v111.Lo.X,.int .i64 v113.Lo.Y,.int .i64 v115.Hi.X,.int .i64 v117.Hi.Y])) rfl rfl<|q3m (.hs 1 4 0 [({X0:=v111.Lo.X,Y0:=v113.Lo.Y,X1:=v115.Hi.X,Y1:=v117.Hi.Y} : api_Rect)].length) (.dat 4 ([({X0:=v111.Lo.X,Y0:=v113.Lo.Y,X1:=v115.Hi.X,Y1:=v117.Hi.Y} : api_Rect)].map qb)) rfl rfl ?_
      obtain ⟨z119,h120,h91⟩:=bindE h91
      refine q5o (xs:=a60.2) (ys:=[({X0:=v111.Lo.X,Y0:=v113.Lo.Y,X1:=v115.Hi.X,Y1:=v117.Hi.Y} : api_Rect)]) (enc:=qb) (.hs 1 4 0 [({X0:=v111.Lo.X,Y0:=v113.Lo.Y,X1:=v115.Hi.X,Y1:=v117.Hi.Y} : api_Rect)].length) h120 rfl rfl rfl rfl rfl rfl rfl (q4b rfl rfl) rfl rfl rfl rfl<|qa rfl rfl<|q7<|qf ?_
      obtain rfl:=someE h91
      exact ⟨_,rfl,wkE [(0,2)] [] [] rfl ⟨⟨_,rfl,.d (.refl _)⟩,⟨_,rfl,.d (.refl _)⟩,⟨_,rfl,.hs rfl (by decide) (ltd rfl)⟩,⟨_,rfl,.d (.refl _)⟩,trivial⟩ ⟨⟨ltd rfl,.inr ⟨by decide,_,rfl,.dat _ _⟩⟩,trivial⟩⟩
     ·refine qg<|qf ?_
      obtain rfl:=someE h91
      exact ⟨_,rfl,wkE [(0,0)] [] [] rfl ⟨⟨_,rfl,.d (.refl _)⟩,⟨_,rfl,.d (.refl _)⟩,⟨_,rfl,.hs rfl (by decide) (ltd rfl)⟩,⟨_,rfl,.d (.refl _)⟩,trivial⟩ ⟨⟨ltd rfl,.inr ⟨by decide,_,rfl,.dat _ _⟩⟩,trivial⟩⟩
   ·intro b93 hb
    subst hb
    refine q6<|q0 rfl rfl<|q9 (.d (.int .i64 (w64 (a60.1 + 1)))) rfl rfl<|qa rfl rfl<|q7<|qf ?_
    exact ⟨_,(Option.some.inj h59).symm,wkE [(0,0)] [] [] rfl ⟨⟨_,rfl,.d (.refl _)⟩,⟨_,rfl,.d (.refl _)⟩,⟨_,rfl,.hs rfl (by decide) (ltd rfl)⟩,⟨_,rfl,.d (.refl _)⟩,trivial⟩ ⟨⟨ltd rfl,.inr ⟨by decide,_,rfl,.dat _ _⟩⟩,trivial⟩⟩
  ·refine qp ?_
   refine ⟨_,(Option.some.inj h59).symm,fun hm=>?_⟩
   subst hm
   exact ⟨_,rfl,wkE [(0,0)] [] [] rfl ⟨⟨_,rfl,.hs rfl (by decide) (ltd rfl)⟩,trivial⟩ ⟨⟨ltd rfl,.inr ⟨by decide,_,rfl,.dat _ _⟩⟩,trivial⟩⟩
 ·intro b63 hb
  subst hb
  refine q8<|q6<|q0 rfl rfl<|qa rfl rfl<|q7<|qm ?_
  obtain rfl:=someE h0
  exact finD (.inr rfl) (v:=.hs 0 4 0 b63.length) rfl (q8v rfl rfl) (.refl _)
theorem qjy (p0 : Int) (p1 : List api_Box) (p2 : List api_Box) (r : List api_Box × Bool) (h0 : q8f p0 p1 p2 = some r) : Pure Try.prog tab 38 [.int .i64 p0,.sl 6 (p1.map qi),.sl 6 (p2.map qi)] (.tup [.sl 6 (r.1.map qi),.bool r.2]):=by
 unfold q8f at h0
 refine qu Try.func38 rfl (by kernel_rfl) (by kernel_rfl) rfl<|q8<|q6<|qa rfl rfl<|qa rfl rfl<|q7<|q8<|q6<|q0 rfl rfl<|q0 rfl rfl ?_
 obtain ⟨r1,h2,h0⟩:=bindE h0
 refine q11 [.d (.sl 6 (p1.map qi)),.d (.sl 6 (p2.map qi))] (qmn p1 p2 r1 h2) rfl rfl rfl (.inl rfl)<|qa rfl rfl<|q7<|q8<|q6<|qa rfl rfl<|q7<|q8<|q6<|qa rfl rfl<|q7<|q8<|q6<|qa rfl rfl<|q7<|q8<|q8<|q6<|qa rfl rfl<|q7 ?_
 obtain ⟨m474,h475,h0⟩:=bindE h0
 refine qn (fun b476=>.inl b476 = m474) (fun (b476 : List api_Box)=>⟨[(9,.hs 0 6 0 b476.length)],[(0,.dat 6 (b476.map qi))],1⟩) (by simp) ?_ ?_
 ·refine qo (q5k r1 p1 p2 p0) (fun (a473 : List api_Rect × Int × Int × List api_Box)=>⟨[(0,.d (.int .i64 p0)),(1,.d (.sl 6 (p1.map qi))),(2,.d (.sl 6 (p2.map qi))),(8,.d (.sl 1 (r1.map (eI .i64)))),(9,.hs 0 6 0 a473.2.2.2.length),(10,.d (.sl 4 (a473.1.map qb))),(11,.d (.int .i64 a473.2.1)),(12,.d (.int .i64 a473.2.2.1))],[(0,.dat 6 (a473.2.2.2.map qi))],1⟩) ([],0,0,[]) m474 h475 (wkE [] [] [0] rfl ⟨⟨_,rfl,.d (.refl _)⟩,⟨_,rfl,.d (.refl _)⟩,⟨_,rfl,.d (.refl _)⟩,⟨_,rfl,.d (.refl _)⟩,⟨_,rfl,.nil (by decide) (ltd rfl)⟩,⟨_,rfl,.d (.nil _)⟩,⟨_,rfl,.d (.refl _)⟩,⟨_,rfl,.d (.refl _)⟩,trivial⟩ ⟨⟨ltd rfl,.inl ⟨by decide,_,by decide,rfl⟩⟩,trivial⟩) ?_
  intro a473 y471 h472
  unfold q5k at h472
  refine q8<|q8<|q6<|q0 rfl rfl<|q9 (.d (.int .i64 (w64 (a473.2.2.1 + 1)))) rfl rfl<|q0 rfl rfl<|q1b rfl rfl rfl rfl<|q9 (.d (.bool (decide ((w64 (a473.2.2.1 + 1)) < (r1.length : Int))))) rfl rfl<|q7 ?_
  refine qd rfl h472 (fun _ h472=>?_) (fun _ h472=>?_)
  ·refine qg<|q8 ?_
   obtain ⟨m636,h635,h472⟩:=bindE h472
   refine qn (fun b637=>.inl b637 = m636) (fun (b637 : List api_Rect × Int × List api_Box)=>⟨[(0,.d (.int .i64 p0)),(1,.d (.sl 6 (p1.map qi))),(2,.d (.sl 6 (p2.map qi))),(8,.d (.sl 1 (r1.map (eI .i64)))),(9,.hs 0 6 0 b637.2.2.length),(10,.d (.sl 4 (b637.1.map qb))),(11,.d (.int .i64 b637.2.1)),(12,.d (.int .i64 a473.2.2.1))],[(0,.dat 6 (b637.2.2.map qi))],1⟩) (by simp) ?_ ?_
   ·refine q8<|qk [(some [],[]),(some [],[]),(some [],[]),(some [],[]),(some [],[]),(some [],[]),(some [],[]),(some [],[]),(some [],[]),(some [],[]),(some [],[]),(some [],[]),(some [],[]),(some [],[]),(some [],[])] (by kernel_rfl)<|q0 rfl rfl<|q0 rfl rfl<|q0 rfl rfl<|q0 rfl rfl ?_
    obtain ⟨v638,h639,h635⟩:=bindE h635
    refine q10 (enc:=(eI .i64)) h639 rfl rfl rfl rfl rfl rfl<|q9 (.d (.int .i64 v638)) rfl rfl ?_
    obtain ⟨r640,h641,h635⟩:=bindE h635
    refine q11 [.d (.sl 6 (p1.map qi)),.d (.int .i64 v638)] (qc0 p1 v638 r640 h641) rfl rfl rfl (.inl rfl)<|q0 rfl rfl<|q0 rfl rfl<|q0 rfl rfl ?_
    obtain ⟨v642,h643,h635⟩:=bindE h635
    refine q10 (enc:=(eI .i64)) h643 rfl rfl rfl rfl rfl rfl<|q9 (.d (.int .i64 v642)) rfl rfl ?_
    obtain ⟨r644,h645,h635⟩:=bindE h635
    refine q11 [.d (.sl 6 (p2.map qi)),.d (.int .i64 v642)] (qc0 p2 v642 r644 h645) rfl rfl rfl (.inl rfl) ?_
    obtain ⟨r646,h647,h635⟩:=bindE h635
    refine q11 [.d (.int .i64 p0),.d (.sl 4 (r640.map qb)),.d (.sl 4 (r644.map qb))] (q8x p0 r640 r644 r646 h647) rfl rfl rfl (.inl rfl)<|qa rfl rfl<|q7<|q8<|q8<|q6<|q0 rfl rfl<|q1b rfl rfl rfl rfl<|q9 (.d (.bool (decide ((r646.length : Int) > 400)))) rfl rfl ?_
    obtain ⟨c654,h655,h635⟩:=bindE h635
    refine qt 11 (fun A st=>∃ (j656 j657 j658 j659 j660 j661 j662 j663 j664 j665 : V),st = A [(53,.d (.bool c654)),(52,j665),(51,j664),(50,j663),(49,j662),(48,j661),(47,j660),(46,j659),(45,j658),(44,j657),(43,j656)]) ?_ ?_
    ·refine qz rfl rfl h655 (fun h655=>?_) (fun h655=>?_)
     ·refine qc rfl<|qc rfl<|qc rfl<|qc rfl<|qc rfl<|qc rfl<|qc rfl<|qc rfl<|qc rfl<|q9 (.d (.bool true)) rfl rfl<|q7 ?_
      obtain rfl:=someE h655
      exact ⟨_,_,_,_,_,_,_,_,_,_,rfl⟩
     ·refine q0 rfl rfl<|q0 rfl rfl<|q0 rfl rfl ?_
      obtain ⟨v666,h667,h655⟩:=bindE h655
      refine q10 (enc:=(eI .i64)) h667 rfl rfl rfl rfl rfl rfl<|q9 (.d (.int .i64 v666)) rfl rfl ?_
      obtain ⟨r668,h669,h655⟩:=bindE h655
      refine q11 [.d (.sl 6 (p1.map qi)),.d (.int .i64 v666)] (qc0 p1 v666 r668 h669) rfl rfl rfl (.inl rfl) ?_
      obtain ⟨r670,h671,h655⟩:=bindE h655
      refine q11 [.d (.int .i64 2),.d (.sl 4 (r668.map qb)),.d (.nilsl)] (q9w (.cons (.refl _) (.cons (.refl _) (.cons (.nil _) .nil))) (q8x 2 r668 [] r670 h671)) rfl rfl rfl (.inl rfl)<|q1b rfl rfl rfl rfl<|q9 (.d (.bool (decide ((r670.length : Int) > 400)))) rfl rfl<|q9 (.d (.bool (decide ((r670.length : Int) > 400)))) rfl rfl<|q7 ?_
      obtain rfl:=someE h655
      exact ⟨_,_,_,_,_,_,_,_,_,_,rfl⟩
    ·rintro _ ⟨j656,j657,j658,j659,j660,j661,j662,j663,j664,j665,rfl⟩
     obtain ⟨c678,h679,h635⟩:=bindE h635
     refine qt 11 (fun A st=>∃ (j680 j681 j682 j683 j684 j685 j686 j687 j688 j689 : V),st = A [(64,.d (.bool c678)),(63,j689),(62,j688),(61,j687),(60,j686),(59,j685),(58,j684),(57,j683),(56,j682),(55,j681),(54,j680)]) ?_ ?_
     ·refine qz rfl rfl h679 (fun h679=>?_) (fun h679=>?_)
      ·refine qc rfl<|qc rfl<|qc rfl<|qc rfl<|qc rfl<|qc rfl<|qc rfl<|qc rfl<|qc rfl<|q9 (.d (.bool true)) rfl rfl<|q7 ?_
       obtain rfl:=someE h679
       exact ⟨_,_,_,_,_,_,_,_,_,_,rfl⟩
      ·refine q0 rfl rfl<|q0 rfl rfl<|q0 rfl rfl ?_
       obtain ⟨v690,h691,h679⟩:=bindE h679
       refine q10 (enc:=(eI .i64)) h691 rfl rfl rfl rfl rfl rfl<|q9 (.d (.int .i64 v690)) rfl rfl ?_
       obtain ⟨r692,h693,h679⟩:=bindE h679
       refine q11 [.d (.sl 6 (p2.map qi)),.d (.int .i64 v690)] (qc0 p2 v690 r692 h693) rfl rfl rfl (.inl rfl) ?_
       obtain ⟨r694,h695,h679⟩:=bindE h679
       refine q11 [.d (.int .i64 2),.d (.sl 4 (r692.map qb)),.d (.nilsl)] (q9w (.cons (.refl _) (.cons (.refl _) (.cons (.nil _) .nil))) (q8x 2 r692 [] r694 h695)) rfl rfl rfl (.inl rfl)<|q1b rfl rfl rfl rfl<|q9 (.d (.bool (decide ((r694.length : Int) > 400)))) rfl rfl<|q9 (.d (.bool (decide ((r694.length : Int) > 400)))) rfl rfl<|q7 ?_
       obtain rfl:=someE h679
       exact ⟨_,_,_,_,_,_,_,_,_,_,rfl⟩
     ·rintro _ ⟨j680,j681,j682,j683,j684,j685,j686,j687,j688,j689,rfl⟩
      refine q7 ?_
      refine qd rfl h635 (fun _ h635=>?_) (fun _ h635=>?_)
      ·refine q8<|q6<|qa rfl rfl<|qa rfl rfl<|q7<|qm ?_
       obtain rfl:=someE h635
       refine ⟨_,(Option.some.inj h472).symm,fun hm=>?_⟩
       subst hm
       obtain rfl:=someE h0
       exact finD (.inr rfl) (v:=.d (.tup [.nilsl,.bool false])) rfl rfl (q55 (.cons (.nil _) (.cons (.refl _) .nil)))
      ·refine qg<|q8<|q8<|q6<|q0 rfl rfl<|q9 (.d (.bool (decide (a473.2.2.1 > 0)))) rfl rfl ?_
       obtain ⟨c698,h699,h635⟩:=bindE h635
       refine qt 5 (fun A st=>∃ (j700 j701 j702 j703 : V),st = A [(71,.d (.bool c698)),(70,j703),(69,j702),(68,j701),(67,j700)]) ?_ ?_
       ·refine qz rfl rfl h699 (fun h699=>?_) (fun h699=>?_)
        ·refine q0 rfl rfl<|q0 rfl rfl ?_
         obtain ⟨r704,h705,h699⟩:=bindE h699
         refine q11 [.d (.sl 4 (r646.map qb)),.d (.sl 4 (a473.1.map qb))] (qbk r646 a473.1 r704 h705) rfl rfl rfl (.inl rfl)<|q9 (.d (.bool r704)) rfl rfl<|q7 ?_
         obtain rfl:=someE h699
         exact ⟨_,_,_,_,rfl⟩
        ·refine qc rfl<|qc rfl<|qc rfl<|q9 (.d (.bool false)) rfl rfl<|q7 ?_
         obtain rfl:=someE h699
         exact ⟨_,_,_,_,rfl⟩
       ·rintro _ ⟨j700,j701,j702,j703,rfl⟩
        refine q7 ?_
        refine qd rfl h635 (fun _ h635=>?_) (fun _ h635=>?_)
        ·refine q8<|q8<|q6<|q0 rfl rfl<|qa rfl rfl<|q7 ?_
         obtain ⟨m742,h743,h635⟩:=bindE h635
         refine qn (fun b744=>b744 = m742) (fun (b744 : List api_Box)=>⟨[(0,.d (.int .i64 p0)),(1,.d (.sl 6 (p1.map qi))),(2,.d (.sl 6 (p2.map qi))),(8,.d (.sl 1 (r1.map (eI .i64)))),(9,.hs 0 6 0 b744.length),(10,.d (.sl 4 (a473.1.map qb))),(11,.d (.int .i64 a473.2.1)),(12,.d (.int .i64 a473.2.2.1))],[(0,.dat 6 (b744.map qi))],1⟩) (by simp) ?_ ?_
         ·refine qo (q65 r1 a473) (fun (a741 : Int × List api_Box)=>⟨[(0,.d (.int .i64 p0)),(1,.d (.sl 6 (p1.map qi))),(2,.d (.sl 6 (p2.map qi))),(8,.d (.sl 1 (r1.map (eI .i64)))),(9,.hs 0 6 0 a741.2.length),(10,.d (.sl 4 (a473.1.map qb))),(11,.d (.int .i64 a473.2.1)),(12,.d (.int .i64 a473.2.2.1)),(14,.d (.int .i64 a741.1))],[(0,.dat 6 (a741.2.map qi))],1⟩) (a473.2.1,a473.2.2.2) m742 h743 (wkE [(0,0)] [] [] rfl ⟨⟨_,rfl,.d (.refl _)⟩,⟨_,rfl,.d (.refl _)⟩,⟨_,rfl,.d (.refl _)⟩,⟨_,rfl,.d (.refl _)⟩,⟨_,rfl,.hs rfl (by decide) (ltd rfl)⟩,⟨_,rfl,.d (.refl _)⟩,⟨_,rfl,.d (.refl _)⟩,⟨_,rfl,.d (.refl _)⟩,⟨_,rfl,.d (.refl _)⟩,trivial⟩ ⟨⟨ltd rfl,.inr ⟨by decide,_,rfl,.dat _ _⟩⟩,trivial⟩) ?_
          intro a741 y739 h740
          unfold q65 at h740
          refine q8<|q8<|q6<|q0 rfl rfl<|q0 rfl rfl<|q9 (.d (.int .i64 (a741.2.length : Int))) rfl rfl<|q9 (.d (.bool (decide (a741.1 < (a741.2.length : Int))))) rfl rfl<|q7 ?_
          refine qd rfl h740 (fun _ h740=>?_) (fun _ h740=>?_)
          ·refine qg<|q8<|ql<|q6<|q0 rfl rfl<|q0 rfl rfl<|q0 rfl rfl<|q0 rfl rfl<|q9 (.d (.int .i64 (w64 (a473.2.2.1 + 1)))) rfl rfl ?_
           obtain ⟨v749,h750,h740⟩:=bindE h740
           refine q10 (enc:=(eI .i64)) h750 rfl rfl rfl rfl rfl rfl<|q9 (.d (.int .i64 v749)) rfl rfl ?_
           obtain ⟨v751,h752,h740⟩:=bindE h740
           refine qj h752 rfl rfl rfl rfl rfl rfl rfl<|q9 (.ref 0 6 a741.1.toNat 3) rfl rfl<|q9 (.ref 0 6 a741.1.toNat 5) rfl rfl<|q19 (ds:=[.int .i64 v749]) ({Lo:=v751.Lo,Hi:=({X:=v751.Hi.X,Y:=v751.Hi.Y,Z:=v749} : q15)} : api_Box) h752 rfl rfl rfl rfl rfl rfl rfl rfl (leb rfl) rfl<|q7<|qf<|qv<|q6<|q0 rfl rfl<|q9 (.d (.int .i64 (w64 (a741.1 + 1)))) rfl rfl<|qa rfl rfl<|q7<|qf ?_
           exact ⟨_,(Option.some.inj h740).symm,wkE [(0,0)] [] [] rfl ⟨⟨_,rfl,.d (.refl _)⟩,⟨_,rfl,.d (.refl _)⟩,⟨_,rfl,.d (.refl _)⟩,⟨_,rfl,.d (.refl _)⟩,⟨_,rfl,q16 (by simp) rfl (by decide) (ltd rfl)⟩,⟨_,rfl,.d (.refl _)⟩,⟨_,rfl,.d (.refl _)⟩,⟨_,rfl,.d (.refl _)⟩,⟨_,rfl,.d (.refl _)⟩,trivial⟩ ⟨⟨ltd rfl,.inr ⟨by decide,_,rfl,.dat _ _⟩⟩,trivial⟩⟩
          ·refine qp ?_
           refine ⟨_,(Option.some.inj h740).symm,fun hm=>?_⟩
           subst hm
           exact ⟨_,rfl,wkE [(0,0)] [] [] rfl ⟨⟨_,rfl,.d (.refl _)⟩,⟨_,rfl,.d (.refl _)⟩,⟨_,rfl,.d (.refl _)⟩,⟨_,rfl,.d (.refl _)⟩,⟨_,rfl,.hs rfl (by decide) (ltd rfl)⟩,⟨_,rfl,.d (.refl _)⟩,⟨_,rfl,.d (.refl _)⟩,⟨_,rfl,.d (.refl _)⟩,trivial⟩ ⟨⟨ltd rfl,.inr ⟨by decide,_,rfl,.dat _ _⟩⟩,trivial⟩⟩
         ·intro b744 hb
          subst hb
          refine qp ?_
          obtain rfl:=someE h635
          exact ⟨_,rfl,wkE [(0,0)] [] [] rfl ⟨⟨_,rfl,.d (.refl _)⟩,⟨_,rfl,.d (.refl _)⟩,⟨_,rfl,.d (.refl _)⟩,⟨_,rfl,.d (.refl _)⟩,⟨_,rfl,.hs rfl (by decide) (ltd rfl)⟩,⟨_,rfl,.d (.refl _)⟩,⟨_,rfl,.d (.refl _)⟩,⟨_,rfl,.d (.refl _)⟩,trivial⟩ ⟨⟨ltd rfl,.inr ⟨by decide,_,rfl,.dat _ _⟩⟩,trivial⟩⟩
        ·refine qg<|q8<|q6<|q0 rfl rfl<|q9 (.d (.int .i64 (a473.2.2.2.length : Int))) rfl rfl<|q0 rfl rfl<|qa rfl rfl<|qa rfl rfl<|q7<|q8<|q6<|qa rfl rfl<|q7 ?_
         obtain ⟨m812,h813,h635⟩:=bindE h635
         refine ql<|qo (q6m r646 r1 a473) (fun (a811 : Int × List api_Box)=>⟨[(0,.d (.int .i64 p0)),(1,.d (.sl 6 (p1.map qi))),(2,.d (.sl 6 (p2.map qi))),(8,.d (.sl 1 (r1.map (eI .i64)))),(9,.hs 0 6 0 a811.2.length),(10,.d (.sl 4 (r646.map qb))),(11,.d (.int .i64 (a473.2.2.2.length : Int))),(12,.d (.int .i64 a473.2.2.1)),(13,.d (.sl 4 (r646.map qb))),(15,.d (.int .i64 a811.1))],[(0,.dat 6 (a811.2.map qi))],1⟩) (0,a473.2.2.2) m812 h813 (wkE [(0,0)] [] [] rfl ⟨⟨_,rfl,.d (.refl _)⟩,⟨_,rfl,.d (.refl _)⟩,⟨_,rfl,.d (.refl _)⟩,⟨_,rfl,.d (.refl _)⟩,⟨_,rfl,.hs rfl (by decide) (ltd rfl)⟩,⟨_,rfl,.d (.refl _)⟩,⟨_,rfl,.d (.refl _)⟩,⟨_,rfl,.d (.refl _)⟩,⟨_,rfl,.d (.refl _)⟩,⟨_,rfl,.d (.refl _)⟩,trivial⟩ ⟨⟨ltd rfl,.inr ⟨by decide,_,rfl,.dat _ _⟩⟩,trivial⟩) ?_
         intro a811 y809 h810
         unfold q6m at h810
         refine q8<|q8<|q6<|q0 rfl rfl<|q0 rfl rfl<|q1b rfl rfl rfl rfl<|q9 (.d (.bool (decide (a811.1 < (r646.length : Int))))) rfl rfl<|q7 ?_
         refine qd rfl h810 (fun _ h810=>?_) (fun _ h810=>?_)
         ·refine qg<|q8<|ql<|qk [(some [],[]),(some [0,1],[0,2]),(some [],[1]),(some [],[]),(some [],[]),(some [],[]),(some [],[]),(some [],[]),(some [],[]),(some [],[]),(some [],[]),(some [],[]),(some [],[]),(some [],[]),(some [],[]),(some [],[]),(some [],[]),(some [],[]),(some [],[]),(some [],[]),(some [],[]),(some [],[]),(some [],[]),(some [],[]),(some [],[]),(some [],[]),(some [],[]),(some [],[]),(some [],[]),(some [],[]),(some [],[]),(some [],[]),(some [],[]),(some [],[]),(some [],[]),(some [],[])] (by kernel_rfl)<|q0 rfl rfl<|q0 rfl rfl<|q0 rfl rfl ?_
          obtain ⟨v829,h830,h810⟩:=bindE h810
          refine q10 (enc:=qb) h830 rfl rfl rfl rfl rfl rfl<|q9 (.dref [.int .i64 v829.X0,.int .i64 v829.Y0,.int .i64 v829.X1,.int .i64 v829.Y1] 0) rfl rfl<|q9 (.d (.int .i64 v829.X0)) rfl rfl<|q0 rfl rfl<|q0 rfl rfl ?_
          obtain ⟨v831,h832,h810⟩:=bindE h810
          refine q10 (enc:=qb) h832 rfl rfl rfl rfl rfl rfl<|q9 (.dref [.int .i64 v831.X0,.int .i64 v831.Y0,.int .i64 v831.X1,.int .i64 v831.Y1] 1) rfl rfl<|q9 (.d (.int .i64 v831.Y0)) rfl rfl<|q0 rfl rfl<|q0 rfl rfl ?_
          obtain ⟨v833,h834,h810⟩:=bindE h810
          refine q10 (enc:=(eI .i64)) h834 rfl rfl rfl rfl rfl rfl<|q9 (.d (.int .i64 v833)) rfl rfl<|q9 (.d (.agg [.int .i64 v829.X0,.int .i64 v831.Y0,.int .i64 v833])) rfl rfl<|q0 rfl rfl<|q0 rfl rfl ?_
          obtain ⟨v835,h836,h810⟩:=bindE h810
          refine q10 (enc:=qb) h836 rfl rfl rfl rfl rfl rfl<|q9 (.dref [.int .i64 v835.X0,.int .i64 v835.Y0,.int .i64 v835.X1,.int .i64 v835.Y1] 2) rfl rfl<|q9 (.d (.int .i64 v835.X1)) rfl rfl<|q0 rfl rfl<|q0 rfl rfl ?_
          obtain ⟨v837,h838,h810⟩:=bindE h810
          refine q10 (enc:=qb) h838 rfl rfl rfl rfl rfl rfl<|q9 (.dref [.int .i64 v837.X0,.int .i64 v837.Y0,.int .i64 v837.X1,.int .i64 v837.Y1] 3) rfl rfl<|q9 (.d (.int .i64 v837.Y1)) rfl rfl<|q0 rfl rfl<|q0 rfl rfl<|q9 (.d (.int .i64 (w64 (a473.2.2.1 + 1)))) rfl rfl ?_
          obtain ⟨v839,h840,h810⟩:=bindE h810
          refine q10 (enc:=(eI .i64)) h840 rfl rfl rfl rfl rfl rfl<|q9 (.d (.int .i64 v839)) rfl rfl<|q9 (.d (.agg [.int .i64 v835.X1,.int .i64 v837.Y1,.int .i64 v839])) rfl rfl<|q9 (.d (.agg [.int .i64 v829.X0,.int .i64 v831.Y0,.int .i64 v833,.int .i64 v835.X1,.int .i64 v837.Y1,.int .i64 v839])) rfl rfl<|q3m (.hs 1 6 0 [({Lo:=({X:=v829.X0,Y:=v831.Y0,Z:=v833} : q15),Hi:=({X:=v835.X1,Y:=v837.Y1,Z:=v839} : q15)} : api_Box)].length) (.dat 6 ([({Lo:=({X:=v829.X0,Y:=v831.Y0,Z:=v833} : q15),Hi:=({X:=v835.X1,Y:=v837.Y1,Z:=v839} : q15)} : api_Box)].map qi)) rfl rfl ?_
          obtain ⟨z841,h842,h810⟩:=bindE h810
          refine q5o (xs:=a811.2) (ys:=[({Lo:=({X:=v829.X0,Y:=v831.Y0,Z:=v833} : q15),Hi:=({X:=v835.X1,Y:=v837.Y1,Z:=v839} : q15)} : api_Box)]) (enc:=qi) (.hs 1 6 0 [({Lo:=({X:=v829.X0,Y:=v831.Y0,Z:=v833} : q15),Hi:=({X:=v835.X1,Y:=v837.Y1,Z:=v839} : q15)} : api_Box)].length) h842 rfl rfl rfl rfl rfl rfl rfl (q4b rfl rfl) rfl rfl rfl rfl<|qa rfl rfl<|q7<|qf<|qv<|q6<|q0 rfl rfl<|q9 (.d (.int .i64 (w64 (a811.1 + 1)))) rfl rfl<|qa rfl rfl<|q7<|qf ?_
          exact ⟨_,(Option.some.inj h810).symm,wkE [(0,2)] [] [] rfl ⟨⟨_,rfl,.d (.refl _)⟩,⟨_,rfl,.d (.refl _)⟩,⟨_,rfl,.d (.refl _)⟩,⟨_,rfl,.d (.refl _)⟩,⟨_,rfl,.hs rfl (by decide) (ltd rfl)⟩,⟨_,rfl,.d (.refl _)⟩,⟨_,rfl,.d (.refl _)⟩,⟨_,rfl,.d (.refl _)⟩,⟨_,rfl,.d (.refl _)⟩,⟨_,rfl,.d (.refl _)⟩,trivial⟩ ⟨⟨ltd rfl,.inr ⟨by decide,_,rfl,.dat _ _⟩⟩,trivial⟩⟩
         ·refine qp ?_
          refine ⟨_,(Option.some.inj h810).symm,fun hm=>?_⟩
          subst hm
          obtain rfl:=someE h635
          exact ⟨_,rfl,wkE [(0,0)] [] [] rfl ⟨⟨_,rfl,.d (.refl _)⟩,⟨_,rfl,.d (.refl _)⟩,⟨_,rfl,.d (.refl _)⟩,⟨_,rfl,.d (.refl _)⟩,⟨_,rfl,.hs rfl (by decide) (ltd rfl)⟩,⟨_,rfl,.d (.refl _)⟩,⟨_,rfl,.d (.refl _)⟩,⟨_,rfl,.d (.refl _)⟩,trivial⟩ ⟨⟨ltd rfl,.inr ⟨by decide,_,rfl,.dat _ _⟩⟩,trivial⟩⟩
   ·intro b637 hb
    subst hb
    refine q6<|q0 rfl rfl<|q9 (.d (.int .i64 (w64 (a473.2.2.1 + 1)))) rfl rfl<|qa rfl rfl<|q7<|qf ?_
    exact ⟨_,(Option.some.inj h472).symm,wkE [(0,0)] [] [] rfl ⟨⟨_,rfl,.d (.refl _)⟩,⟨_,rfl,.d (.refl _)⟩,⟨_,rfl,.d (.refl _)⟩,⟨_,rfl,.d (.refl _)⟩,⟨_,rfl,.hs rfl (by decide) (ltd rfl)⟩,⟨_,rfl,.d (.refl _)⟩,⟨_,rfl,.d (.refl _)⟩,⟨_,rfl,.d (.refl _)⟩,trivial⟩ ⟨⟨ltd rfl,.inr ⟨by decide,_,rfl,.dat _ _⟩⟩,trivial⟩⟩
  ·refine qp ?_
   refine ⟨_,(Option.some.inj h472).symm,fun hm=>?_⟩
   subst hm
   exact ⟨_,rfl,wkE [(0,0)] [] [] rfl ⟨⟨_,rfl,.hs rfl (by decide) (ltd rfl)⟩,trivial⟩ ⟨⟨ltd rfl,.inr ⟨by decide,_,rfl,.dat _ _⟩⟩,trivial⟩⟩
 ·intro b476 hb
  subst hb
  refine q8<|q6<|q0 rfl rfl<|q0 rfl rfl<|q9 (.d (.int .i64 (b476.length : Int))) rfl rfl<|q9 (.d (.bool (decide ((b476.length : Int)≤400)))) rfl rfl<|qa rfl rfl<|qa rfl rfl<|q7<|qm ?_
  obtain rfl:=someE h0
  exact finD (.inr rfl) (v:=.tup [.hs 0 6 0 b476.length,.d (.bool (decide ((b476.length : Int)≤400)))]) rfl (qhh (q97 (q8v rfl rfl) (q97 rfl rfl))) (.refl _)
theorem qlx (p0 : List qs) (p1 : Int) (r : List api_Box × Int) (h0 : qak p0 p1 = some r) : Pure Try.prog tab 16 [.sl 2 (p0.map qw),.int .i64 p1] (.tup [.sl 6 (r.1.map qi),.int .i64 r.2]):=by
 unfold qak at h0
 refine qu Try.func16 rfl (by kernel_rfl) (by kernel_rfl) rfl<|q8<|q6<|qa rfl rfl<|qa rfl rfl<|q7<|q8<|q8<|q6<|q0 rfl rfl<|q1b rfl rfl rfl rfl<|q9 (.d (.bool (decide ((p0.length : Int) > 100)))) rfl rfl<|q7 ?_
 refine qd rfl h0 (fun _ h0=>?_) (fun _ h0=>?_)
 ·refine q8<|q6<|qa rfl rfl<|qa rfl rfl<|q7<|qm ?_
  obtain rfl:=someE h0
  exact finD (.inr rfl) (v:=.d (.tup [.nilsl,.int .i64 4])) rfl rfl (q55 (.cons (.nil _) (.cons (.refl _) .nil)))
 ·refine qg<|q8<|q8<|q6<|qa rfl rfl<|q7 ?_
  obtain ⟨m36,h37,h0⟩:=bindE h0
  refine qn (fun b38=>.inl b38 = m36) (fun (b38 : Unit)=>⟨[(0,.d (.sl 2 (p0.map qw))),(1,.d (.int .i64 p1))],[],0⟩) (by simp) ?_ ?_
  ·refine qo (q4s p0) (fun (a35 : Int)=>⟨[(0,.d (.sl 2 (p0.map qw))),(1,.d (.int .i64 p1)),(6,.d (.int .i64 a35))],[],0⟩) 0 m36 h37 (wkE [] [] [] rfl ⟨⟨_,rfl,.d (.refl _)⟩,⟨_,rfl,.d (.refl _)⟩,⟨_,rfl,.d (.refl _)⟩,trivial⟩ trivial) ?_
   intro a35 y33 h34
   unfold q4s at h34
   refine q8<|q8<|q6<|q0 rfl rfl<|q0 rfl rfl<|q1b rfl rfl rfl rfl<|q9 (.d (.bool (decide (a35 < (p0.length : Int))))) rfl rfl<|q7 ?_
   refine qd rfl h34 (fun _ h34=>?_) (fun _ h34=>?_)
   ·refine qg<|q8<|ql<|q8<|q6<|q0 rfl rfl<|q0 rfl rfl ?_
    obtain ⟨v47,h48,h34⟩:=bindE h34
    refine q10 (enc:=qw) h48 rfl rfl rfl rfl rfl rfl<|q9 (.dref [.sl 4 (v47.Region.map qb),.int .i64 v47.Height] 0) rfl rfl<|q9 (.d (.sl 4 (v47.Region.map qb))) rfl rfl ?_
    obtain ⟨r49,h50,h34⟩:=bindE h34
    refine q11 [.d (.sl 4 (v47.Region.map qb))] (q9n v47.Region r49 h50) rfl rfl rfl (.inl rfl)<|q9 (.d (.bool (r49 != 0))) rfl rfl<|q7 ?_
    refine qd rfl h34 (fun _ h34=>?_) (fun _ h34=>?_)
    ·refine q8<|q6<|q0 rfl rfl<|q0 rfl rfl ?_
     obtain ⟨v51,h52,h34⟩:=bindE h34
     refine q10 (enc:=qw) h52 rfl rfl rfl rfl rfl rfl<|q9 (.dref [.sl 4 (v51.Region.map qb),.int .i64 v51.Height] 0) rfl rfl<|q9 (.d (.sl 4 (v51.Region.map qb))) rfl rfl ?_
     obtain ⟨r53,h54,h34⟩:=bindE h34
     refine q11 [.d (.sl 4 (v51.Region.map qb))] (q9n v51.Region r53 h54) rfl rfl rfl (.inl rfl)<|qa rfl rfl<|qa rfl rfl<|q7<|qm ?_
     refine ⟨_,(Option.some.inj h34).symm,fun hm=>?_⟩
     subst hm
     obtain rfl:=someE h0
     exact finD (.inr rfl) (v:=.d (.tup [.nilsl,.int .i64 r53])) rfl rfl (q55 (.cons (.nil _) (.cons (.refl _) .nil)))
    ·refine qg<|qf<|qv<|q6<|q0 rfl rfl<|q9 (.d (.int .i64 (w64 (a35 + 1)))) rfl rfl<|qa rfl rfl<|q7<|qf ?_
     exact ⟨_,(Option.some.inj h34).symm,wkE [] [] [] rfl ⟨⟨_,rfl,.d (.refl _)⟩,⟨_,rfl,.d (.refl _)⟩,⟨_,rfl,.d (.refl _)⟩,trivial⟩ trivial⟩
   ·refine qp ?_
    refine ⟨_,(Option.some.inj h34).symm,fun hm=>?_⟩
    subst hm
    exact ⟨_,rfl,wkE [] [] [] rfl ⟨⟨_,rfl,.d (.refl _)⟩,⟨_,rfl,.d (.refl _)⟩,trivial⟩ trivial⟩
  ·intro b38 hb
   subst hb
   refine q8<|q8<|q6<|q0 rfl rfl<|q9 (.d (.bool (decide (p1 < (-1000000))))) rfl rfl ?_
   obtain ⟨c55,h56,h0⟩:=bindE h0
   refine qt 4 (fun A st=>∃ (j57 j58 j59 : V),st = A [(39,.d (.bool c55)),(38,j59),(37,j58),(36,j57)]) ?_ ?_
   ·refine qz rfl rfl h56 (fun h56=>?_) (fun h56=>?_)
    ·refine qc rfl<|qc rfl<|q9 (.d (.bool true)) rfl rfl<|q7 ?_
     obtain rfl:=someE h56
     exact ⟨_,_,_,rfl⟩
    ·refine q0 rfl rfl<|q9 (.d (.bool (decide (p1 > 1000000)))) rfl rfl<|q9 (.d (.bool (decide (p1 > 1000000)))) rfl rfl<|q7 ?_
     obtain rfl:=someE h56
     exact ⟨_,_,_,rfl⟩
   ·rintro _ ⟨j57,j58,j59,rfl⟩
    refine q7 ?_
    refine qd rfl h0 (fun _ h0=>?_) (fun _ h0=>?_)
    ·refine q8<|q6<|qa rfl rfl<|qa rfl rfl<|q7<|qm ?_
     obtain rfl:=someE h0
     exact finD (.inr rfl) (v:=.d (.tup [.nilsl,.int .i64 2])) rfl rfl (q55 (.cons (.nil _) (.cons (.refl _) .nil)))
    ·refine qg<|q8<|q8<|q6<|qa rfl rfl<|q7 ?_
     obtain ⟨m123,h124,h0⟩:=bindE h0
     refine qn (fun b125=>.inl b125 = m123) (fun (b125 : Unit)=>⟨[(0,.d (.sl 2 (p0.map qw))),(1,.d (.int .i64 p1))],[],0⟩) (by simp) ?_ ?_
     ·refine qo (q5u p0) (fun (a122 : Int)=>⟨[(0,.d (.sl 2 (p0.map qw))),(1,.d (.int .i64 p1)),(7,.d (.int .i64 a122))],[],0⟩) 0 m123 h124 (wkE [] [] [] rfl ⟨⟨_,rfl,.d (.refl _)⟩,⟨_,rfl,.d (.refl _)⟩,⟨_,rfl,.d (.refl _)⟩,trivial⟩ trivial) ?_
      intro a122 y120 h121
      unfold q5u at h121
      refine q8<|q8<|q6<|q0 rfl rfl<|q0 rfl rfl<|q1b rfl rfl rfl rfl<|q9 (.d (.bool (decide (a122 < (p0.length : Int))))) rfl rfl<|q7 ?_
      refine qd rfl h121 (fun _ h121=>?_) (fun _ h121=>?_)
      ·refine qg<|q8<|ql<|q8<|q6<|q0 rfl rfl<|q0 rfl rfl ?_
       obtain ⟨v141,h142,h121⟩:=bindE h121
       refine q10 (enc:=qw) h142 rfl rfl rfl rfl rfl rfl<|q9 (.dref [.sl 4 (v141.Region.map qb),.int .i64 v141.Height] 1) rfl rfl<|q9 (.d (.int .i64 v141.Height)) rfl rfl<|q9 (.d (.bool (decide (v141.Height < 1)))) rfl rfl ?_
       obtain ⟨c145,h146,h121⟩:=bindE h121
       refine qt 8 (fun A st=>∃ (j147 j148 j149 j150 j151 j152 j153 : V),st = A [(59,.d (.bool c145)),(58,j153),(57,j152),(56,j151),(55,j150),(54,j149),(53,j148),(52,j147)]) ?_ ?_
       ·refine qz rfl rfl h146 (fun h146=>?_) (fun h146=>?_)
        ·refine qc rfl<|qc rfl<|qc rfl<|qc rfl<|qc rfl<|qc rfl<|q9 (.d (.bool true)) rfl rfl<|q7 ?_
         obtain rfl:=someE h146
         exact ⟨_,_,_,_,_,_,_,rfl⟩
        ·refine q0 rfl rfl<|q0 rfl rfl ?_
         obtain ⟨v154,h155,h146⟩:=bindE h146
         refine q10 (enc:=qw) h155 rfl rfl rfl rfl rfl rfl<|q9 (.dref [.sl 4 (v154.Region.map qb),.int .i64 v154.Height] 1) rfl rfl<|q9 (.d (.int .i64 v154.Height)) rfl rfl<|q9 (.d (.bool (decide (v154.Height > 1000000)))) rfl rfl<|q9 (.d (.bool (decide (v154.Height > 1000000)))) rfl rfl<|q7 ?_
         obtain rfl:=someE h146
         exact ⟨_,_,_,_,_,_,_,rfl⟩
       ·rintro _ ⟨j147,j148,j149,j150,j151,j152,j153,rfl⟩
        refine q7 ?_
        refine qd rfl h121 (fun _ h121=>?_) (fun _ h121=>?_)
        ·refine q8<|q6<|qa rfl rfl<|qa rfl rfl<|q7<|qm ?_
         refine ⟨_,(Option.some.inj h121).symm,fun hm=>?_⟩
         subst hm
         obtain rfl:=someE h0
         exact finD (.inr rfl) (v:=.d (.tup [.nilsl,.int .i64 2])) rfl rfl (q55 (.cons (.nil _) (.cons (.refl _) .nil)))
        ·refine qg<|qf<|qv<|q6<|q0 rfl rfl<|q9 (.d (.int .i64 (w64 (a122 + 1)))) rfl rfl<|qa rfl rfl<|q7<|qf ?_
         exact ⟨_,(Option.some.inj h121).symm,wkE [] [] [] rfl ⟨⟨_,rfl,.d (.refl _)⟩,⟨_,rfl,.d (.refl _)⟩,⟨_,rfl,.d (.refl _)⟩,trivial⟩ trivial⟩
      ·refine qp ?_
       refine ⟨_,(Option.some.inj h121).symm,fun hm=>?_⟩
       subst hm
       exact ⟨_,rfl,wkE [] [] [] rfl ⟨⟨_,rfl,.d (.refl _)⟩,⟨_,rfl,.d (.refl _)⟩,trivial⟩ trivial⟩
     ·intro b125 hb
      subst hb
      refine q8<|q6<|qa rfl rfl<|q7<|q8<|q8<|q6<|qa rfl rfl<|q7 ?_
      obtain ⟨m200,h201,h0⟩:=bindE h0
      refine qn (fun b202=>.inl b202 = m200) (fun (b202 : List api_Box)=>⟨[(8,.hs 0 6 0 b202.length)],[(0,.dat 6 (b202.map qi))],1⟩) (by simp) ?_ ?_
      ·refine qo (q4t p0) (fun (a199 : Int × Int × List api_Box)=>⟨[(0,.d (.sl 2 (p0.map qw))),(1,.d (.int .i64 a199.1)),(8,.hs 0 6 0 a199.2.2.length),(9,.d (.int .i64 a199.2.1))],[(0,.dat 6 (a199.2.2.map qi))],1⟩) (p1,0,[]) m200 h201 (wkE [] [] [0] rfl ⟨⟨_,rfl,.d (.refl _)⟩,⟨_,rfl,.d (.refl _)⟩,⟨_,rfl,.nil (by decide) (ltd rfl)⟩,⟨_,rfl,.d (.refl _)⟩,trivial⟩ ⟨⟨ltd rfl,.inl ⟨by decide,_,by decide,rfl⟩⟩,trivial⟩) ?_
       intro a199 y197 h198
       unfold q4t at h198
       refine q8<|q8<|q6<|q0 rfl rfl<|q0 rfl rfl<|q1b rfl rfl rfl rfl<|q9 (.d (.bool (decide (a199.2.1 < (p0.length : Int))))) rfl rfl<|q7 ?_
       refine qd rfl h198 (fun _ h198=>?_) (fun _ h198=>?_)
       ·refine qg<|q8<|ql<|q8<|q8<|q6<|q0 rfl rfl<|q0 rfl rfl<|q0 rfl rfl ?_
        obtain ⟨v215,h216,h198⟩:=bindE h198
        refine q10 (enc:=qw) h216 rfl rfl rfl rfl rfl rfl<|q9 (.dref [.sl 4 (v215.Region.map qb),.int .i64 v215.Height] 1) rfl rfl<|q9 (.d (.int .i64 v215.Height)) rfl rfl<|q9 (.d (.int .i64 (w64 (a199.1 + v215.Height)))) rfl rfl<|q9 (.d (.bool (decide ((w64 (a199.1 + v215.Height)) > 1000000)))) rfl rfl<|q7 ?_
        refine qd rfl h198 (fun _ h198=>?_) (fun _ h198=>?_)
        ·refine q8<|q6<|qa rfl rfl<|qa rfl rfl<|q7<|qm ?_
         refine ⟨_,(Option.some.inj h198).symm,fun hm=>?_⟩
         subst hm
         obtain rfl:=someE h0
         exact finD (.inr rfl) (v:=.d (.tup [.nilsl,.int .i64 16])) rfl rfl (q55 (.cons (.nil _) (.cons (.refl _) .nil)))
        ·refine qg<|q8<|qk [(some [],[]),(some [0],[0,1]),(some [],[]),(some [],[]),(some [],[]),(some [],[]),(some [],[]),(some [],[]),(some [],[]),(some [],[]),(some [],[]),(some [],[]),(some [],[]),(some [],[]),(some [],[]),(some [],[]),(some [],[])] (by kernel_rfl)<|q0 rfl rfl<|q0 rfl rfl<|q0 rfl rfl ?_
         obtain ⟨v217,h218,h198⟩:=bindE h198
         refine q10 (enc:=qw) h218 rfl rfl rfl rfl rfl rfl<|q9 (.dref [.sl 4 (v217.Region.map qb),.int .i64 v217.Height] 0) rfl rfl<|q9 (.d (.sl 4 (v217.Region.map qb))) rfl rfl<|q0 rfl rfl<|q0 rfl rfl<|q0 rfl rfl<|q0 rfl rfl ?_
         obtain ⟨v219,h220,h198⟩:=bindE h198
         refine q10 (enc:=qw) h220 rfl rfl rfl rfl rfl rfl<|q9 (.dref [.sl 4 (v219.Region.map qb),.int .i64 v219.Height] 1) rfl rfl<|q9 (.d (.int .i64 v219.Height)) rfl rfl<|q9 (.d (.int .i64 (w64 (a199.1 + v219.Height)))) rfl rfl ?_
         obtain ⟨r221,h222,h198⟩:=bindE h198
         refine q11 [.d (.sl 4 (v217.Region.map qb)),.d (.int .i64 a199.1),.d (.int .i64 (w64 (a199.1 + v219.Height)))] (qf3 v217.Region a199.1 (w64 (a199.1 + v219.Height)) r221 h222) rfl rfl rfl (.inl rfl) ?_
         obtain ⟨z223,h224,h198⟩:=bindE h198
         refine q5o (xs:=a199.2.2) (ys:=r221) (enc:=qi) (.d (.sl 6 (r221.map qi))) h224 rfl rfl rfl rfl rfl rfl rfl contsDsl rfl rfl rfl rfl<|qa rfl rfl<|q7<|q6<|q0 rfl rfl<|q0 rfl rfl<|q0 rfl rfl ?_
         obtain ⟨v225,h226,h198⟩:=bindE h198
         refine q10 (enc:=qw) h226 rfl rfl rfl rfl rfl rfl<|q9 (.dref [.sl 4 (v225.Region.map qb),.int .i64 v225.Height] 1) rfl rfl<|q9 (.d (.int .i64 v225.Height)) rfl rfl<|q9 (.d (.int .i64 (w64 (a199.1 + v225.Height)))) rfl rfl<|qa rfl rfl<|q7<|qf<|qv<|q6<|q0 rfl rfl<|q9 (.d (.int .i64 (w64 (a199.2.1 + 1)))) rfl rfl<|qa rfl rfl<|q7<|qf ?_
         exact ⟨_,(Option.some.inj h198).symm,wkE [(0,1)] [] [] rfl ⟨⟨_,rfl,.d (.refl _)⟩,⟨_,rfl,.d (.refl _)⟩,⟨_,rfl,.hs rfl (by decide) (ltd rfl)⟩,⟨_,rfl,.d (.refl _)⟩,trivial⟩ ⟨⟨ltd rfl,.inr ⟨by decide,_,rfl,.dat _ _⟩⟩,trivial⟩⟩
       ·refine qp ?_
        refine ⟨_,(Option.some.inj h198).symm,fun hm=>?_⟩
        subst hm
        exact ⟨_,rfl,wkE [(0,0)] [] [] rfl ⟨⟨_,rfl,.hs rfl (by decide) (ltd rfl)⟩,trivial⟩ ⟨⟨ltd rfl,.inr ⟨by decide,_,rfl,.dat _ _⟩⟩,trivial⟩⟩
      ·intro b202 hb
       subst hb
       refine q8 ?_
       refine q89 (st':=⟨[(8,.d (.sl 6 (b202.map qi)))],[],0⟩) (wkE [] [0] [] rfl ⟨⟨_,rfl,qcj rfl rfl (by decide)⟩,trivial⟩ trivial) ?_ (by simp)
       refine q6<|q0 rfl rfl ?_
       obtain ⟨r227,h228,h0⟩:=bindE h0
       refine q11 [.d (.int .i64 2),.d (.sl 6 (b202.map qi)),.d (.nilsl)] (q9w (.cons (.refl _) (.cons (.refl _) (.cons (.nil _) .nil))) (qjy 2 b202 [] r227 h228)) rfl rfl rfl (.inl rfl)<|q0 rfl rfl<|q9 (.d (.sl 6 (r227.1.map qi))) rfl rfl<|q9 (.d (.bool r227.2)) rfl rfl<|qa rfl rfl<|qa rfl rfl<|q7<|q8<|q8<|q6<|q0 rfl rfl<|q1b rfl rfl rfl rfl<|q9 (.d (.bool (decide ((r227.1.length : Int) > 400)))) rfl rfl<|q7 ?_
       refine qd rfl h0 (fun _ h0=>?_) (fun _ h0=>?_)
       ·refine q8<|q6<|qa rfl rfl<|qa rfl rfl<|q7<|qm ?_
        obtain rfl:=someE h0
        exact finD (.inr rfl) (v:=.d (.tup [.nilsl,.int .i64 4])) rfl rfl (q55 (.cons (.nil _) (.cons (.refl _) .nil)))
       ·refine qg<|q8<|q6<|q0 rfl rfl<|qa rfl rfl<|qa rfl rfl<|q7<|qm ?_
        obtain rfl:=someE h0
        exact finD (.inr rfl) (v:=.d (.tup [.sl 6 (r227.1.map qi),.int .i64 0])) rfl rfl (.refl _)
theorem qbl (p0 : List api_Box) (p1 : List api_Box) (r : Bool) (h0 : q7g p0 p1 = some r) : Pure Try.prog tab 17 [.sl 6 (p0.map qi),.sl 6 (p1.map qi)] (.bool r):=by
 unfold q7g at h0
 refine qu Try.func17 rfl (by kernel_rfl) (by kernel_rfl) rfl<|q8<|q6<|qa rfl rfl<|q7<|q8<|q8<|q6<|q0 rfl rfl<|q1b rfl rfl rfl rfl<|q0 rfl rfl<|q1b rfl rfl rfl rfl<|q9 (.d (.bool ((p0.length : Int) != (p1.length : Int)))) rfl rfl<|q7 ?_
 refine qd rfl h0 (fun _ h0=>?_) (fun _ h0=>?_)
 ·refine q8<|q6<|qa rfl rfl<|q7<|qm ?_
  obtain rfl:=someE h0
  exact finD (.inr rfl) (v:=.d (.bool false)) rfl rfl (.refl _)
 ·refine qg<|q8<|q8<|q6<|qa rfl rfl<|q7 ?_
  obtain ⟨m20,h21,h0⟩:=bindE h0
  refine qn (fun b22=>.inl b22 = m20) (fun (b22 : Unit)=>⟨[],[],0⟩) (by simp) ?_ ?_
  ·refine qo (q7b p0 p1) (fun (a19 : Int)=>⟨[(0,.d (.sl 6 (p0.map qi))),(1,.d (.sl 6 (p1.map qi))),(5,.d (.int .i64 a19))],[],0⟩) 0 m20 h21 (wkE [] [] [] rfl ⟨⟨_,rfl,.d (.refl _)⟩,⟨_,rfl,.d (.refl _)⟩,⟨_,rfl,.d (.refl _)⟩,trivial⟩ trivial) ?_
   intro a19 y17 h18
   unfold q7b at h18
   refine q8<|q8<|q6<|q0 rfl rfl<|q0 rfl rfl<|q1b rfl rfl rfl rfl<|q9 (.d (.bool (decide (a19 < (p0.length : Int))))) rfl rfl<|q7 ?_
   refine qd rfl h18 (fun _ h18=>?_) (fun _ h18=>?_)
   ·refine qg<|q8<|ql<|q8<|qk [(some [],[]),(some [],[]),(some [],[]),(some [],[]),(some [],[]),(some [],[]),(some [],[]),(some [],[]),(some [],[])] (by kernel_rfl)<|q0 rfl rfl<|q0 rfl rfl ?_
    obtain ⟨v27,h28,h18⟩:=bindE h18
    refine q10 (enc:=qi) h28 rfl rfl rfl rfl rfl rfl<|q9 (.d (.agg [.int .i64 v27.Lo.X,.int .i64 v27.Lo.Y,.int .i64 v27.Lo.Z,.int .i64 v27.Hi.X,.int .i64 v27.Hi.Y,.int .i64 v27.Hi.Z])) rfl rfl<|q0 rfl rfl<|q0 rfl rfl ?_
    obtain ⟨v29,h30,h18⟩:=bindE h18
    refine q10 (enc:=qi) h30 rfl rfl rfl rfl rfl rfl<|q9 (.d (.agg [.int .i64 v29.Lo.X,.int .i64 v29.Lo.Y,.int .i64 v29.Lo.Z,.int .i64 v29.Hi.X,.int .i64 v29.Hi.Y,.int .i64 v29.Hi.Z])) rfl rfl<|q9 (.d (.bool (!((v27.Lo.X == v29.Lo.X) && ((v27.Lo.Y == v29.Lo.Y) && ((v27.Lo.Z == v29.Lo.Z) && ((v27.Hi.X == v29.Hi.X) && ((v27.Hi.Y == v29.Hi.Y) && ((v27.Hi.Z == v29.Hi.Z) && true))))))))) rfl rfl<|q7 ?_
    refine qd rfl h18 (fun _ h18=>?_) (fun _ h18=>?_)
    ·refine q8<|q6<|qa rfl rfl<|q7<|qm ?_
     refine ⟨_,(Option.some.inj h18).symm,fun hm=>?_⟩
     subst hm
     obtain rfl:=someE h0
     exact finD (.inr rfl) (v:=.d (.bool false)) rfl rfl (.refl _)
    ·refine qg<|qf<|qv<|q6<|q0 rfl rfl<|q9 (.d (.int .i64 (w64 (a19 + 1)))) rfl rfl<|qa rfl rfl<|q7<|qf ?_
     exact ⟨_,(Option.some.inj h18).symm,wkE [] [] [] rfl ⟨⟨_,rfl,.d (.refl _)⟩,⟨_,rfl,.d (.refl _)⟩,⟨_,rfl,.d (.refl _)⟩,trivial⟩ trivial⟩
   ·refine qp ?_
    refine ⟨_,(Option.some.inj h18).symm,fun hm=>?_⟩
    subst hm
    exact ⟨_,rfl,wkE [] [] [] rfl trivial trivial⟩
  ·intro b22 hb
   subst hb
   refine q8<|q6<|qa rfl rfl<|q7<|qm ?_
   obtain rfl:=someE h0
   exact finD (.inr rfl) (v:=.d (.bool true)) rfl rfl (.refl _)
theorem qf4 (p0 : List api_Rect) (p1 : Int) (p2 : Int) (p3 : List qs) (r : Bool) (h0 : q7s p0 p1 p2 p3 = some r) : Pure Try.prog tab 4 [.sl 4 (p0.map qb),.int .i64 p1,.int .i64 p2,.sl 2 (p3.map qw)] (.bool r):=by
 unfold q7s at h0
 refine qu Try.func4 rfl (by kernel_rfl) (by kernel_rfl) rfl<|q8<|q6<|qa rfl rfl<|q7<|q8<|q8<|q6<|q0 rfl rfl ?_
 obtain ⟨r1,h2,h0⟩:=bindE h0
 refine q11 [.d (.sl 4 (p0.map qb))] (qlp p0 r1 h2) rfl rfl rfl (.inl rfl) ?_
 obtain ⟨c5,h6,h0⟩:=bindE h0
 refine qt 4 (fun A st=>∃ (j7 j8 j9 : V),st = A [(22,.d (.bool c5)),(21,j9),(20,j8),(19,j7)]) ?_ ?_
 ·refine qz rfl rfl h6 (fun h6=>?_) (fun h6=>?_)
  ·refine qc rfl<|qc rfl<|q9 (.d (.bool true)) rfl rfl<|q7 ?_
   obtain rfl:=someE h6
   exact ⟨_,_,_,rfl⟩
  ·refine q0 rfl rfl ?_
   obtain ⟨r10,h11,h6⟩:=bindE h6
   refine q11 [.d (.sl 2 (p3.map qw))] (qlq p3 r10 h11) rfl rfl rfl (.inl rfl)<|q9 (.d (.bool r10)) rfl rfl<|q7 ?_
   obtain rfl:=someE h6
   exact ⟨_,_,_,rfl⟩
 ·rintro _ ⟨j7,j8,j9,rfl⟩
  refine q7 ?_
  refine qd rfl h0 (fun _ h0=>?_) (fun _ h0=>?_)
  ·refine q8<|q6<|qa rfl rfl<|q7<|qm ?_
   obtain rfl:=someE h0
   exact finD (.inr rfl) (v:=.d (.bool true)) rfl rfl (.refl _)
  ·refine qg<|q8<|q6<|q0 rfl rfl<|q0 rfl rfl<|q0 rfl rfl ?_
   obtain ⟨r12,h13,h0⟩:=bindE h0
   refine q11 [.d (.sl 4 (p0.map qb)),.d (.int .i64 p1),.d (.int .i64 p2)] (qil p0 p1 p2 r12 h13) rfl rfl rfl (.inl rfl)<|q0 rfl rfl<|q9 (.d (.sl 6 (r12.1.map qi))) rfl rfl<|q9 (.d (.int .i64 r12.2)) rfl rfl<|qa rfl rfl<|qa rfl rfl<|q7<|q8<|q6<|q0 rfl rfl<|q0 rfl rfl<|q0 rfl rfl ?_
   obtain ⟨r14,h15,h0⟩:=bindE h0
   refine q11 [.d (.sl 4 (p0.map qb)),.d (.int .i64 p1),.d (.int .i64 p2)] (qlw p0 p1 p2 r14 h15) rfl rfl rfl (.inl rfl)<|q0 rfl rfl<|q9 (.d (.sl 6 (r14.1.map qi))) rfl rfl<|q9 (.d (.int .i64 r14.2)) rfl rfl<|qa rfl rfl<|qa rfl rfl<|q7<|q8<|q6<|q0 rfl rfl<|q0 rfl rfl ?_
   obtain ⟨r16,h17,h0⟩:=bindE h0
   refine q11 [.d (.sl 2 (p3.map qw)),.d (.int .i64 p1)] (qim p3 p1 r16 h17) rfl rfl rfl (.inl rfl)<|q0 rfl rfl<|q9 (.d (.sl 6 (r16.1.map qi))) rfl rfl<|q9 (.d (.int .i64 r16.2)) rfl rfl<|qa rfl rfl<|qa rfl rfl<|q7<|q8<|q6<|q0 rfl rfl<|q0 rfl rfl ?_
   obtain ⟨r18,h19,h0⟩:=bindE h0
   refine q11 [.d (.sl 2 (p3.map qw)),.d (.int .i64 p1)] (qlx p3 p1 r18 h19) rfl rfl rfl (.inl rfl)<|q0 rfl rfl<|q9 (.d (.sl 6 (r18.1.map qi))) rfl rfl<|q9 (.d (.int .i64 r18.2)) rfl rfl<|qa rfl rfl<|qa rfl rfl<|q7<|q8<|q6<|q0 rfl rfl<|q0 rfl rfl ?_
   obtain ⟨r20,h21,h0⟩:=bindE h0
   refine q11 [.d (.sl 6 (r12.1.map qi)),.d (.sl 6 (r14.1.map qi))] (qbl r12.1 r14.1 r20 h21) rfl rfl rfl (.inl rfl) ?_
   obtain ⟨c22,h23,h0⟩:=bindE h0
   refine qt 5 (fun A st=>∃ (j24 j25 j26 j27 : V),st = A [(56,.d (.bool c22)),(55,j27),(54,j26),(53,j25),(52,j24)]) ?_ ?_
   ·refine qz rfl rfl h23 (fun h23=>?_) (fun h23=>?_)
    ·refine q0 rfl rfl<|q0 rfl rfl<|q9 (.d (.bool (r12.2 == r14.2))) rfl rfl<|q9 (.d (.bool (r12.2 == r14.2))) rfl rfl<|q7 ?_
     obtain rfl:=someE h23
     exact ⟨_,_,_,_,rfl⟩
    ·refine qc rfl<|qc rfl<|qc rfl<|q9 (.d (.bool false)) rfl rfl<|q7 ?_
     obtain rfl:=someE h23
     exact ⟨_,_,_,_,rfl⟩
   ·rintro _ ⟨j24,j25,j26,j27,rfl⟩
    obtain ⟨c30,h31,h0⟩:=bindE h0
    refine qt 5 (fun A st=>∃ (j32 j33 j34 j35 : V),st = A [(61,.d (.bool c30)),(60,j35),(59,j34),(58,j33),(57,j32)]) ?_ ?_
    ·refine qz rfl rfl h31 (fun h31=>?_) (fun h31=>?_)
     ·refine q0 rfl rfl<|q0 rfl rfl ?_
      obtain ⟨r36,h37,h31⟩:=bindE h31
      refine q11 [.d (.sl 6 (r16.1.map qi)),.d (.sl 6 (r18.1.map qi))] (qbl r16.1 r18.1 r36 h37) rfl rfl rfl (.inl rfl)<|q9 (.d (.bool r36)) rfl rfl<|q7 ?_
      obtain rfl:=someE h31
      exact ⟨_,_,_,_,rfl⟩
     ·refine qc rfl<|qc rfl<|qc rfl<|q9 (.d (.bool false)) rfl rfl<|q7 ?_
      obtain rfl:=someE h31
      exact ⟨_,_,_,_,rfl⟩
    ·rintro _ ⟨j32,j33,j34,j35,rfl⟩
     obtain ⟨c38,h39,h0⟩:=bindE h0
     refine qt 5 (fun A st=>∃ (j40 j41 j42 j43 : V),st = A [(66,.d (.bool c38)),(65,j43),(64,j42),(63,j41),(62,j40)]) ?_ ?_
     ·refine qz rfl rfl h39 (fun h39=>?_) (fun h39=>?_)
      ·refine q0 rfl rfl<|q0 rfl rfl<|q9 (.d (.bool (r16.2 == r18.2))) rfl rfl<|q9 (.d (.bool (r16.2 == r18.2))) rfl rfl<|q7 ?_
       obtain rfl:=someE h39
       exact ⟨_,_,_,_,rfl⟩
      ·refine qc rfl<|qc rfl<|qc rfl<|q9 (.d (.bool false)) rfl rfl<|q7 ?_
       obtain rfl:=someE h39
       exact ⟨_,_,_,_,rfl⟩
     ·rintro _ ⟨j40,j41,j42,j43,rfl⟩
      refine qa rfl rfl<|q7<|qm ?_
      obtain rfl:=someE h0
      exact finD (.inr rfl) (v:=.d (.bool c38)) rfl rfl (.refl _)
end Go.Proofs.Ytlchefooafpdlaa
