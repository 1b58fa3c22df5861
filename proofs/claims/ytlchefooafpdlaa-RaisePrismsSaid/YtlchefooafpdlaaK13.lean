/- W_RaisePrismsa -/
import Derived.Test.YtlchefooafpdlaaK12
namespace Go.Proofs.Ytlchefooafpdlaa
open Go Go.Am Go.Sh
set_option maxHeartbeats 8000000
set_option maxRecDepth 100000
theorem qlp (p0 : List api_Rect) (r : Bool) (h0 : qah p0 = some r) : Pure Try.prog tab 11 [.sl 4 (p0.map qb)] (.bool r):=by
 unfold qah at h0
 refine qu Try.func11 rfl (by kernel_rfl) (by kernel_rfl) rfl<|q8<|q6<|qa rfl rfl<|q7<|q8<|q6<|q0 rfl rfl<|q1b rfl rfl rfl rfl<|q9 (.d (.bool (decide ((p0.length : Int) > 60)))) rfl rfl ?_
 obtain ⟨c1,h2,h0⟩:=bindE h0
 refine qt 5 (fun A st=>∃ (j3 j4 j5 j6 : V),st = A [(10,.d (.bool c1)),(9,j6),(8,j5),(7,j4),(6,j3)]) ?_ ?_
 ·refine qz rfl rfl h2 (fun h2=>?_) (fun h2=>?_)
  ·refine q0 rfl rfl<|q1b rfl rfl rfl rfl<|q9 (.d (.bool (decide ((p0.length : Int)≤400)))) rfl rfl<|q9 (.d (.bool (decide ((p0.length : Int)≤400)))) rfl rfl<|q7 ?_
   obtain rfl:=someE h2
   exact ⟨_,_,_,_,rfl⟩
  ·refine qc rfl<|qc rfl<|qc rfl<|q9 (.d (.bool false)) rfl rfl<|q7 ?_
   obtain rfl:=someE h2
   exact ⟨_,_,_,_,rfl⟩
 ·rintro _ ⟨j3,j4,j5,j6,rfl⟩
  obtain ⟨c7,h8,h0⟩:=bindE h0
  refine qt 5 (fun A st=>∃ (j9 j10 j11 j12 : V),st = A [(15,.d (.bool c7)),(14,j12),(13,j11),(12,j10),(11,j9)]) ?_ ?_
  ·refine qz rfl rfl h8 (fun h8=>?_) (fun h8=>?_)
   ·refine qc rfl<|qc rfl<|qc rfl<|q9 (.d (.bool true)) rfl rfl<|q7 ?_
    obtain rfl:=someE h8
    exact ⟨_,_,_,_,rfl⟩
   ·refine q0 rfl rfl<|q1b rfl rfl rfl rfl<|q9 (.d (.bool (decide ((p0.length : Int) > 420)))) rfl rfl<|q9 (.d (.bool (decide ((p0.length : Int) > 420)))) rfl rfl<|q7 ?_
    obtain rfl:=someE h8
    exact ⟨_,_,_,_,rfl⟩
  ·rintro _ ⟨j9,j10,j11,j12,rfl⟩
   refine qa rfl rfl<|q7<|qm ?_
   obtain rfl:=someE h0
   exact finD (.inr rfl) (v:=.d (.bool c7)) rfl rfl (.refl _)
theorem qlq (p0 : List qs) (r : Bool) (h0 : qai p0 = some r) : Pure Try.prog tab 12 [.sl 2 (p0.map qw)] (.bool r):=by
 unfold qai at h0
 refine qu Try.func12 rfl (by kernel_rfl) (by kernel_rfl) rfl<|q8<|q6<|qa rfl rfl<|q7<|q8<|q8<|q6<|qa rfl rfl<|q7 ?_
 obtain ⟨m12,h13,h0⟩:=bindE h0
 refine qn (fun b14=>.inl b14 = m12) (fun (b14 : Unit)=>⟨[(0,.d (.sl 2 (p0.map qw)))],[],0⟩) (by simp) ?_ ?_
 ·refine qo (q5r p0) (fun (a11 : Int)=>⟨[(0,.d (.sl 2 (p0.map qw))),(3,.d (.int .i64 a11))],[],0⟩) 0 m12 h13 (wkE [] [] [] rfl ⟨⟨_,rfl,.d (.refl _)⟩,⟨_,rfl,.d (.refl _)⟩,trivial⟩ trivial) ?_
  intro a11 y9 h10
  unfold q5r at h10
  refine q8<|q8<|q6<|q0 rfl rfl<|q0 rfl rfl<|q1b rfl rfl rfl rfl<|q9 (.d (.bool (decide (a11 < (p0.length : Int))))) rfl rfl<|q7 ?_
  refine qd rfl h10 (fun _ h10=>?_) (fun _ h10=>?_)
  ·refine qg<|q8<|ql<|q8<|q6<|q0 rfl rfl<|q0 rfl rfl ?_
   obtain ⟨v17,h18,h10⟩:=bindE h10
   refine q10 (enc:=qw) h18 rfl rfl rfl rfl rfl rfl<|q9 (.dref [.sl 4 (v17.Region.map qb),.int .i64 v17.Height] 0) rfl rfl<|q9 (.d (.sl 4 (v17.Region.map qb))) rfl rfl<|q1b rfl rfl rfl rfl<|q9 (.d (.bool (decide ((v17.Region.length : Int) > 12)))) rfl rfl<|q7 ?_
   refine qd rfl h10 (fun _ h10=>?_) (fun _ h10=>?_)
   ·refine q8<|q6<|qa rfl rfl<|q7<|qm ?_
    refine ⟨_,(Option.some.inj h10).symm,fun hm=>?_⟩
    subst hm
    obtain rfl:=someE h0
    exact finD (.inr rfl) (v:=.d (.bool true)) rfl rfl (.refl _)
   ·refine qg<|qf<|qv<|q6<|q0 rfl rfl<|q9 (.d (.int .i64 (w64 (a11 + 1)))) rfl rfl<|qa rfl rfl<|q7<|qf ?_
    exact ⟨_,(Option.some.inj h10).symm,wkE [] [] [] rfl ⟨⟨_,rfl,.d (.refl _)⟩,⟨_,rfl,.d (.refl _)⟩,trivial⟩ trivial⟩
  ·refine qp ?_
   refine ⟨_,(Option.some.inj h10).symm,fun hm=>?_⟩
   subst hm
   exact ⟨_,rfl,wkE [] [] [] rfl ⟨⟨_,rfl,.d (.refl _)⟩,trivial⟩ trivial⟩
 ·intro b14 hb
  subst hb
  refine q8<|q6<|q0 rfl rfl<|q1b rfl rfl rfl rfl<|q9 (.d (.bool (decide ((p0.length : Int) > 12)))) rfl rfl ?_
  obtain ⟨c19,h20,h0⟩:=bindE h0
  refine qt 5 (fun A st=>∃ (j21 j22 j23 j24 : V),st = A [(24,.d (.bool c19)),(23,j24),(22,j23),(21,j22),(20,j21)]) ?_ ?_
  ·refine qz rfl rfl h20 (fun h20=>?_) (fun h20=>?_)
   ·refine q0 rfl rfl<|q1b rfl rfl rfl rfl<|q9 (.d (.bool (decide ((p0.length : Int)≤100)))) rfl rfl<|q9 (.d (.bool (decide ((p0.length : Int)≤100)))) rfl rfl<|q7 ?_
    obtain rfl:=someE h20
    exact ⟨_,_,_,_,rfl⟩
   ·refine qc rfl<|qc rfl<|qc rfl<|q9 (.d (.bool false)) rfl rfl<|q7 ?_
    obtain rfl:=someE h20
    exact ⟨_,_,_,_,rfl⟩
  ·rintro _ ⟨j21,j22,j23,j24,rfl⟩
   obtain ⟨c25,h26,h0⟩:=bindE h0
   refine qt 5 (fun A st=>∃ (j27 j28 j29 j30 : V),st = A [(29,.d (.bool c25)),(28,j30),(27,j29),(26,j28),(25,j27)]) ?_ ?_
   ·refine qz rfl rfl h26 (fun h26=>?_) (fun h26=>?_)
    ·refine qc rfl<|qc rfl<|qc rfl<|q9 (.d (.bool true)) rfl rfl<|q7 ?_
     obtain rfl:=someE h26
     exact ⟨_,_,_,_,rfl⟩
    ·refine q0 rfl rfl<|q1b rfl rfl rfl rfl<|q9 (.d (.bool (decide ((p0.length : Int) > 120)))) rfl rfl<|q9 (.d (.bool (decide ((p0.length : Int) > 120)))) rfl rfl<|q7 ?_
     obtain rfl:=someE h26
     exact ⟨_,_,_,_,rfl⟩
   ·rintro _ ⟨j27,j28,j29,j30,rfl⟩
    refine qa rfl rfl<|q7<|qm ?_
    obtain rfl:=someE h0
    exact finD (.inr rfl) (v:=.d (.bool c25)) rfl rfl (.refl _)
theorem q7j (p0 : List api_Rect) (p1 : api_Rect→Option Bool) (p1F : FuncId) (p1C : List DV) (p1Ok : ∀ (x0 : api_Rect) (r : Bool),p1 x0 = some r→Pure Try.prog tab p1F ([.agg [.int .i64 x0.X0,.int .i64 x0.Y0,.int .i64 x0.X1,.int .i64 x0.Y1]] ++ p1C) (.bool r)) (r : Int) (h0 : q40 p0 p1 = some r) : Pure Try.prog tab 61 [.sl 4 (p0.map qb),.fn p1F p1C] (.int .i64 r):=by
 unfold q40 at h0
 refine qu Try.func61 rfl (by kernel_rfl) (by kernel_rfl) rfl<|q8<|q6<|qa rfl rfl<|q7<|q8<|q8<|q6<|q0 rfl rfl<|q1b rfl rfl rfl rfl<|q0 rfl rfl<|q7 ?_
 obtain ⟨m20,h21,h0⟩:=bindE h0
 refine qn (fun b22=>.inl b22 = m20) (fun (b22 : Unit)=>⟨[],[],0⟩) (by simp) ?_ ?_
 ·refine qo (q1k p0 p1) (fun (a19 : Int)=>⟨[(0,.d (.sl 4 (p0.map qb))),(1,.d (.fn p1F p1C)),(7,.d (.int .i64 (p0.length : Int))),(8,.d (.int .i64 a19))],[],0⟩) 0 m20 h21 (wkE [] [] [] rfl ⟨⟨_,rfl,.d (.refl _)⟩,⟨_,rfl,.d (.refl _)⟩,⟨_,rfl,.d (.refl _)⟩,⟨_,rfl,.d (.refl _)⟩,trivial⟩ trivial) ?_
  intro a19 y17 h18
  unfold q1k at h18
  refine q8<|q6<|q9 (.d (.bool (decide (a19 < (p0.length : Int))))) rfl rfl<|q7<|q8 ?_
  refine qd rfl h18 (fun _ h18=>?_) (fun _ h18=>?_)
  ·refine qg<|q8<|ql<|q8<|q6<|q0 rfl rfl<|qa rfl rfl<|q7<|q8<|q6<|q0 rfl rfl<|q0 rfl rfl<|q0 rfl rfl ?_
   obtain ⟨v27,h28,h18⟩:=bindE h18
   refine q10 (enc:=qb) h28 rfl rfl rfl rfl rfl rfl<|q9 (.d (.agg [.int .i64 v27.X0,.int .i64 v27.Y0,.int .i64 v27.X1,.int .i64 v27.Y1])) rfl rfl ?_
   obtain ⟨r29,h30,h18⟩:=bindE h18
   refine q6i [.d (.agg [.int .i64 v27.X0,.int .i64 v27.Y0,.int .i64 v27.X1,.int .i64 v27.Y1])] (p1Ok v27 r29 h30) rfl rfl rfl (.inl rfl)<|q7 ?_
   refine qd rfl h18 (fun _ h18=>?_) (fun _ h18=>?_)
   ·refine q8<|q6<|q0 rfl rfl<|qa rfl rfl<|q7<|qm ?_
    refine ⟨_,(Option.some.inj h18).symm,fun hm=>?_⟩
    subst hm
    obtain rfl:=someE h0
    exact finD (.inr rfl) (v:=.d (.int .i64 a19)) rfl rfl (.refl _)
   ·refine qg<|qf<|qv<|q6<|q9 (.d (.int .i64 (w64 (a19 + 1)))) rfl rfl<|q0 rfl rfl<|q7<|qf ?_
    exact ⟨_,(Option.some.inj h18).symm,wkE [] [] [] rfl ⟨⟨_,rfl,.d (.refl _)⟩,⟨_,rfl,.d (.refl _)⟩,⟨_,rfl,.d (.refl _)⟩,⟨_,rfl,.d (.refl _)⟩,trivial⟩ trivial⟩
  ·refine qp ?_
   refine ⟨_,(Option.some.inj h18).symm,fun hm=>?_⟩
   subst hm
   exact ⟨_,rfl,wkE [] [] [] rfl trivial trivial⟩
 ·intro b22 hb
  subst hb
  refine q8<|q6<|qa rfl rfl<|q7<|qm ?_
  obtain rfl:=someE h0
  exact finD (.inr rfl) (v:=.d (.int .i64 (-1))) rfl rfl (.refl _)
theorem q73 (p0 : List api_Rect) (p1 : api_Rect→Option Bool) (p1F : FuncId) (p1C : List DV) (p1Ok : ∀ (x0 : api_Rect) (r : Bool),p1 x0 = some r→Pure Try.prog tab p1F ([.agg [.int .i64 x0.X0,.int .i64 x0.Y0,.int .i64 x0.X1,.int .i64 x0.Y1]] ++ p1C) (.bool r)) (r : Bool) (h0 : q2r p0 p1 = some r) : Pure Try.prog tab 47 [.sl 4 (p0.map qb),.fn p1F p1C] (.bool r):=by
 unfold q2r at h0
 refine qu Try.func47 rfl (by kernel_rfl) (by kernel_rfl) rfl<|q8<|q6<|qa rfl rfl<|q7<|q8<|q6<|q0 rfl rfl<|q0 rfl rfl ?_
 obtain ⟨r1,h2,h0⟩:=bindE h0
 refine q11 [.d (.sl 4 (p0.map qb)),.d (.fn p1F p1C)] (q7j p0 p1 p1F p1C p1Ok r1 h2) rfl rfl rfl (.inl rfl)<|q9 (.d (.bool (decide (r1 ≥ 0)))) rfl rfl<|qa rfl rfl<|q7<|qm ?_
 obtain rfl:=someE h0
 exact finD (.inr rfl) (v:=.d (.bool (decide (r1 ≥ 0)))) rfl rfl (.refl _)
theorem q8i (p0 : Int) (r : Bool) (h0 : q6a p0 = some r) : Pure Try.prog tab 62 [.int .i64 p0] (.bool r):=by
 unfold q6a at h0
 refine qu Try.func62 rfl (by kernel_rfl) (by kernel_rfl) rfl<|q8<|q6<|qa rfl rfl<|q7<|q8<|q6<|q0 rfl rfl<|q9 (.d (.bool (decide (p0 ≥ (-1000000))))) rfl rfl ?_
 obtain ⟨c1,h2,h0⟩:=bindE h0
 refine qt 4 (fun A st=>∃ (j3 j4 j5 : V),st = A [(8,.d (.bool c1)),(7,j5),(6,j4),(5,j3)]) ?_ ?_
 ·refine qz rfl rfl h2 (fun h2=>?_) (fun h2=>?_)
  ·refine q0 rfl rfl<|q9 (.d (.bool (decide (p0≤1000000)))) rfl rfl<|q9 (.d (.bool (decide (p0≤1000000)))) rfl rfl<|q7 ?_
   obtain rfl:=someE h2
   exact ⟨_,_,_,rfl⟩
  ·refine qc rfl<|qc rfl<|q9 (.d (.bool false)) rfl rfl<|q7 ?_
   obtain rfl:=someE h2
   exact ⟨_,_,_,rfl⟩
 ·rintro _ ⟨j3,j4,j5,rfl⟩
  refine qa rfl rfl<|q7<|qm ?_
  obtain rfl:=someE h0
  exact finD (.inr rfl) (v:=.d (.bool c1)) rfl rfl (.refl _)
theorem qhx (p0 : api_Rect) (r : Bool) (h0 : q80 p0 = some r) : Pure Try.prog tab 49 [.agg [.int .i64 p0.X0,.int .i64 p0.Y0,.int .i64 p0.X1,.int .i64 p0.Y1]] (.bool r):=by
 unfold q80 at h0
 refine qu Try.func49 rfl (by kernel_rfl) (by kernel_rfl) rfl<|q8<|q6<|q3m (.ref 0 4 0 0) (.dat 4 [[.int .i64 p0.X0,.int .i64 p0.Y0,.int .i64 p0.X1,.int .i64 p0.Y1]]) rfl rfl<|qa rfl rfl<|q7<|q8<|q6<|q9 (.ref 0 4 0 0) rfl rfl<|q9 (.d (.int .i64 p0.X0)) rfl rfl<|q9 (.ref 0 4 0 2) rfl rfl<|q9 (.d (.int .i64 p0.X1)) rfl rfl<|q9 (.d (.bool (decide (p0.X0 < p0.X1)))) rfl rfl ?_
 obtain ⟨c1,h2,h0⟩:=bindE h0
 refine qt 7 (fun A st=>∃ (j3 j4 j5 j6 j7 j8 : V),st = A [(14,.d (.bool c1)),(13,j8),(12,j7),(11,j6),(10,j5),(9,j4),(8,j3)]) ?_ ?_
 ·refine qz rfl rfl h2 (fun h2=>?_) (fun h2=>?_)
  ·refine q9 (.ref 0 4 0 1) rfl rfl<|q9 (.d (.int .i64 p0.Y0)) rfl rfl<|q9 (.ref 0 4 0 3) rfl rfl<|q9 (.d (.int .i64 p0.Y1)) rfl rfl<|q9 (.d (.bool (decide (p0.Y0 < p0.Y1)))) rfl rfl<|q9 (.d (.bool (decide (p0.Y0 < p0.Y1)))) rfl rfl<|q7 ?_
   obtain rfl:=someE h2
   exact ⟨_,_,_,_,_,_,rfl⟩
  ·refine qc rfl<|qc rfl<|qc rfl<|qc rfl<|qc rfl<|q9 (.d (.bool false)) rfl rfl<|q7 ?_
   obtain rfl:=someE h2
   exact ⟨_,_,_,_,_,_,rfl⟩
 ·rintro _ ⟨j3,j4,j5,j6,j7,j8,rfl⟩
  obtain ⟨c11,h12,h0⟩:=bindE h0
  refine qt 5 (fun A st=>∃ (j13 j14 j15 j16 : V),st = A [(19,.d (.bool c11)),(18,j16),(17,j15),(16,j14),(15,j13)]) ?_ ?_
  ·refine qz rfl rfl h12 (fun h12=>?_) (fun h12=>?_)
   ·refine q9 (.ref 0 4 0 0) rfl rfl<|q9 (.d (.int .i64 p0.X0)) rfl rfl ?_
    obtain ⟨r17,h18,h12⟩:=bindE h12
    refine q11 [.d (.int .i64 p0.X0)] (q8i p0.X0 r17 h18) rfl rfl rfl (.inl rfl)<|q9 (.d (.bool r17)) rfl rfl<|q7 ?_
    obtain rfl:=someE h12
    exact ⟨_,_,_,_,rfl⟩
   ·refine qc rfl<|qc rfl<|qc rfl<|q9 (.d (.bool false)) rfl rfl<|q7 ?_
    obtain rfl:=someE h12
    exact ⟨_,_,_,_,rfl⟩
  ·rintro _ ⟨j13,j14,j15,j16,rfl⟩
   obtain ⟨c21,h22,h0⟩:=bindE h0
   refine qt 5 (fun A st=>∃ (j23 j24 j25 j26 : V),st = A [(24,.d (.bool c21)),(23,j26),(22,j25),(21,j24),(20,j23)]) ?_ ?_
   ·refine qz rfl rfl h22 (fun h22=>?_) (fun h22=>?_)
    ·refine q9 (.ref 0 4 0 2) rfl rfl<|q9 (.d (.int .i64 p0.X1)) rfl rfl ?_
     obtain ⟨r27,h28,h22⟩:=bindE h22
     refine q11 [.d (.int .i64 p0.X1)] (q8i p0.X1 r27 h28) rfl rfl rfl (.inl rfl)<|q9 (.d (.bool r27)) rfl rfl<|q7 ?_
     obtain rfl:=someE h22
     exact ⟨_,_,_,_,rfl⟩
    ·refine qc rfl<|qc rfl<|qc rfl<|q9 (.d (.bool false)) rfl rfl<|q7 ?_
     obtain rfl:=someE h22
     exact ⟨_,_,_,_,rfl⟩
   ·rintro _ ⟨j23,j24,j25,j26,rfl⟩
    obtain ⟨c31,h32,h0⟩:=bindE h0
    refine qt 5 (fun A st=>∃ (j33 j34 j35 j36 : V),st = A [(29,.d (.bool c31)),(28,j36),(27,j35),(26,j34),(25,j33)]) ?_ ?_
    ·refine qz rfl rfl h32 (fun h32=>?_) (fun h32=>?_)
     ·refine q9 (.ref 0 4 0 1) rfl rfl<|q9 (.d (.int .i64 p0.Y0)) rfl rfl ?_
      obtain ⟨r37,h38,h32⟩:=bindE h32
      refine q11 [.d (.int .i64 p0.Y0)] (q8i p0.Y0 r37 h38) rfl rfl rfl (.inl rfl)<|q9 (.d (.bool r37)) rfl rfl<|q7 ?_
      obtain rfl:=someE h32
      exact ⟨_,_,_,_,rfl⟩
     ·refine qc rfl<|qc rfl<|qc rfl<|q9 (.d (.bool false)) rfl rfl<|q7 ?_
      obtain rfl:=someE h32
      exact ⟨_,_,_,_,rfl⟩
    ·rintro _ ⟨j33,j34,j35,j36,rfl⟩
     obtain ⟨c41,h42,h0⟩:=bindE h0
     refine qt 5 (fun A st=>∃ (j43 j44 j45 j46 : V),st = A [(34,.d (.bool c41)),(33,j46),(32,j45),(31,j44),(30,j43)]) ?_ ?_
     ·refine qz rfl rfl h42 (fun h42=>?_) (fun h42=>?_)
      ·refine q9 (.ref 0 4 0 3) rfl rfl<|q9 (.d (.int .i64 p0.Y1)) rfl rfl ?_
       obtain ⟨r47,h48,h42⟩:=bindE h42
       refine q11 [.d (.int .i64 p0.Y1)] (q8i p0.Y1 r47 h48) rfl rfl rfl (.inl rfl)<|q9 (.d (.bool r47)) rfl rfl<|q7 ?_
       obtain rfl:=someE h42
       exact ⟨_,_,_,_,rfl⟩
      ·refine qc rfl<|qc rfl<|qc rfl<|q9 (.d (.bool false)) rfl rfl<|q7 ?_
       obtain rfl:=someE h42
       exact ⟨_,_,_,_,rfl⟩
     ·rintro _ ⟨j43,j44,j45,j46,rfl⟩
      refine qa rfl rfl<|q7<|qm ?_
      obtain rfl:=someE h0
      exact finD (.inr rfl) (v:=.d (.bool c41)) rfl rfl (.refl _)
theorem qfu (p0 : api_Rect) (r : Bool) (h0 : q56 p0 = some r) : Pure Try.prog tab 48 [.agg [.int .i64 p0.X0,.int .i64 p0.Y0,.int .i64 p0.X1,.int .i64 p0.Y1]] (.bool r):=by
 unfold q56 at h0
 refine qu Try.func48 rfl (by kernel_rfl) (by kernel_rfl) rfl<|q8<|q6<|q3m (.ref 0 4 0 0) (.dat 4 [[.int .i64 p0.X0,.int .i64 p0.Y0,.int .i64 p0.X1,.int .i64 p0.Y1]]) rfl rfl<|qa rfl rfl<|q7<|q8<|q6<|q9 (.d (.agg [.int .i64 p0.X0,.int .i64 p0.Y0,.int .i64 p0.X1,.int .i64 p0.Y1])) rfl rfl ?_
 obtain ⟨r1,h2,h0⟩:=bindE h0
 refine q11 [.d (.agg [.int .i64 p0.X0,.int .i64 p0.Y0,.int .i64 p0.X1,.int .i64 p0.Y1])] (qhx p0 r1 h2) rfl rfl rfl (.inl rfl)<|q9 (.d (.bool (!r1))) rfl rfl<|qa rfl rfl<|q7<|qm ?_
 obtain rfl:=someE h0
 exact finD (.inr rfl) (v:=.d (.bool (!r1))) rfl rfl (.refl _)
theorem qf1 (p0 : Int) (r : Int) (h0 : q4z p0 = some r) : Pure Try.prog tab 107 [.int .u64 p0] (.int .i64 r):=by
 unfold q4z at h0
 refine qu Try.func107 rfl (by kernel_rfl) (by kernel_rfl) rfl<|q8<|q6<|qa rfl rfl<|q7<|q8<|q8<|q6<|q0 rfl rfl<|q9 (.d (.bool (decide (p0 ≥ 4294967296)))) rfl rfl<|q7 ?_
 obtain ⟨m2,h1,h0⟩:=bindE h0
 refine q5c (fun b3=>b3 = m2) (fun (b3 : Int × Int)=>⟨[(0,.d (.int .u64 b3.1)),(2,.d (.int .i64 b3.2))],[],0⟩) (by simp) ?_ ?_
 ·refine qd rfl h1 (fun _ h1=>?_) (fun _ h1=>?_)
  ·refine q8<|q6<|q0 rfl rfl<|q9 (.d (.int .u64 (Int.fdiv p0 (2 ^ 32)))) rfl rfl<|qa rfl rfl<|q7<|q6<|qa rfl rfl<|q7<|qf ?_
   obtain rfl:=someE h1
   exact ⟨_,rfl,wkE [] [] [] rfl ⟨⟨_,rfl,.d (.refl _)⟩,⟨_,rfl,.d (.refl _)⟩,trivial⟩ trivial⟩
  ·refine qg<|qf ?_
   obtain rfl:=someE h1
   exact ⟨_,rfl,wkE [] [] [] rfl ⟨⟨_,rfl,.d (.refl _)⟩,⟨_,rfl,.d (.refl _)⟩,trivial⟩ trivial⟩
 ·intro b3 hb
  subst hb
  refine q8<|q8<|q6<|q0 rfl rfl<|q9 (.d (.bool (decide (b3.1 ≥ 65536)))) rfl rfl<|q7 ?_
  obtain ⟨m5,h4,h0⟩:=bindE h0
  refine q5c (fun b6=>b6 = m5) (fun (b6 : Int × Int)=>⟨[(0,.d (.int .u64 b6.1)),(2,.d (.int .i64 b6.2))],[],0⟩) (by simp) ?_ ?_
  ·refine qd rfl h4 (fun _ h4=>?_) (fun _ h4=>?_)
   ·refine q8<|q6<|q0 rfl rfl<|q9 (.d (.int .u64 (Int.fdiv b3.1 (2 ^ 16)))) rfl rfl<|qa rfl rfl<|q7<|q6<|q0 rfl rfl<|q9 (.d (.int .i64 (w64 (b3.2 + 16)))) rfl rfl<|qa rfl rfl<|q7<|qf ?_
    obtain rfl:=someE h4
    exact ⟨_,rfl,wkE [] [] [] rfl ⟨⟨_,rfl,.d (.refl _)⟩,⟨_,rfl,.d (.refl _)⟩,trivial⟩ trivial⟩
   ·refine qg<|qf ?_
    obtain rfl:=someE h4
    exact ⟨_,rfl,wkE [] [] [] rfl ⟨⟨_,rfl,.d (.refl _)⟩,⟨_,rfl,.d (.refl _)⟩,trivial⟩ trivial⟩
  ·intro b6 hb
   subst hb
   refine q8<|q8<|q6<|q0 rfl rfl<|q9 (.d (.bool (decide (b6.1 ≥ 256)))) rfl rfl<|q7 ?_
   obtain ⟨m8,h7,h0⟩:=bindE h0
   refine q5c (fun b9=>b9 = m8) (fun (b9 : Int × Int)=>⟨[(0,.d (.int .u64 b9.1)),(2,.d (.int .i64 b9.2))],[],0⟩) (by simp) ?_ ?_
   ·refine qd rfl h7 (fun _ h7=>?_) (fun _ h7=>?_)
    ·refine q8<|q6<|q0 rfl rfl<|q9 (.d (.int .u64 (Int.fdiv b6.1 (2 ^ 8)))) rfl rfl<|qa rfl rfl<|q7<|q6<|q0 rfl rfl<|q9 (.d (.int .i64 (w64 (b6.2 + 8)))) rfl rfl<|qa rfl rfl<|q7<|qf ?_
     obtain rfl:=someE h7
     exact ⟨_,rfl,wkE [] [] [] rfl ⟨⟨_,rfl,.d (.refl _)⟩,⟨_,rfl,.d (.refl _)⟩,trivial⟩ trivial⟩
    ·refine qg<|qf ?_
     obtain rfl:=someE h7
     exact ⟨_,rfl,wkE [] [] [] rfl ⟨⟨_,rfl,.d (.refl _)⟩,⟨_,rfl,.d (.refl _)⟩,trivial⟩ trivial⟩
   ·intro b9 hb
    subst hb
    refine q8<|q6<|q0 rfl rfl<|q0 rfl rfl<|q9 (.d (.int .u8 (IntKind.wrap .u8 b9.1))) rfl rfl ?_
    obtain ⟨v10,h11,h0⟩:=bindE h0
    refine qs0 q6j h11 rfl rfl rfl rfl rfl<|q9 (.d (.int .i64 (w64 v10))) rfl rfl<|q9 (.d (.int .i64 (w64 (b9.2 + (w64 v10))))) rfl rfl<|qa rfl rfl<|q7<|qm ?_
    obtain rfl:=someE h0
    exact finD (.inr rfl) (v:=.d (.int .i64 (w64 (b9.2 + (w64 v10))))) rfl rfl (.refl _)
theorem q90 (p0 : Int) (r : Int) (h0 : q4w p0 = some r) : Pure Try.prog tab 93 [.int .u64 p0] (.int .i64 r):=by
 unfold q4w at h0
 refine qu Try.func93 rfl (by kernel_rfl) (by kernel_rfl) rfl<|q8<|q6<|qa rfl rfl<|q7<|q8<|qct rfl<|qg<|q8<|q6<|q0 rfl rfl ?_
 obtain ⟨r1,h2,h0⟩:=bindE h0
 refine q11 [.d (.int .u64 p0)] (qf1 p0 r1 h2) rfl rfl rfl (.inl rfl)<|qa rfl rfl<|q7<|qm ?_
 obtain rfl:=someE h0
 exact finD (.inr rfl) (v:=.d (.int .i64 r1)) rfl rfl (.refl _)
theorem qbj (p0 : Int) (r : Bool) (h0 : q7f p0 = some r) : Pure Try.prog tab 116 [.int .i64 p0] (.bool r):=by
 unfold q7f at h0
 refine qu Try.func116 rfl (by kernel_rfl) (by kernel_rfl) rfl<|q8<|q6<|qa rfl rfl<|q7<|q8<|q6<|q0 rfl rfl<|q0 rfl rfl<|q9 (.d (.bool (p0 != p0))) rfl rfl<|qa rfl rfl<|q7<|qm ?_
 obtain rfl:=someE h0
 exact finD (.inr rfl) (v:=.d (.bool (p0 != p0))) rfl rfl (.refl _)
theorem q3b (p0 : Int) (p1 : Int) (r : Bool) (h0 : q34 p0 p1 = some r) : Pure Try.prog tab 103 [.int .i64 p0,.int .i64 p1] (.bool r):=by
 unfold q34 at h0
 refine qu Try.func103 rfl (by kernel_rfl) (by kernel_rfl) rfl<|q8<|q6<|qa rfl rfl<|q7<|q8<|q6<|q0 rfl rfl ?_
 obtain ⟨r1,h2,h0⟩:=bindE h0
 refine q11 [.d (.int .i64 p0)] (qbj p0 r1 h2) rfl rfl rfl (.inl rfl) ?_
 obtain ⟨c5,h6,h0⟩:=bindE h0
 refine qt 5 (fun A st=>∃ (j7 j8 j9 j10 : V),st = A [(11,.d (.bool c5)),(10,j10),(9,j9),(8,j8),(7,j7)]) ?_ ?_
 ·refine qz rfl rfl h6 (fun h6=>?_) (fun h6=>?_)
  ·refine q0 rfl rfl ?_
   obtain ⟨r11,h12,h6⟩:=bindE h6
   refine q11 [.d (.int .i64 p1)] (qbj p1 r11 h12) rfl rfl rfl (.inl rfl)<|q9 (.d (.bool (!r11))) rfl rfl<|q9 (.d (.bool (!r11))) rfl rfl<|q7 ?_
   obtain rfl:=someE h6
   exact ⟨_,_,_,_,rfl⟩
  ·refine qc rfl<|qc rfl<|qc rfl<|q9 (.d (.bool false)) rfl rfl<|q7 ?_
   obtain rfl:=someE h6
   exact ⟨_,_,_,_,rfl⟩
 ·rintro _ ⟨j7,j8,j9,j10,rfl⟩
  obtain ⟨c13,h14,h0⟩:=bindE h0
  refine qt 5 (fun A st=>∃ (j15 j16 j17 j18 : V),st = A [(16,.d (.bool c13)),(15,j18),(14,j17),(13,j16),(12,j15)]) ?_ ?_
  ·refine qz rfl rfl h14 (fun h14=>?_) (fun h14=>?_)
   ·refine qc rfl<|qc rfl<|qc rfl<|q9 (.d (.bool true)) rfl rfl<|q7 ?_
    obtain rfl:=someE h14
    exact ⟨_,_,_,_,rfl⟩
   ·refine q0 rfl rfl<|q0 rfl rfl<|q9 (.d (.bool (decide (p0 < p1)))) rfl rfl<|q9 (.d (.bool (decide (p0 < p1)))) rfl rfl<|q7 ?_
    obtain rfl:=someE h14
    exact ⟨_,_,_,_,rfl⟩
  ·rintro _ ⟨j15,j16,j17,j18,rfl⟩
   refine qa rfl rfl<|q7<|qm ?_
   obtain rfl:=someE h0
   exact finD (.inr rfl) (v:=.d (.bool c13)) rfl rfl (.refl _)
theorem q7n (p0 : List Int) (p1 : Int) (p2 : Int) (r : List Int) (h0 : q2n  p0 p1 p2 = some r) : EvCall Try.prog tab 97 [.hs 0 1 0 p0.length,.d (.int .i64 p1),.d (.int .i64 p2)] [(0,.dat 1 (p0.map (eI .i64)))] 1 (.d (.tup [])) [(0,.dat 1 (r.map (eI .i64)))] 1:=by
 unfold q2n at h0
 refine q18 Try.func97 rfl (by kernel_rfl) (by kernel_rfl) rfl<|q8<|q6<|q0 rfl rfl<|q9 (.d (.int .i64 (w64 (p1 + 1)))) rfl rfl<|qa rfl rfl<|q7 ?_
 obtain ⟨m271,h272,h0⟩:=bindE h0
 refine ql<|qo (q22 p2 p1) (fun (a270 : Int × List Int)=>⟨[(0,.hs 0 1 0 a270.2.length),(1,.d (.int .i64 p1)),(2,.d (.int .i64 p2)),(6,.d (.int .i64 a270.1))],[(0,.dat 1 (a270.2.map (eI .i64)))],1⟩) (w64 (p1 + 1),p0) m271 h272 (wkE [] [] [] rfl ⟨⟨_,rfl,.hs rfl (by decide) (ltd rfl)⟩,⟨_,rfl,.d (.refl _)⟩,⟨_,rfl,.d (.refl _)⟩,⟨_,rfl,.d (.refl _)⟩,trivial⟩ ⟨⟨ltd rfl,.inr ⟨by decide,_,rfl,.dat _ _⟩⟩,trivial⟩) ?_
 intro a270 y268 h269
 unfold q22 at h269
 refine q8<|q8<|q6<|q0 rfl rfl<|q0 rfl rfl<|q9 (.d (.bool (decide (a270.1 < p2)))) rfl rfl<|q7 ?_
 refine qd rfl h269 (fun _ h269=>?_) (fun _ h269=>?_)
 ·refine qg<|q8 ?_
  obtain ⟨m357,h356,h269⟩:=bindE h269
  refine qn (fun b358=>b358 = m357) (fun (b358 : List Int)=>⟨[(0,.hs 0 1 0 b358.length),(1,.d (.int .i64 p1)),(2,.d (.int .i64 p2)),(6,.d (.int .i64 a270.1))],[(0,.dat 1 (b358.map (eI .i64)))],1⟩) (by simp) ?_ ?_
  ·refine q8<|q6<|q0 rfl rfl<|qa rfl rfl<|q7 ?_
   obtain ⟨m444,h445,h356⟩:=bindE h356
   refine ql<|qo (q21 p1) (fun (a443 : Int × List Int)=>⟨[(0,.hs 0 1 0 a443.2.length),(1,.d (.int .i64 p1)),(2,.d (.int .i64 p2)),(6,.d (.int .i64 a270.1)),(7,.d (.int .i64 a443.1))],[(0,.dat 1 (a443.2.map (eI .i64)))],1⟩) (a270.1,a270.2) m444 h445 (wkE [] [] [] rfl ⟨⟨_,rfl,.hs rfl (by decide) (ltd rfl)⟩,⟨_,rfl,.d (.refl _)⟩,⟨_,rfl,.d (.refl _)⟩,⟨_,rfl,.d (.refl _)⟩,⟨_,rfl,.d (.refl _)⟩,trivial⟩ ⟨⟨ltd rfl,.inr ⟨by decide,_,rfl,.dat _ _⟩⟩,trivial⟩) ?_
   intro a443 y441 h442
   unfold q21 at h442
   refine q8<|q8<|qk [(some [],[]),(some [],[]),(some [0],[]),(some [],[]),(some [],[]),(some [],[]),(some [],[]),(some [0],[]),(some [],[]),(some [],[]),(some [],[]),(some [],[]),(some [],[]),(some [],[]),(some [],[])] (by kernel_rfl)<|q0 rfl rfl<|q0 rfl rfl<|q9 (.d (.bool (decide (a443.1 > p1)))) rfl rfl ?_
   obtain ⟨c453,h454,h442⟩:=bindE h442
   refine qt 12 (fun A st=>∃ (j455 j456 j457 j458 j459 j460 j461 j462 j463 j464 j465 : V),st = A [(30,.d (.bool c453)),(29,j465),(28,j464),(27,j463),(26,j462),(25,j461),(24,j460),(23,j459),(22,j458),(21,j457),(20,j456),(19,j455)]) ?_ ?_
   ·refine qz rfl rfl h454 (fun h454=>?_) (fun h454=>?_)
    ·refine q0 rfl rfl<|q0 rfl rfl ?_
     obtain ⟨v466,h467,h454⟩:=bindE h454
     refine qj h467 rfl rfl rfl rfl rfl rfl rfl<|qr (.d (.int .i64 v466)) h467 rfl rfl rfl rfl rfl rfl<|q0 rfl rfl<|q0 rfl rfl<|q9 (.d (.int .i64 (w64 (a443.1 - 1)))) rfl rfl ?_
     obtain ⟨v468,h469,h454⟩:=bindE h454
     refine qj h469 rfl rfl rfl rfl rfl rfl rfl<|qr (.d (.int .i64 v468)) h469 rfl rfl rfl rfl rfl rfl ?_
     obtain ⟨r470,h471,h454⟩:=bindE h454
     refine q11 [.d (.int .i64 v466),.d (.int .i64 v468)] (q3b v466 v468 r470 h471) rfl rfl rfl (.inl rfl)<|q9 (.d (.bool r470)) rfl rfl<|q7 ?_
     obtain rfl:=someE h454
     exact ⟨_,_,_,_,_,_,_,_,_,_,_,rfl⟩
    ·refine qc rfl<|qc rfl<|qc rfl<|qc rfl<|qc rfl<|qc rfl<|qc rfl<|qc rfl<|qc rfl<|qc rfl<|q9 (.d (.bool false)) rfl rfl<|q7 ?_
     obtain rfl:=someE h454
     exact ⟨_,_,_,_,_,_,_,_,_,_,_,rfl⟩
   ·rintro _ ⟨j455,j456,j457,j458,j459,j460,j461,j462,j463,j464,j465,rfl⟩
    refine q7 ?_
    refine qd rfl h442 (fun _ h442=>?_) (fun _ h442=>?_)
    ·refine qg<|q8<|ql<|qk [(some [0],[0]),(some [],[]),(some [0],[0]),(some [],[]),(some [0],[]),(some [],[]),(some [],[]),(some [],[]),(some [0],[]),(some [],[]),(some [],[]),(some [],[]),(some [],[]),(some [],[]),(some [],[]),(some [],[]),(some [],[]),(some [],[])] (by kernel_rfl)<|q0 rfl rfl<|q0 rfl rfl<|q0 rfl rfl<|q0 rfl rfl<|q9 (.d (.int .i64 (w64 (a443.1 - 1)))) rfl rfl<|q0 rfl rfl<|q0 rfl rfl<|q9 (.d (.int .i64 (w64 (a443.1 - 1)))) rfl rfl ?_
     obtain ⟨v480,h481,h442⟩:=bindE h442
     refine qj h481 rfl rfl rfl rfl rfl rfl rfl<|qr (.d (.int .i64 v480)) h481 rfl rfl rfl rfl rfl rfl<|q0 rfl rfl<|q0 rfl rfl ?_
     obtain ⟨v482,h483,h442⟩:=bindE h442
     refine qj h483 rfl rfl rfl rfl rfl rfl rfl<|qr (.d (.int .i64 v482)) h483 rfl rfl rfl rfl rfl rfl ?_
     obtain ⟨v484,h485,h442⟩:=bindE h442
     refine qj h485 rfl rfl rfl rfl rfl rfl rfl<|q19 (ds:=[.int .i64 v480]) v480 h485 rfl rfl rfl rfl rfl rfl rfl rfl (leb rfl) rfl ?_
     obtain ⟨v486,h487,h442⟩:=bindE h442
     refine qj h487 (by simp) rfl rfl rfl rfl rfl rfl<|q19 (ds:=[.int .i64 v482]) v482 h487 rfl rfl rfl rfl rfl rfl rfl rfl (leb rfl) rfl<|q7<|qf<|qv<|q6<|q0 rfl rfl<|q9 (.d (.int .i64 (w64 (a443.1 - 1)))) rfl rfl<|qa rfl rfl<|q7<|qf ?_
     exact ⟨_,(Option.some.inj h442).symm,wkE [] [] [] rfl ⟨⟨_,rfl,q16 (by simp) rfl (by decide) (ltd rfl)⟩,⟨_,rfl,.d (.refl _)⟩,⟨_,rfl,.d (.refl _)⟩,⟨_,rfl,.d (.refl _)⟩,⟨_,rfl,.d (.refl _)⟩,trivial⟩ ⟨⟨ltd rfl,.inr ⟨by decide,_,rfl,.dat _ _⟩⟩,trivial⟩⟩
    ·refine qp ?_
     refine ⟨_,(Option.some.inj h442).symm,fun hm=>?_⟩
     subst hm
     obtain rfl:=someE h356
     exact ⟨_,rfl,wkE [] [] [] rfl ⟨⟨_,rfl,.hs rfl (by decide) (ltd rfl)⟩,⟨_,rfl,.d (.refl _)⟩,⟨_,rfl,.d (.refl _)⟩,⟨_,rfl,.d (.refl _)⟩,trivial⟩ ⟨⟨ltd rfl,.inr ⟨by decide,_,rfl,.dat _ _⟩⟩,trivial⟩⟩
  ·intro b358 hb
   subst hb
   refine q6<|q0 rfl rfl<|q9 (.d (.int .i64 (w64 (a270.1 + 1)))) rfl rfl<|qa rfl rfl<|q7<|qf ?_
   exact ⟨_,(Option.some.inj h269).symm,wkE [] [] [] rfl ⟨⟨_,rfl,.hs rfl (by decide) (ltd rfl)⟩,⟨_,rfl,.d (.refl _)⟩,⟨_,rfl,.d (.refl _)⟩,⟨_,rfl,.d (.refl _)⟩,trivial⟩ ⟨⟨ltd rfl,.inr ⟨by decide,_,rfl,.dat _ _⟩⟩,trivial⟩⟩
 ·refine qp ?_
  refine ⟨_,(Option.some.inj h269).symm,fun hm=>?_⟩
  subst hm
  obtain rfl:=someE h0
  exact ⟨.inl rfl,_,rfl,wkE [] [] [] rfl ⟨⟨_,rfl,.d (.refl _)⟩,trivial⟩ ⟨⟨ltd rfl,.inr ⟨by decide,_,rfl,.dat _ _⟩⟩,trivial⟩⟩
theorem q6b (p0 : List Int) (p1 : Int) (p2 : Int) (p3 : Int) (r : List Int) (h0 : q2v  p0 p1 p2 p3 = some r) : EvCall Try.prog tab 111 [.hs 0 1 0 p0.length,.d (.int .i64 p1),.d (.int .i64 p2),.d (.int .i64 p3)] [(0,.dat 1 (p0.map (eI .i64)))] 1 (.d (.tup [])) [(0,.dat 1 (r.map (eI .i64)))] 1:=by
 unfold q2v at h0
 refine q18 Try.func111 rfl (by kernel_rfl) (by kernel_rfl) rfl<|q8<|q6<|q0 rfl rfl<|qa rfl rfl<|q7 ?_
 obtain ⟨m194,h195,h0⟩:=bindE h0
 refine ql<|qo (q3c p2 p3) (fun (a193 : Int × List Int)=>⟨[(0,.hs 0 1 0 a193.2.length),(2,.d (.int .i64 p2)),(3,.d (.int .i64 p3)),(8,.d (.int .i64 a193.1))],[(0,.dat 1 (a193.2.map (eI .i64)))],1⟩) (p1,p0) m194 h195 (wkE [] [] [] rfl ⟨⟨_,rfl,.hs rfl (by decide) (ltd rfl)⟩,⟨_,rfl,.d (.refl _)⟩,⟨_,rfl,.d (.refl _)⟩,⟨_,rfl,.d (.refl _)⟩,trivial⟩ ⟨⟨ltd rfl,.inr ⟨by decide,_,rfl,.dat _ _⟩⟩,trivial⟩) ?_
 intro a193 y191 h192
 unfold q3c at h192
 refine ql<|q8<|q6<|q0 rfl rfl<|q9 (.d (.int .i64 (w64 (2 * a193.1)))) rfl rfl<|q9 (.d (.int .i64 (w64 ((w64 (2 * a193.1)) + 1)))) rfl rfl<|qa rfl rfl<|q7<|q8<|q8<|q6<|q0 rfl rfl<|q0 rfl rfl<|q9 (.d (.bool (decide ((w64 ((w64 (2 * a193.1)) + 1)) ≥ p2)))) rfl rfl<|q7 ?_
 refine qd rfl h192 (fun _ h192=>?_) (fun _ h192=>?_)
 ·refine qp ?_
  refine ⟨_,(Option.some.inj h192).symm,fun hm=>?_⟩
  subst hm
  obtain rfl:=someE h0
  exact ⟨.inl rfl,_,rfl,wkE [] [] [] rfl ⟨⟨_,rfl,.d (.refl _)⟩,trivial⟩ ⟨⟨ltd rfl,.inr ⟨by decide,_,rfl,.dat _ _⟩⟩,trivial⟩⟩
 ·refine qg<|q8<|q8<|qk [(some [],[]),(some [],[]),(some [0],[]),(some [],[]),(some [],[]),(some [],[]),(some [],[]),(some [],[]),(some [],[]),(some [0],[]),(some [],[]),(some [],[]),(some [],[]),(some [],[]),(some [],[]),(some [],[]),(some [],[]),(some [],[]),(some [],[]),(some [],[])] (by kernel_rfl)<|q0 rfl rfl<|q9 (.d (.int .i64 (w64 ((w64 ((w64 (2 * a193.1)) + 1)) + 1)))) rfl rfl<|q0 rfl rfl<|q9 (.d (.bool (decide ((w64 ((w64 ((w64 (2 * a193.1)) + 1)) + 1)) < p2)))) rfl rfl ?_
  obtain ⟨c203,h204,h192⟩:=bindE h192
  refine qt 16 (fun A st=>∃ (j205 j206 j207 j208 j209 j210 j211 j212 j213 j214 j215 j216 j217 j218 j219 : V),st = A [(36,.d (.bool c203)),(35,j219),(34,j218),(33,j217),(32,j216),(31,j215),(30,j214),(29,j213),(28,j212),(27,j211),(26,j210),(25,j209),(24,j208),(23,j207),(22,j206),(21,j205)]) ?_ ?_
  ·refine qz rfl rfl h204 (fun h204=>?_) (fun h204=>?_)
   ·refine q0 rfl rfl<|q0 rfl rfl<|q0 rfl rfl<|q9 (.d (.int .i64 (w64 (p3 + (w64 ((w64 (2 * a193.1)) + 1)))))) rfl rfl ?_
    obtain ⟨v220,h221,h204⟩:=bindE h204
    refine qj h221 rfl rfl rfl rfl rfl rfl rfl<|qr (.d (.int .i64 v220)) h221 rfl rfl rfl rfl rfl rfl<|q0 rfl rfl<|q0 rfl rfl<|q0 rfl rfl<|q9 (.d (.int .i64 (w64 (p3 + (w64 ((w64 (2 * a193.1)) + 1)))))) rfl rfl<|q9 (.d (.int .i64 (w64 ((w64 (p3 + (w64 ((w64 (2 * a193.1)) + 1)))) + 1)))) rfl rfl ?_
    obtain ⟨v222,h223,h204⟩:=bindE h204
    refine qj h223 rfl rfl rfl rfl rfl rfl rfl<|qr (.d (.int .i64 v222)) h223 rfl rfl rfl rfl rfl rfl ?_
    obtain ⟨r224,h225,h204⟩:=bindE h204
    refine q11 [.d (.int .i64 v220),.d (.int .i64 v222)] (q3b v220 v222 r224 h225) rfl rfl rfl (.inl rfl)<|q9 (.d (.bool r224)) rfl rfl<|q7 ?_
    obtain rfl:=someE h204
    exact ⟨_,_,_,_,_,_,_,_,_,_,_,_,_,_,_,rfl⟩
   ·refine qc rfl<|qc rfl<|qc rfl<|qc rfl<|qc rfl<|qc rfl<|qc rfl<|qc rfl<|qc rfl<|qc rfl<|qc rfl<|qc rfl<|qc rfl<|qc rfl<|q9 (.d (.bool false)) rfl rfl<|q7 ?_
    obtain rfl:=someE h204
    exact ⟨_,_,_,_,_,_,_,_,_,_,_,_,_,_,_,rfl⟩
  ·rintro _ ⟨j205,j206,j207,j208,j209,j210,j211,j212,j213,j214,j215,j216,j217,j218,j219,rfl⟩
   refine q7 ?_
   obtain ⟨m227,h226,h192⟩:=bindE h192
   refine q5c (fun b228=>b228 = m227) (fun (b228 : Int)=>⟨[(0,.hs 0 1 0 a193.2.length),(2,.d (.int .i64 p2)),(3,.d (.int .i64 p3)),(8,.d (.int .i64 a193.1)),(9,.d (.int .i64 b228))],[(0,.dat 1 (a193.2.map (eI .i64)))],1⟩) (by simp) ?_ ?_
   ·refine qd rfl h226 (fun _ h226=>?_) (fun _ h226=>?_)
    ·refine q6<|q0 rfl rfl<|q9 (.d (.int .i64 (w64 ((w64 ((w64 (2 * a193.1)) + 1)) + 1)))) rfl rfl<|qa rfl rfl<|q7<|qf ?_
     obtain rfl:=someE h226
     exact ⟨_,rfl,wkE [] [] [] rfl ⟨⟨_,rfl,.hs rfl (by decide) (ltd rfl)⟩,⟨_,rfl,.d (.refl _)⟩,⟨_,rfl,.d (.refl _)⟩,⟨_,rfl,.d (.refl _)⟩,⟨_,rfl,.d (.refl _)⟩,trivial⟩ ⟨⟨ltd rfl,.inr ⟨by decide,_,rfl,.dat _ _⟩⟩,trivial⟩⟩
    ·refine qg<|qf ?_
     obtain rfl:=someE h226
     exact ⟨_,rfl,wkE [] [] [] rfl ⟨⟨_,rfl,.hs rfl (by decide) (ltd rfl)⟩,⟨_,rfl,.d (.refl _)⟩,⟨_,rfl,.d (.refl _)⟩,⟨_,rfl,.d (.refl _)⟩,⟨_,rfl,.d (.refl _)⟩,trivial⟩ ⟨⟨ltd rfl,.inr ⟨by decide,_,rfl,.dat _ _⟩⟩,trivial⟩⟩
   ·intro b228 hb
    subst hb
    refine q8<|q8<|qk [(some [],[]),(some [],[]),(some [0],[]),(some [],[]),(some [],[]),(some [],[]),(some [],[]),(some [],[]),(some [0],[]),(some [],[]),(some [],[]),(some [],[]),(some [],[]),(some [],[])] (by kernel_rfl)<|q0 rfl rfl<|q0 rfl rfl<|q0 rfl rfl<|q9 (.d (.int .i64 (w64 (p3 + a193.1)))) rfl rfl ?_
    obtain ⟨v229,h230,h192⟩:=bindE h192
    refine qj h230 rfl rfl rfl rfl rfl rfl rfl<|qr (.d (.int .i64 v229)) h230 rfl rfl rfl rfl rfl rfl<|q0 rfl rfl<|q0 rfl rfl<|q0 rfl rfl<|q9 (.d (.int .i64 (w64 (p3 + b228)))) rfl rfl ?_
    obtain ⟨v231,h232,h192⟩:=bindE h192
    refine qj h232 rfl rfl rfl rfl rfl rfl rfl<|qr (.d (.int .i64 v231)) h232 rfl rfl rfl rfl rfl rfl ?_
    obtain ⟨r233,h234,h192⟩:=bindE h192
    refine q11 [.d (.int .i64 v229),.d (.int .i64 v231)] (q3b v229 v231 r233 h234) rfl rfl rfl (.inl rfl)<|q9 (.d (.bool (!r233))) rfl rfl<|q7 ?_
    refine qd rfl h192 (fun _ h192=>?_) (fun _ h192=>?_)
    ·refine qm ?_
     refine ⟨_,(Option.some.inj h192).symm,fun hm=>?_⟩
     subst hm
     obtain rfl:=someE h0
     exact ⟨.inr rfl,_,rfl,wkE [] [] [] rfl ⟨⟨_,rfl,.d (.refl _)⟩,trivial⟩ ⟨⟨ltd rfl,.inr ⟨by decide,_,rfl,.dat _ _⟩⟩,trivial⟩⟩
    ·refine qg<|q8<|qk [(some [0],[0]),(some [],[]),(some [0],[0]),(some [],[]),(some [0],[]),(some [],[]),(some [],[]),(some [],[]),(some [],[]),(some [],[]),(some [0],[]),(some [],[]),(some [],[]),(some [],[]),(some [],[]),(some [],[]),(some [],[]),(some [],[]),(some [],[]),(some [],[]),(some [],[]),(some [],[]),(some [],[]),(some [],[])] (by kernel_rfl)<|q0 rfl rfl<|q0 rfl rfl<|q0 rfl rfl<|q9 (.d (.int .i64 (w64 (p3 + a193.1)))) rfl rfl<|q0 rfl rfl<|q0 rfl rfl<|q0 rfl rfl<|q9 (.d (.int .i64 (w64 (p3 + b228)))) rfl rfl<|q0 rfl rfl<|q0 rfl rfl<|q0 rfl rfl<|q9 (.d (.int .i64 (w64 (p3 + b228)))) rfl rfl ?_
     obtain ⟨v235,h236,h192⟩:=bindE h192
     refine qj h236 rfl rfl rfl rfl rfl rfl rfl<|qr (.d (.int .i64 v235)) h236 rfl rfl rfl rfl rfl rfl<|q0 rfl rfl<|q0 rfl rfl<|q0 rfl rfl<|q9 (.d (.int .i64 (w64 (p3 + a193.1)))) rfl rfl ?_
     obtain ⟨v237,h238,h192⟩:=bindE h192
     refine qj h238 rfl rfl rfl rfl rfl rfl rfl<|qr (.d (.int .i64 v237)) h238 rfl rfl rfl rfl rfl rfl ?_
     obtain ⟨v239,h240,h192⟩:=bindE h192
     refine qj h240 rfl rfl rfl rfl rfl rfl rfl<|q19 (ds:=[.int .i64 v235]) v235 h240 rfl rfl rfl rfl rfl rfl rfl rfl (leb rfl) rfl ?_
     obtain ⟨v241,h242,h192⟩:=bindE h192
     refine qj h242 (by simp) rfl rfl rfl rfl rfl rfl<|q19 (ds:=[.int .i64 v237]) v237 h242 rfl rfl rfl rfl rfl rfl rfl rfl (leb rfl) rfl<|q7<|q6<|q0 rfl rfl<|qa rfl rfl<|q7<|qf<|qv<|qf ?_
     exact ⟨_,(Option.some.inj h192).symm,wkE [] [] [] rfl ⟨⟨_,rfl,q16 (by simp) rfl (by decide) (ltd rfl)⟩,⟨_,rfl,.d (.refl _)⟩,⟨_,rfl,.d (.refl _)⟩,⟨_,rfl,.d (.refl _)⟩,trivial⟩ ⟨⟨ltd rfl,.inr ⟨by decide,_,rfl,.dat _ _⟩⟩,trivial⟩⟩
theorem q8t (p0 : List Int) (p1 : Int) (p2 : Int) (r : List Int) (h0 : q3u  p0 p1 p2 = some r) : EvCall Try.prog tab 98 [.hs 0 1 0 p0.length,.d (.int .i64 p1),.d (.int .i64 p2)] [(0,.dat 1 (p0.map (eI .i64)))] 1 (.d (.tup [])) [(0,.dat 1 (r.map (eI .i64)))] 1:=by
 unfold q3u at h0
 refine q18 Try.func98 rfl (by kernel_rfl) (by kernel_rfl) rfl<|q8<|q6<|q0 rfl rfl<|qa rfl rfl<|q7<|q8<|q6<|qa rfl rfl<|q7<|q8<|q6<|q0 rfl rfl<|q0 rfl rfl<|q9 (.d (.int .i64 (w64 (p2 - p1)))) rfl rfl<|qa rfl rfl<|q7<|q8<|q8<|q6<|q0 rfl rfl<|q9 (.d (.int .i64 (w64 ((w64 (p2 - p1)) - 1)))) rfl rfl<|q9 (.d (.int .i64 (w64 (Int.tdiv (w64 ((w64 (p2 - p1)) - 1)) 2)))) rfl rfl<|qa rfl rfl<|q7 ?_
 obtain ⟨m124,h125,h0⟩:=bindE h0
 refine qn (fun b126=>b126 = m124) (fun (b126 : List Int)=>⟨[(0,.hs 0 1 0 b126.length),(6,.d (.int .i64 p1)),(7,.d (.int .i64 0)),(8,.d (.int .i64 (w64 (p2 - p1))))],[(0,.dat 1 (b126.map (eI .i64)))],1⟩) (by simp) ?_ ?_
 ·refine qo (q3d p2 p1) (fun (a123 : Int × List Int)=>⟨[(0,.hs 0 1 0 a123.2.length),(6,.d (.int .i64 p1)),(7,.d (.int .i64 0)),(8,.d (.int .i64 (w64 (p2 - p1)))),(9,.d (.int .i64 a123.1))],[(0,.dat 1 (a123.2.map (eI .i64)))],1⟩) (w64 (Int.tdiv (w64 ((w64 (p2 - p1)) - 1)) 2),p0) m124 h125 (wkE [] [] [] rfl ⟨⟨_,rfl,.hs rfl (by decide) (ltd rfl)⟩,⟨_,rfl,.d (.refl _)⟩,⟨_,rfl,.d (.refl _)⟩,⟨_,rfl,.d (.refl _)⟩,⟨_,rfl,.d (.refl _)⟩,trivial⟩ ⟨⟨ltd rfl,.inr ⟨by decide,_,rfl,.dat _ _⟩⟩,trivial⟩) ?_
  intro a123 y121 h122
  unfold q3d at h122
  refine q8<|q8<|q6<|q0 rfl rfl<|q9 (.d (.bool (decide (a123.1 ≥ 0)))) rfl rfl<|q7 ?_
  refine qd rfl h122 (fun _ h122=>?_) (fun _ h122=>?_)
  ·refine qg<|q8<|ql<|q6<|q0 rfl rfl<|q0 rfl rfl<|q0 rfl rfl<|q0 rfl rfl ?_
   obtain ⟨e132,h133,h122⟩:=bindE h122
   obtain ⟨u134,h135,h122⟩:=bindE h122
   have h136:=q1o h135
   refine q12 [(0,0)] [(0,0)] [.hs 0 1 0 a123.2.length,.d (.int .i64 a123.1),.d (.int .i64 (w64 (p2 - p1))),.d (.int .i64 p1)] (.d (.tup [])) [(0,.dat 1 (e132.map (eI .i64)))] [(0,.dat 1 (e132.map (eI .i64)))] 1 (q6b a123.2 a123.1 (w64 (p2 - p1)) p1 e132 h133) rfl rfl rfl (qx [(0,0)] [] [] rfl ⟨⟨_,rfl,.hs rfl (by decide) (ltd rfl)⟩,⟨_,rfl,.d (.refl _)⟩,⟨_,rfl,.d (.refl _)⟩,⟨_,rfl,.d (.refl _)⟩,trivial⟩ ⟨⟨ltd rfl,.inr ⟨by decide,_,rfl,.dat _ _⟩⟩,trivial⟩) (qx [(0,0)] [] [] rfl ⟨⟨_,rfl,.d (.refl _)⟩,trivial⟩ ⟨⟨ltd rfl,.inr ⟨by decide,_,rfl,.dat _ _⟩⟩,trivial⟩) rfl ⟨.inl rfl,trivial⟩<|q7<|qf<|qv<|q6<|q0 rfl rfl<|q9 (.d (.int .i64 (w64 (a123.1 - 1)))) rfl rfl<|qa rfl rfl<|q7<|qf ?_
   exact ⟨_,(Option.some.inj h122).symm,wkE [] [] [] rfl ⟨⟨_,rfl,q16 (by simp [h136]) rfl (by decide) (ltd rfl)⟩,⟨_,rfl,.d (.refl _)⟩,⟨_,rfl,.d (.refl _)⟩,⟨_,rfl,.d (.refl _)⟩,⟨_,rfl,.d (.refl _)⟩,trivial⟩ ⟨⟨ltd rfl,.inr ⟨by decide,_,rfl,.dat _ _⟩⟩,trivial⟩⟩
  ·refine qp ?_
   refine ⟨_,(Option.some.inj h122).symm,fun hm=>?_⟩
   subst hm
   exact ⟨_,rfl,wkE [] [] [] rfl ⟨⟨_,rfl,.hs rfl (by decide) (ltd rfl)⟩,⟨_,rfl,.d (.refl _)⟩,⟨_,rfl,.d (.refl _)⟩,⟨_,rfl,.d (.refl _)⟩,trivial⟩ ⟨⟨ltd rfl,.inr ⟨by decide,_,rfl,.dat _ _⟩⟩,trivial⟩⟩
 ·intro b126 hb
  subst hb
  refine q8<|q6<|q0 rfl rfl<|q9 (.d (.int .i64 (w64 ((w64 (p2 - p1)) - 1)))) rfl rfl<|qa rfl rfl<|q7 ?_
  obtain ⟨m192,h193,h0⟩:=bindE h0
  refine ql<|qo (q3e p1) (fun (a191 : Int × List Int)=>⟨[(0,.hs 0 1 0 a191.2.length),(6,.d (.int .i64 p1)),(7,.d (.int .i64 0)),(10,.d (.int .i64 a191.1))],[(0,.dat 1 (a191.2.map (eI .i64)))],1⟩) (w64 ((w64 (p2 - p1)) - 1),b126) m192 h193 (wkE [] [] [] rfl ⟨⟨_,rfl,.hs rfl (by decide) (ltd rfl)⟩,⟨_,rfl,.d (.refl _)⟩,⟨_,rfl,.d (.refl _)⟩,⟨_,rfl,.d (.refl _)⟩,trivial⟩ ⟨⟨ltd rfl,.inr ⟨by decide,_,rfl,.dat _ _⟩⟩,trivial⟩) ?_
  intro a191 y189 h190
  unfold q3e at h190
  refine q8<|q8<|q6<|q0 rfl rfl<|q9 (.d (.bool (decide (a191.1 ≥ 0)))) rfl rfl<|q7 ?_
  refine qd rfl h190 (fun _ h190=>?_) (fun _ h190=>?_)
  ·refine qg<|q8<|ql<|q8<|qk [(some [0],[0]),(some [],[]),(some [0],[0]),(some [],[]),(some [0],[]),(some [],[]),(some [],[]),(some [],[]),(some [0],[]),(some [],[]),(some [],[]),(some [],[]),(some [],[]),(some [],[]),(some [],[]),(some [],[]),(some [],[]),(some [],[]),(some [],[]),(some [],[])] (by kernel_rfl)<|q0 rfl rfl<|q0 rfl rfl<|q0 rfl rfl<|q0 rfl rfl<|q0 rfl rfl<|q9 (.d (.int .i64 (w64 (p1 + a191.1)))) rfl rfl<|q0 rfl rfl<|q0 rfl rfl<|q0 rfl rfl<|q9 (.d (.int .i64 (w64 (p1 + a191.1)))) rfl rfl ?_
   obtain ⟨v208,h209,h190⟩:=bindE h190
   refine qj h209 rfl rfl rfl rfl rfl rfl rfl<|qr (.d (.int .i64 v208)) h209 rfl rfl rfl rfl rfl rfl<|q0 rfl rfl<|q0 rfl rfl ?_
   obtain ⟨v210,h211,h190⟩:=bindE h190
   refine qj h211 rfl rfl rfl rfl rfl rfl rfl<|qr (.d (.int .i64 v210)) h211 rfl rfl rfl rfl rfl rfl ?_
   obtain ⟨v212,h213,h190⟩:=bindE h190
   refine qj h213 rfl rfl rfl rfl rfl rfl rfl<|q19 (ds:=[.int .i64 v208]) v208 h213 rfl rfl rfl rfl rfl rfl rfl rfl (leb rfl) rfl ?_
   obtain ⟨v214,h215,h190⟩:=bindE h190
   refine qj h215 (by simp) rfl rfl rfl rfl rfl rfl<|q19 (ds:=[.int .i64 v210]) v210 h215 rfl rfl rfl rfl rfl rfl rfl rfl (leb rfl) rfl<|q7<|q6<|q0 rfl rfl<|q0 rfl rfl<|q0 rfl rfl<|q0 rfl rfl ?_
   obtain ⟨e216,h217,h190⟩:=bindE h190
   obtain ⟨u218,h219,h190⟩:=bindE h190
   have h220:=q1o h219
   refine q12 [(0,0)] [(0,0)] [.hs 0 1 0 a191.2.length,.d (.int .i64 0),.d (.int .i64 a191.1),.d (.int .i64 p1)] (.d (.tup [])) [(0,.dat 1 (e216.map (eI .i64)))] [(0,.dat 1 (e216.map (eI .i64)))] 1 (q6b ((a191.2.set p1.toNat v208).set (w64 (p1 + a191.1)).toNat v210) 0 a191.1 p1 e216 h217) rfl rfl rfl (qx [(0,0)] [] [] rfl ⟨⟨_,rfl,q16 (by simp) rfl (by decide) (ltd rfl)⟩,⟨_,rfl,.d (.refl _)⟩,⟨_,rfl,.d (.refl _)⟩,⟨_,rfl,.d (.refl _)⟩,trivial⟩ ⟨⟨ltd rfl,.inr ⟨by decide,_,rfl,.dat _ _⟩⟩,trivial⟩) (qx [(0,0)] [] [] rfl ⟨⟨_,rfl,.d (.refl _)⟩,trivial⟩ ⟨⟨ltd rfl,.inr ⟨by decide,_,rfl,.dat _ _⟩⟩,trivial⟩) rfl ⟨.inl rfl,trivial⟩<|q7<|qf<|qv<|q6<|q0 rfl rfl<|q9 (.d (.int .i64 (w64 (a191.1 - 1)))) rfl rfl<|qa rfl rfl<|q7<|qf ?_
   exact ⟨_,(Option.some.inj h190).symm,wkE [] [] [] rfl ⟨⟨_,rfl,q16 (by simp [h220]) rfl (by decide) (ltd rfl)⟩,⟨_,rfl,.d (.refl _)⟩,⟨_,rfl,.d (.refl _)⟩,⟨_,rfl,.d (.refl _)⟩,trivial⟩ ⟨⟨ltd rfl,.inr ⟨by decide,_,rfl,.dat _ _⟩⟩,trivial⟩⟩
  ·refine qp ?_
   refine ⟨_,(Option.some.inj h190).symm,fun hm=>?_⟩
   subst hm
   obtain rfl:=someE h0
   exact ⟨.inl rfl,_,rfl,wkE [] [] [] rfl ⟨⟨_,rfl,.d (.refl _)⟩,trivial⟩ ⟨⟨ltd rfl,.inr ⟨by decide,_,rfl,.dat _ _⟩⟩,trivial⟩⟩
theorem q88 (p0 : Int) (r : Int) (h0 : q3n p0 = some r) : Pure Try.prog tab 112 [.int .i64 p0] (.int .u64 r):=by
 unfold q3n at h0
 refine qu Try.func112 rfl (by kernel_rfl) (by kernel_rfl) rfl<|q8<|q6<|qa rfl rfl<|q7<|q8<|q6<|q0 rfl rfl<|q9 (.d (.int .u64 (IntKind.wrap .u64 p0))) rfl rfl ?_
 obtain ⟨r1,h2,h0⟩:=bindE h0
 refine q11 [.d (.int .u64 (IntKind.wrap .u64 p0))] (q90 (IntKind.wrap .u64 p0) r1 h2) rfl rfl rfl (.inl rfl) ?_
 obtain ⟨q3,h4,h0⟩:=bindE h0
 refine qrg h4 rfl rfl rfl<|qa rfl rfl<|q7<|qm ?_
 obtain rfl:=someE h0
 exact finD (.inr rfl) (v:=.d (.int .u64 q3)) rfl rfl (.refl _)
theorem q78 (p0 : Int) (r : Int) (h0 : q33  p0 = some r) : EvCall Try.prog tab 113 [.ref 0 1 0 0] [(0,.dat 1 [[.int .u64 p0]])] 1 (.d (.int .u64 r)) [(0,.dat 1 [[.int .u64 r]])] 1:=by
 unfold q33 at h0
 refine q18 Try.func113 rfl (by kernel_rfl) (by kernel_rfl) rfl<|q8<|q6<|qa rfl rfl<|q7<|q8<|qk [(some [0],[0]),(some [],[]),(some [],[]),(some [],[]),(some [0],[]),(some [],[]),(some [],[]),(some [0],[]),(some [],[]),(some [],[])] (by kernel_rfl)<|q0 rfl rfl<|q9 (.ref 0 1 0 0) rfl rfl<|q9 (.d (.int .u64 p0)) rfl rfl<|q0 rfl rfl<|q9 (.ref 0 1 0 0) rfl rfl<|q9 (.d (.int .u64 p0)) rfl rfl<|q9 (.d (.int .u64 (IntKind.wrap .u64 (p0 * (2 ^ 13))))) rfl rfl<|q9 (.d (.int .u64 (xorI .u64 p0 (IntKind.wrap .u64 (p0 * (2 ^ 13)))))) rfl rfl<|q9 (.ref 0 1 0 0) rfl rfl<|q1z 0 (.dat 1 [[.int .u64 (xorI .u64 p0 (IntKind.wrap .u64 (p0 * (2 ^ 13))))]]) rfl rfl<|q7<|q8<|qk [(some [0],[0]),(some [],[]),(some [],[]),(some [],[]),(some [0],[]),(some [],[]),(some [],[]),(some [0],[]),(some [],[]),(some [],[])] (by kernel_rfl)<|q0 rfl rfl<|q9 (.ref 0 1 0 0) rfl rfl<|q9 (.d (.int .u64 (xorI .u64 p0 (IntKind.wrap .u64 (p0 * (2 ^ 13)))))) rfl rfl<|q0 rfl rfl<|q9 (.ref 0 1 0 0) rfl rfl<|q9 (.d (.int .u64 (xorI .u64 p0 (IntKind.wrap .u64 (p0 * (2 ^ 13)))))) rfl rfl<|q9 (.d (.int .u64 (Int.fdiv (xorI .u64 p0 (IntKind.wrap .u64 (p0 * (2 ^ 13)))) (2 ^ 7)))) rfl rfl<|q9 (.d (.int .u64 (xorI .u64 (xorI .u64 p0 (IntKind.wrap .u64 (p0 * (2 ^ 13)))) (Int.fdiv (xorI .u64 p0 (IntKind.wrap .u64 (p0 * (2 ^ 13)))) (2 ^ 7))))) rfl rfl<|q9 (.ref 0 1 0 0) rfl rfl<|q1z 0 (.dat 1 [[.int .u64 (xorI .u64 (xorI .u64 p0 (IntKind.wrap .u64 (p0 * (2 ^ 13)))) (Int.fdiv (xorI .u64 p0 (IntKind.wrap .u64 (p0 * (2 ^ 13)))) (2 ^ 7)))]]) rfl rfl<|q7<|q8<|qk [(some [0],[0]),(some [],[]),(some [],[]),(some [],[]),(some [0],[]),(some [],[]),(some [],[]),(some [0],[]),(some [],[]),(some [],[])] (by kernel_rfl)<|q0 rfl rfl<|q9 (.ref 0 1 0 0) rfl rfl<|q9 (.d (.int .u64 (xorI .u64 (xorI .u64 p0 (IntKind.wrap .u64 (p0 * (2 ^ 13)))) (Int.fdiv (xorI .u64 p0 (IntKind.wrap .u64 (p0 * (2 ^ 13)))) (2 ^ 7))))) rfl rfl<|q0 rfl rfl<|q9 (.ref 0 1 0 0) rfl rfl<|q9 (.d (.int .u64 (xorI .u64 (xorI .u64 p0 (IntKind.wrap .u64 (p0 * (2 ^ 13)))) (Int.fdiv (xorI .u64 p0 (IntKind.wrap .u64 (p0 * (2 ^ 13)))) (2 ^ 7))))) rfl rfl<|q9 (.d (.int .u64 (IntKind.wrap .u64 ((xorI .u64 (xorI .u64 p0 (IntKind.wrap .u64 (p0 * (2 ^ 13)))) (Int.fdiv (xorI .u64 p0 (IntKind.wrap .u64 (p0 * (2 ^ 13)))) (2 ^ 7))) * (2 ^ 17))))) rfl rfl ?_
 refine q9 (.d (.int .u64 (xorI .u64 (xorI .u64 (xorI .u64 p0 (IntKind.wrap .u64 (p0 * (2 ^ 13)))) (Int.fdiv (xorI .u64 p0 (IntKind.wrap .u64 (p0 * (2 ^ 13)))) (2 ^ 7))) (IntKind.wrap .u64 ((xorI .u64 (xorI .u64 p0 (IntKind.wrap .u64 (p0 * (2 ^ 13)))) (Int.fdiv (xorI .u64 p0 (IntKind.wrap .u64 (p0 * (2 ^ 13)))) (2 ^ 7))) * (2 ^ 17)))))) rfl rfl<|q9 (.ref 0 1 0 0) rfl rfl<|q1z 0 (.dat 1 [[.int .u64 (xorI .u64 (xorI .u64 (xorI .u64 p0 (IntKind.wrap .u64 (p0 * (2 ^ 13)))) (Int.fdiv (xorI .u64 p0 (IntKind.wrap .u64 (p0 * (2 ^ 13)))) (2 ^ 7))) (IntKind.wrap .u64 ((xorI .u64 (xorI .u64 p0 (IntKind.wrap .u64 (p0 * (2 ^ 13)))) (Int.fdiv (xorI .u64 p0 (IntKind.wrap .u64 (p0 * (2 ^ 13)))) (2 ^ 7))) * (2 ^ 17))))]]) rfl rfl<|q7<|q8<|q6<|q0 rfl rfl<|q9 (.ref 0 1 0 0) rfl rfl<|q9 (.d (.int .u64 (xorI .u64 (xorI .u64 (xorI .u64 p0 (IntKind.wrap .u64 (p0 * (2 ^ 13)))) (Int.fdiv (xorI .u64 p0 (IntKind.wrap .u64 (p0 * (2 ^ 13)))) (2 ^ 7))) (IntKind.wrap .u64 ((xorI .u64 (xorI .u64 p0 (IntKind.wrap .u64 (p0 * (2 ^ 13)))) (Int.fdiv (xorI .u64 p0 (IntKind.wrap .u64 (p0 * (2 ^ 13)))) (2 ^ 7))) * (2 ^ 17)))))) rfl rfl<|qa rfl rfl<|q7<|qm ?_
 obtain rfl:=someE h0
 exact ⟨.inr rfl,_,rfl,wkE [] [] [] rfl ⟨⟨_,rfl,.d (.refl _)⟩,trivial⟩ ⟨⟨ltd rfl,.inr ⟨by decide,_,rfl,.dat _ _⟩⟩,trivial⟩⟩
theorem q7o (p0 : List Int) (p1 : Int) (p2 : Int) (r : List Int) (h0 : q2o  p0 p1 p2 = some r) : EvCall Try.prog tab 99 [.hs 0 1 0 p0.length,.d (.int .i64 p1),.d (.int .i64 p2)] [(0,.dat 1 (p0.map (eI .i64)))] 1 (.d (.tup [])) [(0,.dat 1 (r.map (eI .i64)))] 1:=by
 unfold q2o at h0
 refine q18 Try.func99 rfl (by kernel_rfl) (by kernel_rfl) rfl<|q8<|q6<|q0 rfl rfl<|q0 rfl rfl<|q9 (.d (.int .i64 (w64 (p2 - p1)))) rfl rfl<|qa rfl rfl<|q7<|q8<|q6<|q0 rfl rfl<|q9 (.d (.bool (decide ((w64 (p2 - p1)) ≥ 8)))) rfl rfl<|q7 ?_
 refine qd rfl h0 (fun _ h0=>?_) (fun _ h0=>?_)
 ·refine q8<|q6<|q0 rfl rfl<|q9 (.d (.int .u64 (IntKind.wrap .u64 (w64 (p2 - p1))))) rfl rfl<|q3q rfl rfl<|q1z 1 (.dat 1 [[.int .u64 (IntKind.wrap .u64 (w64 (p2 - p1)))]]) rfl rfl<|q7<|q8<|q6<|q0 rfl rfl ?_
  obtain ⟨r101,h102,h0⟩:=bindE h0
  refine q11 [.d (.int .i64 (w64 (p2 - p1)))] (q88 (w64 (p2 - p1)) r101 h102) rfl rfl rfl (.inl rfl)<|qa rfl rfl<|q7<|q8<|q6<|q0 rfl rfl<|q0 rfl rfl<|q9 (.d (.int .i64 (w64 (Int.tdiv (w64 (p2 - p1)) 4)))) rfl rfl<|q9 (.d (.int .i64 (w64 ((w64 (Int.tdiv (w64 (p2 - p1)) 4)) * 2)))) rfl rfl<|q9 (.d (.int .i64 (w64 (p1 + (w64 ((w64 (Int.tdiv (w64 (p2 - p1)) 4)) * 2)))))) rfl rfl<|q9 (.d (.int .i64 (w64 ((w64 (p1 + (w64 ((w64 (Int.tdiv (w64 (p2 - p1)) 4)) * 2)))) - 1)))) rfl rfl<|qa rfl rfl<|q7 ?_
  obtain ⟨m154,h155,h0⟩:=bindE h0
  refine ql<|qo (q23 p1 p2 r101) (fun (a153 : Int × List Int × Int)=>⟨[(0,.hs 0 1 0 a153.2.1.length),(1,.d (.int .i64 p1)),(6,.d (.int .i64 (w64 (p2 - p1)))),(7,.ref 1 1 0 0),(8,.d (.int .u64 r101)),(9,.d (.int .i64 a153.1))],[(0,.dat 1 (a153.2.1.map (eI .i64))),(1,.dat 1 [[.int .u64 a153.2.2]])],2⟩) (w64 ((w64 (p1 + (w64 ((w64 (Int.tdiv (w64 (p2 - p1)) 4)) * 2)))) - 1),p0,IntKind.wrap .u64 (w64 (p2 - p1))) m154 h155 (wkE [(1,1)] [] [] rfl ⟨⟨_,rfl,.hs rfl (by decide) (ltd rfl)⟩,⟨_,rfl,.d (.refl _)⟩,⟨_,rfl,.d (.refl _)⟩,⟨_,rfl,.ref rfl (by decide) (ltd rfl)⟩,⟨_,rfl,.d (.refl _)⟩,⟨_,rfl,.d (.refl _)⟩,trivial⟩ ⟨⟨ltd rfl,.inr ⟨by decide,_,rfl,.dat _ _⟩⟩,⟨ltd rfl,.inr ⟨by decide,_,rfl,.dat _ _⟩⟩,trivial⟩) ?_
  intro a153 y151 h152
  unfold q23 at h152
  refine q8<|q8<|q6<|q0 rfl rfl<|q0 rfl rfl<|q0 rfl rfl<|q9 (.d (.int .i64 (w64 (Int.tdiv (w64 (p2 - p1)) 4)))) rfl rfl<|q9 (.d (.int .i64 (w64 ((w64 (Int.tdiv (w64 (p2 - p1)) 4)) * 2)))) rfl rfl<|q9 (.d (.int .i64 (w64 (p1 + (w64 ((w64 (Int.tdiv (w64 (p2 - p1)) 4)) * 2)))))) rfl rfl<|q9 (.d (.int .i64 (w64 ((w64 (p1 + (w64 ((w64 (Int.tdiv (w64 (p2 - p1)) 4)) * 2)))) + 1)))) rfl rfl<|q9 (.d (.bool (decide (a153.1≤(w64 ((w64 (p1 + (w64 ((w64 (Int.tdiv (w64 (p2 - p1)) 4)) * 2)))) + 1)))))) rfl rfl<|q7 ?_
  refine qd rfl h152 (fun _ h152=>?_) (fun _ h152=>?_)
  ·refine qg<|q8<|ql<|q8<|q6 ?_
   obtain ⟨e168,h169,h152⟩:=bindE h152
   refine q12 [(0,1)] [(0,1),(1,0)] [.ref 1 1 0 0] (.d (.int .u64 e168)) [(1,.dat 1 [[.int .u64 e168]])] [(1,.dat 1 [[.int .u64 e168]]),(0,.dat 1 (a153.2.1.map (eI .i64)))] 2 (q78 a153.2.2 e168 h169) rfl rfl rfl (qx [(0,1)] [] [] rfl ⟨⟨_,rfl,.ref rfl (by decide) (ltd rfl)⟩,trivial⟩ ⟨⟨ltd rfl,.inr ⟨by decide,_,rfl,.dat _ _⟩⟩,trivial⟩) (qx [(0,1),(1,0)] [] [] rfl ⟨⟨_,rfl,.d (.refl _)⟩,trivial⟩ ⟨⟨ltd rfl,.inr ⟨by decide,_,rfl,.dat _ _⟩⟩,trivial⟩) rfl ⟨.inl rfl,.inr ⟨rfl,rfl⟩,trivial⟩<|q0 rfl rfl<|q9 (.d (.int .u64 (IntKind.wrap .u64 (r101 - 1)))) rfl rfl<|q9 (.d (.int .u64 (andI .u64 e168 (IntKind.wrap .u64 (r101 - 1))))) rfl rfl<|q9 (.d (.int .i64 (w64 (andI .u64 e168 (IntKind.wrap .u64 (r101 - 1)))))) rfl rfl<|qa rfl rfl<|q7<|q8<|q8<|q6<|q0 rfl rfl<|q0 rfl rfl<|q9 (.d (.bool (decide ((w64 (andI .u64 e168 (IntKind.wrap .u64 (r101 - 1)))) ≥ (w64 (p2 - p1)))))) rfl rfl<|q7 ?_
   obtain ⟨m171,h170,h152⟩:=bindE h152
   refine q5c (fun b172=>b172 = m171) (fun (b172 : Int)=>⟨[(0,.hs 0 1 0 a153.2.1.length),(1,.d (.int .i64 p1)),(6,.d (.int .i64 (w64 (p2 - p1)))),(7,.ref 1 1 0 0),(8,.d (.int .u64 r101)),(9,.d (.int .i64 a153.1)),(10,.d (.int .i64 b172))],[(0,.dat 1 (a153.2.1.map (eI .i64))),(1,.dat 1 [[.int .u64 e168]])],2⟩) (by simp) ?_ ?_
   ·refine qd rfl h170 (fun _ h170=>?_) (fun _ h170=>?_)
    ·refine q6<|q0 rfl rfl<|q0 rfl rfl<|q9 (.d (.int .i64 (w64 ((w64 (andI .u64 e168 (IntKind.wrap .u64 (r101 - 1)))) - (w64 (p2 - p1)))))) rfl rfl<|qa rfl rfl<|q7<|qf ?_
     obtain rfl:=someE h170
     exact ⟨_,rfl,wkE [(1,1)] [] [] rfl ⟨⟨_,rfl,.hs rfl (by decide) (ltd rfl)⟩,⟨_,rfl,.d (.refl _)⟩,⟨_,rfl,.d (.refl _)⟩,⟨_,rfl,.ref rfl (by decide) (ltd rfl)⟩,⟨_,rfl,.d (.refl _)⟩,⟨_,rfl,.d (.refl _)⟩,⟨_,rfl,.d (.refl _)⟩,trivial⟩ ⟨⟨ltd rfl,.inr ⟨by decide,_,rfl,.dat _ _⟩⟩,⟨ltd rfl,.inr ⟨by decide,_,rfl,.dat _ _⟩⟩,trivial⟩⟩
    ·refine qg<|qf ?_
     obtain rfl:=someE h170
     exact ⟨_,rfl,wkE [(1,1)] [] [] rfl ⟨⟨_,rfl,.hs rfl (by decide) (ltd rfl)⟩,⟨_,rfl,.d (.refl _)⟩,⟨_,rfl,.d (.refl _)⟩,⟨_,rfl,.ref rfl (by decide) (ltd rfl)⟩,⟨_,rfl,.d (.refl _)⟩,⟨_,rfl,.d (.refl _)⟩,⟨_,rfl,.d (.refl _)⟩,trivial⟩ ⟨⟨ltd rfl,.inr ⟨by decide,_,rfl,.dat _ _⟩⟩,⟨ltd rfl,.inr ⟨by decide,_,rfl,.dat _ _⟩⟩,trivial⟩⟩
   ·intro b172 hb
    subst hb
    refine qk [(some [0],[0]),(some [],[]),(some [0],[0]),(some [],[]),(some [0],[]),(some [],[]),(some [],[]),(some [],[]),(some [0],[]),(some [],[]),(some [],[]),(some [],[]),(some [],[]),(some [],[]),(some [],[]),(some [],[]),(some [],[]),(some [],[]),(some [],[]),(some [],[])] (by kernel_rfl)<|q0 rfl rfl<|q0 rfl rfl<|q0 rfl rfl<|q0 rfl rfl<|q0 rfl rfl<|q9 (.d (.int .i64 (w64 (p1 + b172)))) rfl rfl<|q0 rfl rfl<|q0 rfl rfl<|q0 rfl rfl<|q9 (.d (.int .i64 (w64 (p1 + b172)))) rfl rfl ?_
    obtain ⟨v173,h174,h152⟩:=bindE h152
    refine qj h174 rfl rfl rfl rfl rfl rfl rfl<|qr (.d (.int .i64 v173)) h174 rfl rfl rfl rfl rfl rfl<|q0 rfl rfl<|q0 rfl rfl ?_
    obtain ⟨v175,h176,h152⟩:=bindE h152
    refine qj h176 rfl rfl rfl rfl rfl rfl rfl<|qr (.d (.int .i64 v175)) h176 rfl rfl rfl rfl rfl rfl ?_
    obtain ⟨v177,h178,h152⟩:=bindE h152
    refine qj h178 rfl rfl rfl rfl rfl rfl rfl<|q19 (ds:=[.int .i64 v173]) v173 h178 rfl rfl rfl rfl rfl rfl rfl rfl (leb rfl) rfl ?_
    obtain ⟨v179,h180,h152⟩:=bindE h152
    refine qj h180 (by simp) rfl rfl rfl rfl rfl rfl<|q19 (ds:=[.int .i64 v175]) v175 h180 rfl rfl rfl rfl rfl rfl rfl rfl (leb rfl) rfl<|q7<|qf<|qv<|q6<|q0 rfl rfl<|q9 (.d (.int .i64 (w64 (a153.1 + 1)))) rfl rfl<|qa rfl rfl<|q7<|qf ?_
    exact ⟨_,(Option.some.inj h152).symm,wkE [(1,1)] [] [] rfl ⟨⟨_,rfl,q16 (by simp) rfl (by decide) (ltd rfl)⟩,⟨_,rfl,.d (.refl _)⟩,⟨_,rfl,.d (.refl _)⟩,⟨_,rfl,.ref rfl (by decide) (ltd rfl)⟩,⟨_,rfl,.d (.refl _)⟩,⟨_,rfl,.d (.refl _)⟩,trivial⟩ ⟨⟨ltd rfl,.inr ⟨by decide,_,rfl,.dat _ _⟩⟩,⟨ltd rfl,.inr ⟨by decide,_,rfl,.dat _ _⟩⟩,trivial⟩⟩
  ·refine qp ?_
   refine ⟨_,(Option.some.inj h152).symm,fun hm=>?_⟩
   subst hm
   obtain rfl:=someE h0
   exact ⟨.inl rfl,_,rfl,wkE [] [] [] rfl ⟨⟨_,rfl,.d (.refl _)⟩,trivial⟩ ⟨⟨ltd rfl,.inr ⟨by decide,_,rfl,.dat _ _⟩⟩,trivial⟩⟩
 ·refine qg<|qf ?_
  obtain rfl:=someE h0
  exact ⟨.inl rfl,_,rfl,wkE [] [] [] rfl ⟨⟨_,rfl,.d (.refl _)⟩,trivial⟩ ⟨⟨ltd rfl,.inr ⟨by decide,_,rfl,.dat _ _⟩⟩,trivial⟩⟩
theorem q5a (p0 : List Int) (p1 : Int) (p2 : Int) (p3 : Int) (r : Int × Int × Int) (h0 : q2j  p0 p1 p2 p3 = some r) : EvCall Try.prog tab 119 [.d (.sl 1 (p0.map (eI .i64))),.d (.int .i64 p1),.d (.int .i64 p2),.ref 0 1 0 0] [(0,.dat 1 [[.int .i64 p3]])] 1 (.d (.tup [.int .i64 r.1,.int .i64 r.2.1])) [(0,.dat 1 [[.int .i64 r.2.2]])] 1:=by
 unfold q2j at h0
 refine q18 Try.func119 rfl (by kernel_rfl) (by kernel_rfl) rfl<|q8<|q6<|qa rfl rfl<|qa rfl rfl<|q7<|q8<|q8<|qk [(some [],[]),(some [],[]),(some [],[]),(some [],[]),(some [],[]),(some [],[]),(some [],[]),(some [],[]),(some [],[])] (by kernel_rfl)<|q0 rfl rfl<|q0 rfl rfl ?_
 obtain ⟨v101,h102,h0⟩:=bindE h0
 refine q10 (enc:=(eI .i64)) h102 rfl rfl rfl rfl rfl rfl<|q9 (.d (.int .i64 v101)) rfl rfl<|q0 rfl rfl<|q0 rfl rfl ?_
 obtain ⟨v103,h104,h0⟩:=bindE h0
 refine q10 (enc:=(eI .i64)) h104 rfl rfl rfl rfl rfl rfl<|q9 (.d (.int .i64 v103)) rfl rfl ?_
 obtain ⟨r105,h106,h0⟩:=bindE h0
 refine q11 [.d (.int .i64 v101),.d (.int .i64 v103)] (q3b v101 v103 r105 h106) rfl rfl rfl (.inl rfl)<|q7 ?_
 refine qd rfl h0 (fun _ h0=>?_) (fun _ h0=>?_)
 ·refine q8<|q6<|q0 rfl rfl<|q9 (.ref 0 1 0 0) rfl rfl<|q9 (.d (.int .i64 p3)) rfl rfl<|q9 (.d (.int .i64 (w64 (p3 + 1)))) rfl rfl<|q9 (.ref 0 1 0 0) rfl rfl<|q1z 0 (.dat 1 [[.int .i64 (w64 (p3 + 1))]]) rfl rfl<|q7<|q8<|q6<|q0 rfl rfl<|q0 rfl rfl<|qa rfl rfl<|qa rfl rfl<|q7<|qm ?_
  obtain rfl:=someE h0
  exact ⟨.inr rfl,_,rfl,wkE [] [] [] rfl ⟨⟨_,rfl,.d (.refl _)⟩,trivial⟩ ⟨⟨ltd rfl,.inr ⟨by decide,_,rfl,.dat _ _⟩⟩,trivial⟩⟩
 ·refine qg<|q8<|q6<|q0 rfl rfl<|q0 rfl rfl<|qa rfl rfl<|qa rfl rfl<|q7<|qm ?_
  obtain rfl:=someE h0
  exact ⟨.inr rfl,_,rfl,wkE [] [] [] rfl ⟨⟨_,rfl,.d (.refl _)⟩,trivial⟩ ⟨⟨ltd rfl,.inr ⟨by decide,_,rfl,.dat _ _⟩⟩,trivial⟩⟩
theorem q6k (p0 : List Int) (p1 : Int) (p2 : Int) (p3 : Int) (p4 : Int) (r : Int × Int) (h0 : q3k  p0 p1 p2 p3 p4 = some r) : EvCall Try.prog tab 115 [.d (.sl 1 (p0.map (eI .i64))),.d (.int .i64 p1),.d (.int .i64 p2),.d (.int .i64 p3),.ref 0 1 0 0] [(0,.dat 1 [[.int .i64 p4]])] 1 (.d (.int .i64 r.1)) [(0,.dat 1 [[.int .i64 r.2]])] 1:=by
 unfold q3k at h0
 refine q18 Try.func115 rfl (by kernel_rfl) (by kernel_rfl) rfl<|q8<|q6<|qa rfl rfl<|q7<|q8<|q6<|q0 rfl rfl<|q0 rfl rfl<|q0 rfl rfl<|q0 rfl rfl ?_
 obtain ⟨e101,h102,h0⟩:=bindE h0
 refine q12 [(0,0)] [(0,0)] [.d (.sl 1 (p0.map (eI .i64))),.d (.int .i64 p1),.d (.int .i64 p2),.ref 0 1 0 0] (.d (.tup [.int .i64 e101.1,.int .i64 e101.2.1])) [(0,.dat 1 [[.int .i64 e101.2.2]])] [(0,.dat 1 [[.int .i64 e101.2.2]])] 1 (q5a p0 p1 p2 p4 e101 h102) rfl rfl rfl (qx [(0,0)] [] [] rfl ⟨⟨_,rfl,.d (.refl _)⟩,⟨_,rfl,.d (.refl _)⟩,⟨_,rfl,.d (.refl _)⟩,⟨_,rfl,.ref rfl (by decide) (ltd rfl)⟩,trivial⟩ ⟨⟨ltd rfl,.inr ⟨by decide,_,rfl,.dat _ _⟩⟩,trivial⟩) (qx [(0,0)] [] [] rfl ⟨⟨_,rfl,.d (.refl _)⟩,trivial⟩ ⟨⟨ltd rfl,.inr ⟨by decide,_,rfl,.dat _ _⟩⟩,trivial⟩) rfl ⟨.inl rfl,trivial⟩<|q0 rfl rfl<|q9 (.d (.int .i64 e101.1)) rfl rfl<|q9 (.d (.int .i64 e101.2.1)) rfl rfl<|qa rfl rfl<|qa rfl rfl<|q7<|q8<|q6<|q0 rfl rfl<|q0 rfl rfl<|q0 rfl rfl<|q0 rfl rfl ?_
 obtain ⟨e103,h104,h0⟩:=bindE h0
 refine q12 [(0,0)] [(0,0)] [.d (.sl 1 (p0.map (eI .i64))),.d (.int .i64 e101.2.1),.d (.int .i64 p3),.ref 0 1 0 0] (.d (.tup [.int .i64 e103.1,.int .i64 e103.2.1])) [(0,.dat 1 [[.int .i64 e103.2.2]])] [(0,.dat 1 [[.int .i64 e103.2.2]])] 1 (q5a p0 e101.2.1 p3 e101.2.2 e103 h104) rfl rfl rfl (qx [(0,0)] [] [] rfl ⟨⟨_,rfl,.d (.refl _)⟩,⟨_,rfl,.d (.refl _)⟩,⟨_,rfl,.d (.refl _)⟩,⟨_,rfl,.ref rfl (by decide) (ltd rfl)⟩,trivial⟩ ⟨⟨ltd rfl,.inr ⟨by decide,_,rfl,.dat _ _⟩⟩,trivial⟩) (qx [(0,0)] [] [] rfl ⟨⟨_,rfl,.d (.refl _)⟩,trivial⟩ ⟨⟨ltd rfl,.inr ⟨by decide,_,rfl,.dat _ _⟩⟩,trivial⟩) rfl ⟨.inl rfl,trivial⟩<|q0 rfl rfl<|q9 (.d (.int .i64 e103.1)) rfl rfl<|q9 (.d (.int .i64 e103.2.1)) rfl rfl<|qa rfl rfl<|qa rfl rfl<|q7<|q8<|q6<|q0 rfl rfl<|q0 rfl rfl<|q0 rfl rfl<|q0 rfl rfl ?_
 obtain ⟨e105,h106,h0⟩:=bindE h0
 refine q12 [(0,0)] [(0,0)] [.d (.sl 1 (p0.map (eI .i64))),.d (.int .i64 e101.1),.d (.int .i64 e103.1),.ref 0 1 0 0] (.d (.tup [.int .i64 e105.1,.int .i64 e105.2.1])) [(0,.dat 1 [[.int .i64 e105.2.2]])] [(0,.dat 1 [[.int .i64 e105.2.2]])] 1 (q5a p0 e101.1 e103.1 e103.2.2 e105 h106) rfl rfl rfl (qx [(0,0)] [] [] rfl ⟨⟨_,rfl,.d (.refl _)⟩,⟨_,rfl,.d (.refl _)⟩,⟨_,rfl,.d (.refl _)⟩,⟨_,rfl,.ref rfl (by decide) (ltd rfl)⟩,trivial⟩ ⟨⟨ltd rfl,.inr ⟨by decide,_,rfl,.dat _ _⟩⟩,trivial⟩) (qx [(0,0)] [] [] rfl ⟨⟨_,rfl,.d (.refl _)⟩,trivial⟩ ⟨⟨ltd rfl,.inr ⟨by decide,_,rfl,.dat _ _⟩⟩,trivial⟩) rfl ⟨.inl rfl,trivial⟩<|q0 rfl rfl<|q9 (.d (.int .i64 e105.1)) rfl rfl<|q9 (.d (.int .i64 e105.2.1)) rfl rfl<|qa rfl rfl<|qa rfl rfl<|q7<|q8<|q6<|q0 rfl rfl<|qa rfl rfl<|q7<|qm ?_
 obtain rfl:=someE h0
 exact ⟨.inr rfl,_,rfl,wkE [] [] [] rfl ⟨⟨_,rfl,.d (.refl _)⟩,trivial⟩ ⟨⟨ltd rfl,.inr ⟨by decide,_,rfl,.dat _ _⟩⟩,trivial⟩⟩
theorem q4m (p0 : List Int) (p1 : Int) (p2 : Int) (r : Int × Int) (h0 : q1j  p0 p1 p2 = some r) : EvCall Try.prog tab 114 [.d (.sl 1 (p0.map (eI .i64))),.d (.int .i64 p1),.ref 0 1 0 0] [(0,.dat 1 [[.int .i64 p2]])] 1 (.d (.int .i64 r.1)) [(0,.dat 1 [[.int .i64 r.2]])] 1:=by
 unfold q1j at h0
 refine q18 Try.func114 rfl (by kernel_rfl) (by kernel_rfl) rfl<|q8<|q6<|qa rfl rfl<|q7<|q8<|q6<|q0 rfl rfl<|q0 rfl rfl<|q9 (.d (.int .i64 (w64 (p1 - 1)))) rfl rfl<|q0 rfl rfl<|q0 rfl rfl<|q9 (.d (.int .i64 (w64 (p1 + 1)))) rfl rfl<|q0 rfl rfl ?_
 obtain ⟨e101,h102,h0⟩:=bindE h0
 refine q12 [(0,0)] [(0,0)] [.d (.sl 1 (p0.map (eI .i64))),.d (.int .i64 (w64 (p1 - 1))),.d (.int .i64 p1),.d (.int .i64 (w64 (p1 + 1))),.ref 0 1 0 0] (.d (.int .i64 e101.1)) [(0,.dat 1 [[.int .i64 e101.2]])] [(0,.dat 1 [[.int .i64 e101.2]])] 1 (q6k p0 (w64 (p1 - 1)) p1 (w64 (p1 + 1)) p2 e101 h102) rfl rfl rfl (qx [(0,0)] [] [] rfl ⟨⟨_,rfl,.d (.refl _)⟩,⟨_,rfl,.d (.refl _)⟩,⟨_,rfl,.d (.refl _)⟩,⟨_,rfl,.d (.refl _)⟩,⟨_,rfl,.ref rfl (by decide) (ltd rfl)⟩,trivial⟩ ⟨⟨ltd rfl,.inr ⟨by decide,_,rfl,.dat _ _⟩⟩,trivial⟩) (qx [(0,0)] [] [] rfl ⟨⟨_,rfl,.d (.refl _)⟩,trivial⟩ ⟨⟨ltd rfl,.inr ⟨by decide,_,rfl,.dat _ _⟩⟩,trivial⟩) rfl ⟨.inl rfl,trivial⟩<|qa rfl rfl<|q7<|qm ?_
 obtain rfl:=someE h0
 exact ⟨.inr rfl,_,rfl,wkE [] [] [] rfl ⟨⟨_,rfl,.d (.refl _)⟩,trivial⟩ ⟨⟨ltd rfl,.inr ⟨by decide,_,rfl,.dat _ _⟩⟩,trivial⟩⟩
theorem q91 (p0 : List Int) (p1 : Int) (p2 : Int) (r : Int × Int) (h0 : q3v p0 p1 p2 = some r) : Pure Try.prog tab 100 [.sl 1 (p0.map (eI .i64)),.int .i64 p1,.int .i64 p2] (.tup [.int .i64 r.1,.int .i64 r.2]):=by
 unfold q3v at h0
 refine qu Try.func100 rfl (by kernel_rfl) (by kernel_rfl) rfl<|q8<|q6<|qa rfl rfl<|qa rfl rfl<|q7<|q8<|q6<|q0 rfl rfl<|q0 rfl rfl<|q9 (.d (.int .i64 (w64 (p2 - p1)))) rfl rfl<|qa rfl rfl<|q7<|q8<|q6<|q3q rfl rfl<|q7<|q8<|q6<|q0 rfl rfl<|q0 rfl rfl<|q9 (.d (.int .i64 (w64 (Int.tdiv (w64 (p2 - p1)) 4)))) rfl rfl<|q9 (.d (.int .i64 (w64 ((w64 (Int.tdiv (w64 (p2 - p1)) 4)) * 1)))) rfl rfl<|q9 (.d (.int .i64 (w64 (p1 + (w64 ((w64 (Int.tdiv (w64 (p2 - p1)) 4)) * 1)))))) rfl rfl<|qa rfl rfl<|q7<|q8<|q6<|q0 rfl rfl<|q0 rfl rfl<|q9 (.d (.int .i64 (w64 (Int.tdiv (w64 (p2 - p1)) 4)))) rfl rfl<|q9 (.d (.int .i64 (w64 ((w64 (Int.tdiv (w64 (p2 - p1)) 4)) * 2)))) rfl rfl<|q9 (.d (.int .i64 (w64 (p1 + (w64 ((w64 (Int.tdiv (w64 (p2 - p1)) 4)) * 2)))))) rfl rfl<|qa rfl rfl<|q7<|q8<|q6<|q0 rfl rfl<|q0 rfl rfl<|q9 (.d (.int .i64 (w64 (Int.tdiv (w64 (p2 - p1)) 4)))) rfl rfl ?_
 refine q9 (.d (.int .i64 (w64 ((w64 (Int.tdiv (w64 (p2 - p1)) 4)) * 3)))) rfl rfl<|q9 (.d (.int .i64 (w64 (p1 + (w64 ((w64 (Int.tdiv (w64 (p2 - p1)) 4)) * 3)))))) rfl rfl<|qa rfl rfl<|q7<|q8<|q8<|q6<|q0 rfl rfl<|q9 (.d (.bool (decide ((w64 (p2 - p1)) ≥ 8)))) rfl rfl<|q7 ?_
 obtain ⟨m14,h13,h0⟩:=bindE h0
 refine q5c (fun b15=>b15 = m14) (fun (b15 : Int × Int)=>⟨[(9,.ref 0 1 0 0),(11,.d (.int .i64 b15.1))],[(0,.dat 1 [[.int .i64 b15.2]])],1⟩) (by simp) ?_ ?_
 ·refine qd rfl h13 (fun _ h13=>?_) (fun _ h13=>?_)
  ·refine q8<|q8<|q6<|q0 rfl rfl<|q9 (.d (.bool (decide ((w64 (p2 - p1)) ≥ 50)))) rfl rfl<|q7 ?_
   obtain ⟨m23,h22,h13⟩:=bindE h13
   refine q5c (fun b24=>b24 = m23) (fun (b24 : Int × Int × Int × Int)=>⟨[(0,.d (.sl 1 (p0.map (eI .i64)))),(9,.ref 0 1 0 0),(10,.d (.int .i64 b24.1)),(11,.d (.int .i64 b24.2.1)),(12,.d (.int .i64 b24.2.2.1))],[(0,.dat 1 [[.int .i64 b24.2.2.2]])],1⟩) (by simp) ?_ ?_
   ·refine qd rfl h22 (fun _ h22=>?_) (fun _ h22=>?_)
    ·refine q8<|q6<|q0 rfl rfl<|q0 rfl rfl ?_
     obtain ⟨e25,h26,h22⟩:=bindE h22
     refine q12 [(0,0)] [(0,0)] [.d (.sl 1 (p0.map (eI .i64))),.d (.int .i64 (w64 (p1 + (w64 ((w64 (Int.tdiv (w64 (p2 - p1)) 4)) * 1))))),.ref 0 1 0 0] (.d (.int .i64 e25.1)) [(0,.dat 1 [[.int .i64 e25.2]])] [(0,.dat 1 [[.int .i64 e25.2]])] 1 (q4m p0 (w64 (p1 + (w64 ((w64 (Int.tdiv (w64 (p2 - p1)) 4)) * 1)))) 0 e25 h26) rfl rfl rfl (qx [(0,0)] [] [] rfl ⟨⟨_,rfl,.d (.refl _)⟩,⟨_,rfl,.d (.refl _)⟩,⟨_,rfl,.ref rfl (by decide) (ltd rfl)⟩,trivial⟩ ⟨⟨ltd rfl,.inr ⟨by decide,_,rfl,.dat _ _⟩⟩,trivial⟩) (qx [(0,0)] [] [] rfl ⟨⟨_,rfl,.d (.refl _)⟩,trivial⟩ ⟨⟨ltd rfl,.inr ⟨by decide,_,rfl,.dat _ _⟩⟩,trivial⟩) rfl ⟨.inl rfl,trivial⟩<|qa rfl rfl<|q7<|q8<|q6<|q0 rfl rfl<|q0 rfl rfl ?_
     obtain ⟨e27,h28,h22⟩:=bindE h22
     refine q12 [(0,0)] [(0,0)] [.d (.sl 1 (p0.map (eI .i64))),.d (.int .i64 (w64 (p1 + (w64 ((w64 (Int.tdiv (w64 (p2 - p1)) 4)) * 2))))),.ref 0 1 0 0] (.d (.int .i64 e27.1)) [(0,.dat 1 [[.int .i64 e27.2]])] [(0,.dat 1 [[.int .i64 e27.2]])] 1 (q4m p0 (w64 (p1 + (w64 ((w64 (Int.tdiv (w64 (p2 - p1)) 4)) * 2)))) e25.2 e27 h28) rfl rfl rfl (qx [(0,0)] [] [] rfl ⟨⟨_,rfl,.d (.refl _)⟩,⟨_,rfl,.d (.refl _)⟩,⟨_,rfl,.ref rfl (by decide) (ltd rfl)⟩,trivial⟩ ⟨⟨ltd rfl,.inr ⟨by decide,_,rfl,.dat _ _⟩⟩,trivial⟩) (qx [(0,0)] [] [] rfl ⟨⟨_,rfl,.d (.refl _)⟩,trivial⟩ ⟨⟨ltd rfl,.inr ⟨by decide,_,rfl,.dat _ _⟩⟩,trivial⟩) rfl ⟨.inl rfl,trivial⟩<|qa rfl rfl<|q7<|q6<|q0 rfl rfl<|q0 rfl rfl ?_
     obtain ⟨e29,h30,h22⟩:=bindE h22
     refine q12 [(0,0)] [(0,0)] [.d (.sl 1 (p0.map (eI .i64))),.d (.int .i64 (w64 (p1 + (w64 ((w64 (Int.tdiv (w64 (p2 - p1)) 4)) * 3))))),.ref 0 1 0 0] (.d (.int .i64 e29.1)) [(0,.dat 1 [[.int .i64 e29.2]])] [(0,.dat 1 [[.int .i64 e29.2]])] 1 (q4m p0 (w64 (p1 + (w64 ((w64 (Int.tdiv (w64 (p2 - p1)) 4)) * 3)))) e27.2 e29 h30) rfl rfl rfl (qx [(0,0)] [] [] rfl ⟨⟨_,rfl,.d (.refl _)⟩,⟨_,rfl,.d (.refl _)⟩,⟨_,rfl,.ref rfl (by decide) (ltd rfl)⟩,trivial⟩ ⟨⟨ltd rfl,.inr ⟨by decide,_,rfl,.dat _ _⟩⟩,trivial⟩) (qx [(0,0)] [] [] rfl ⟨⟨_,rfl,.d (.refl _)⟩,trivial⟩ ⟨⟨ltd rfl,.inr ⟨by decide,_,rfl,.dat _ _⟩⟩,trivial⟩) rfl ⟨.inl rfl,trivial⟩<|qa rfl rfl<|q7<|qf ?_
     obtain rfl:=someE h22
     exact ⟨_,rfl,wkE [(0,0)] [] [] rfl ⟨⟨_,rfl,.d (.refl _)⟩,⟨_,rfl,.ref rfl (by decide) (ltd rfl)⟩,⟨_,rfl,.d (.refl _)⟩,⟨_,rfl,.d (.refl _)⟩,⟨_,rfl,.d (.refl _)⟩,trivial⟩ ⟨⟨ltd rfl,.inr ⟨by decide,_,rfl,.dat _ _⟩⟩,trivial⟩⟩
    ·refine qg<|qf ?_
     obtain rfl:=someE h22
     exact ⟨_,rfl,wkE [(0,0)] [] [] rfl ⟨⟨_,rfl,.d (.refl _)⟩,⟨_,rfl,.ref rfl (by decide) (ltd rfl)⟩,⟨_,rfl,.d (.refl _)⟩,⟨_,rfl,.d (.refl _)⟩,⟨_,rfl,.d (.refl _)⟩,trivial⟩ ⟨⟨ltd rfl,.inr ⟨by decide,_,rfl,.dat _ _⟩⟩,trivial⟩⟩
   ·intro b24 hb
    subst hb
    refine q6<|q0 rfl rfl<|q0 rfl rfl<|q0 rfl rfl<|q0 rfl rfl ?_
    obtain ⟨e31,h32,h13⟩:=bindE h13
    refine q12 [(0,0)] [(0,0)] [.d (.sl 1 (p0.map (eI .i64))),.d (.int .i64 b24.1),.d (.int .i64 b24.2.1),.d (.int .i64 b24.2.2.1),.ref 0 1 0 0] (.d (.int .i64 e31.1)) [(0,.dat 1 [[.int .i64 e31.2]])] [(0,.dat 1 [[.int .i64 e31.2]])] 1 (q6k p0 b24.1 b24.2.1 b24.2.2.1 b24.2.2.2 e31 h32) rfl rfl rfl (qx [(0,0)] [] [] rfl ⟨⟨_,rfl,.d (.refl _)⟩,⟨_,rfl,.d (.refl _)⟩,⟨_,rfl,.d (.refl _)⟩,⟨_,rfl,.d (.refl _)⟩,⟨_,rfl,.ref rfl (by decide) (ltd rfl)⟩,trivial⟩ ⟨⟨ltd rfl,.inr ⟨by decide,_,rfl,.dat _ _⟩⟩,trivial⟩) (qx [(0,0)] [] [] rfl ⟨⟨_,rfl,.d (.refl _)⟩,trivial⟩ ⟨⟨ltd rfl,.inr ⟨by decide,_,rfl,.dat _ _⟩⟩,trivial⟩) rfl ⟨.inl rfl,trivial⟩<|qa rfl rfl<|q7<|qf ?_
    obtain rfl:=someE h13
    exact ⟨_,rfl,wkE [(0,0)] [] [] rfl ⟨⟨_,rfl,.ref rfl (by decide) (ltd rfl)⟩,⟨_,rfl,.d (.refl _)⟩,trivial⟩ ⟨⟨ltd rfl,.inr ⟨by decide,_,rfl,.dat _ _⟩⟩,trivial⟩⟩
  ·refine qg<|qf ?_
   obtain rfl:=someE h13
   exact ⟨_,rfl,wkE [(0,0)] [] [] rfl ⟨⟨_,rfl,.ref rfl (by decide) (ltd rfl)⟩,⟨_,rfl,.d (.refl _)⟩,trivial⟩ ⟨⟨ltd rfl,.inr ⟨by decide,_,rfl,.dat _ _⟩⟩,trivial⟩⟩
 ·intro b15 hb
  subst hb
  refine q8<|q6<|q9 (.d (.int .i64 b15.2)) rfl rfl<|q7<|ql<|q8<|q6<|q9 (.d (.bool (b15.2 == 0))) rfl rfl<|qa rfl rfl<|q7 ?_
  refine qd rfl h0 (fun _ h0=>?_) (fun _ h0=>?_)
  ·refine q8<|q6<|q0 rfl rfl<|qa rfl rfl<|qa rfl rfl<|q7<|qm ?_
   obtain rfl:=someE h0
   exact finD (.inr rfl) (v:=.d (.tup [.int .i64 b15.1,.int .i64 1])) rfl rfl (.refl _)
  ·refine q8<|q6<|q9 (.d (.bool (b15.2 == 12))) rfl rfl<|qa rfl rfl<|q7 ?_
   refine qd rfl h0 (fun _ h0=>?_) (fun _ h0=>?_)
   ·refine q8<|q6<|q0 rfl rfl<|qa rfl rfl<|qa rfl rfl<|q7<|qm ?_
    obtain rfl:=someE h0
    exact finD (.inr rfl) (v:=.d (.tup [.int .i64 b15.1,.int .i64 2])) rfl rfl (.refl _)
   ·refine q8<|q6<|q0 rfl rfl<|qa rfl rfl<|qa rfl rfl<|q7<|qm ?_
    obtain rfl:=someE h0
    exact finD (.inr rfl) (v:=.d (.tup [.int .i64 b15.1,.int .i64 0])) rfl rfl (.refl _)
theorem q7u (p0 : List Int) (p1 : Int) (p2 : Int) (r : List Int) (h0 : q2w  p0 p1 p2 = some r) : EvCall Try.prog tab 101 [.hs 0 1 0 p0.length,.d (.int .i64 p1),.d (.int .i64 p2)] [(0,.dat 1 (p0.map (eI .i64)))] 1 (.d (.tup [])) [(0,.dat 1 (r.map (eI .i64)))] 1:=by
 unfold q2w at h0
 refine q18 Try.func101 rfl (by kernel_rfl) (by kernel_rfl) rfl<|q8<|q6<|q0 rfl rfl<|qa rfl rfl<|q7<|q8<|q6<|q0 rfl rfl<|q9 (.d (.int .i64 (w64 (p2 - 1)))) rfl rfl<|qa rfl rfl<|q7 ?_
 obtain ⟨m120,h121,h0⟩:=bindE h0
 refine ql<|qo (q3l) (fun (a119 : Int × Int × List Int)=>⟨[(0,.hs 0 1 0 a119.2.2.length),(6,.d (.int .i64 a119.1)),(7,.d (.int .i64 a119.2.1))],[(0,.dat 1 (a119.2.2.map (eI .i64)))],1⟩) (p1,w64 (p2 - 1),p0) m120 h121 (wkE [] [] [] rfl ⟨⟨_,rfl,.hs rfl (by decide) (ltd rfl)⟩,⟨_,rfl,.d (.refl _)⟩,⟨_,rfl,.d (.refl _)⟩,trivial⟩ ⟨⟨ltd rfl,.inr ⟨by decide,_,rfl,.dat _ _⟩⟩,trivial⟩) ?_
 intro a119 y117 h118
 unfold q3l at h118
 refine q8<|q8<|q6<|q0 rfl rfl<|q0 rfl rfl<|q9 (.d (.bool (decide (a119.1 < a119.2.1)))) rfl rfl<|q7 ?_
 refine qd rfl h118 (fun _ h118=>?_) (fun _ h118=>?_)
 ·refine qg<|ql<|q8<|qk [(some [0],[0]),(some [],[]),(some [0],[0]),(some [],[]),(some [0],[]),(some [],[]),(some [],[]),(some [],[]),(some [0],[]),(some [],[]),(some [],[]),(some [],[]),(some [],[]),(some [],[]),(some [],[]),(some [],[])] (by kernel_rfl)<|q0 rfl rfl<|q0 rfl rfl<|q0 rfl rfl<|q0 rfl rfl<|q0 rfl rfl<|q0 rfl rfl ?_
  obtain ⟨v123,h124,h118⟩:=bindE h118
  refine qj h124 rfl rfl rfl rfl rfl rfl rfl<|qr (.d (.int .i64 v123)) h124 rfl rfl rfl rfl rfl rfl<|q0 rfl rfl<|q0 rfl rfl ?_
  obtain ⟨v125,h126,h118⟩:=bindE h118
  refine qj h126 rfl rfl rfl rfl rfl rfl rfl<|qr (.d (.int .i64 v125)) h126 rfl rfl rfl rfl rfl rfl ?_
  obtain ⟨v127,h128,h118⟩:=bindE h118
  refine qj h128 rfl rfl rfl rfl rfl rfl rfl<|q19 (ds:=[.int .i64 v123]) v123 h128 rfl rfl rfl rfl rfl rfl rfl rfl (leb rfl) rfl ?_
  obtain ⟨v129,h130,h118⟩:=bindE h118
  refine qj h130 (by simp) rfl rfl rfl rfl rfl rfl<|q19 (ds:=[.int .i64 v125]) v125 h130 rfl rfl rfl rfl rfl rfl rfl rfl (leb rfl) rfl<|q7<|q8<|q6<|q0 rfl rfl<|q9 (.d (.int .i64 (w64 (a119.1 + 1)))) rfl rfl<|qa rfl rfl<|q7<|q6<|q0 rfl rfl<|q9 (.d (.int .i64 (w64 (a119.2.1 - 1)))) rfl rfl<|qa rfl rfl<|q7<|qf<|qv<|qf ?_
  exact ⟨_,(Option.some.inj h118).symm,wkE [] [] [] rfl ⟨⟨_,rfl,q16 (by simp) rfl (by decide) (ltd rfl)⟩,⟨_,rfl,.d (.refl _)⟩,⟨_,rfl,.d (.refl _)⟩,trivial⟩ ⟨⟨ltd rfl,.inr ⟨by decide,_,rfl,.dat _ _⟩⟩,trivial⟩⟩
 ·refine qp ?_
  refine ⟨_,(Option.some.inj h118).symm,fun hm=>?_⟩
  subst hm
  obtain rfl:=someE h0
  exact ⟨.inl rfl,_,rfl,wkE [] [] [] rfl ⟨⟨_,rfl,.d (.refl _)⟩,trivial⟩ ⟨⟨ltd rfl,.inr ⟨by decide,_,rfl,.dat _ _⟩⟩,trivial⟩⟩
theorem q6p (p0 : List Int) (p1 : Int) (p2 : Int) (r : Bool × List Int) (h0 : q1e  p0 p1 p2 = some r) : EvCall Try.prog tab 102 [.hs 0 1 0 p0.length,.d (.int .i64 p1),.d (.int .i64 p2)] [(0,.dat 1 (p0.map (eI .i64)))] 1 (.d (.bool r.1)) [(0,.dat 1 (r.2.map (eI .i64)))] 1:=by
 unfold q1e at h0
 refine q18 Try.func102 rfl (by kernel_rfl) (by kernel_rfl) rfl<|q8<|q6<|qa rfl rfl<|q7<|q8<|q6<|q0 rfl rfl<|q9 (.d (.int .i64 (w64 (p1 + 1)))) rfl rfl<|qa rfl rfl<|q7<|q8<|q8<|q6<|qa rfl rfl<|q7 ?_
 obtain ⟨m433,h434,h0⟩:=bindE h0
 refine qn (fun b435=>.inl b435 = m433) (fun (b435 : List Int)=>⟨[],[(0,.dat 1 (b435.map (eI .i64)))],1⟩) (by simp) ?_ ?_
 ·refine qo (q17 p2 p1) (fun (a432 : Int × Int × List Int)=>⟨[(0,.hs 0 1 0 a432.2.2.length),(1,.d (.int .i64 p1)),(2,.d (.int .i64 p2)),(7,.d (.int .i64 a432.1)),(8,.d (.int .i64 a432.2.1))],[(0,.dat 1 (a432.2.2.map (eI .i64)))],1⟩) (w64 (p1 + 1),0,p0) m433 h434 (wkE [] [] [] rfl ⟨⟨_,rfl,.hs rfl (by decide) (ltd rfl)⟩,⟨_,rfl,.d (.refl _)⟩,⟨_,rfl,.d (.refl _)⟩,⟨_,rfl,.d (.refl _)⟩,⟨_,rfl,.d (.refl _)⟩,trivial⟩ ⟨⟨ltd rfl,.inr ⟨by decide,_,rfl,.dat _ _⟩⟩,trivial⟩) ?_
  intro a432 y430 h431
  unfold q17 at h431
  refine q8<|q8<|q6<|q0 rfl rfl<|q9 (.d (.bool (decide (a432.2.1 < 5)))) rfl rfl<|q7 ?_
  refine qd rfl h431 (fun _ h431=>?_) (fun _ h431=>?_)
  ·refine qg<|q8 ?_
   obtain ⟨m611,h610,h431⟩:=bindE h431
   refine qn (fun b612=>.inl b612 = m611) (fun (b612 : Int × List Int)=>⟨[(0,.hs 0 1 0 b612.2.length),(1,.d (.int .i64 p1)),(2,.d (.int .i64 p2)),(7,.d (.int .i64 b612.1)),(8,.d (.int .i64 a432.2.1))],[(0,.dat 1 (b612.2.map (eI .i64)))],1⟩) (by simp) ?_ ?_
   ·refine q8 ?_
    obtain ⟨m668,h669,h610⟩:=bindE h610
    refine qn (fun b670=>b670 = m668) (fun (b670 : Int)=>⟨[(0,.hs 0 1 0 a432.2.2.length),(1,.d (.int .i64 p1)),(2,.d (.int .i64 p2)),(7,.d (.int .i64 b670)),(8,.d (.int .i64 a432.2.1))],[(0,.dat 1 (a432.2.2.map (eI .i64)))],1⟩) (by simp) ?_ ?_
    ·refine qo (q1l p2 a432) (fun (a667 : Int)=>⟨[(0,.hs 0 1 0 a432.2.2.length),(1,.d (.int .i64 p1)),(2,.d (.int .i64 p2)),(7,.d (.int .i64 a667)),(8,.d (.int .i64 a432.2.1))],[(0,.dat 1 (a432.2.2.map (eI .i64)))],1⟩) a432.1 m668 h669 (wkE [] [] [] rfl ⟨⟨_,rfl,.hs rfl (by decide) (ltd rfl)⟩,⟨_,rfl,.d (.refl _)⟩,⟨_,rfl,.d (.refl _)⟩,⟨_,rfl,.d (.refl _)⟩,⟨_,rfl,.d (.refl _)⟩,trivial⟩ ⟨⟨ltd rfl,.inr ⟨by decide,_,rfl,.dat _ _⟩⟩,trivial⟩) ?_
     intro a667 y665 h666
     unfold q1l at h666
     refine q8<|q8<|qk [(some [],[]),(some [],[]),(some [],[]),(some [0],[]),(some [],[]),(some [],[]),(some [],[]),(some [],[]),(some [0],[]),(some [],[]),(some [],[]),(some [],[]),(some [],[]),(some [],[]),(some [],[]),(some [],[])] (by kernel_rfl)<|q0 rfl rfl<|q0 rfl rfl<|q9 (.d (.bool (decide (a667 < p2)))) rfl rfl ?_
     obtain ⟨c677,h678,h666⟩:=bindE h666
     refine qt 13 (fun A st=>∃ (j679 j680 j681 j682 j683 j684 j685 j686 j687 j688 j689 j690 : V),st = A [(32,.d (.bool c677)),(31,j690),(30,j689),(29,j688),(28,j687),(27,j686),(26,j685),(25,j684),(24,j683),(23,j682),(22,j681),(21,j680),(20,j679)]) ?_ ?_
     ·refine qz rfl rfl h678 (fun h678=>?_) (fun h678=>?_)
      ·refine q0 rfl rfl<|q0 rfl rfl ?_
       obtain ⟨v691,h692,h678⟩:=bindE h678
       refine qj h692 rfl rfl rfl rfl rfl rfl rfl<|qr (.d (.int .i64 v691)) h692 rfl rfl rfl rfl rfl rfl<|q0 rfl rfl<|q0 rfl rfl<|q9 (.d (.int .i64 (w64 (a667 - 1)))) rfl rfl ?_
       obtain ⟨v693,h694,h678⟩:=bindE h678
       refine qj h694 rfl rfl rfl rfl rfl rfl rfl<|qr (.d (.int .i64 v693)) h694 rfl rfl rfl rfl rfl rfl ?_
       obtain ⟨r695,h696,h678⟩:=bindE h678
       refine q11 [.d (.int .i64 v691),.d (.int .i64 v693)] (q3b v691 v693 r695 h696) rfl rfl rfl (.inl rfl)<|q9 (.d (.bool (!r695))) rfl rfl<|q9 (.d (.bool (!r695))) rfl rfl<|q7 ?_
       obtain rfl:=someE h678
       exact ⟨_,_,_,_,_,_,_,_,_,_,_,_,rfl⟩
      ·refine qc rfl<|qc rfl<|qc rfl<|qc rfl<|qc rfl<|qc rfl<|qc rfl<|qc rfl<|qc rfl<|qc rfl<|qc rfl<|q9 (.d (.bool false)) rfl rfl<|q7 ?_
       obtain rfl:=someE h678
       exact ⟨_,_,_,_,_,_,_,_,_,_,_,_,rfl⟩
     ·rintro _ ⟨j679,j680,j681,j682,j683,j684,j685,j686,j687,j688,j689,j690,rfl⟩
      refine q7 ?_
      refine qd rfl h666 (fun _ h666=>?_) (fun _ h666=>?_)
      ·refine qg<|ql<|q6<|q0 rfl rfl<|q9 (.d (.int .i64 (w64 (a667 + 1)))) rfl rfl<|qa rfl rfl<|q7<|qf<|qv<|qf ?_
       exact ⟨_,(Option.some.inj h666).symm,wkE [] [] [] rfl ⟨⟨_,rfl,.hs rfl (by decide) (ltd rfl)⟩,⟨_,rfl,.d (.refl _)⟩,⟨_,rfl,.d (.refl _)⟩,⟨_,rfl,.d (.refl _)⟩,⟨_,rfl,.d (.refl _)⟩,trivial⟩ ⟨⟨ltd rfl,.inr ⟨by decide,_,rfl,.dat _ _⟩⟩,trivial⟩⟩
      ·refine qp ?_
       refine ⟨_,(Option.some.inj h666).symm,fun hm=>?_⟩
       subst hm
       exact ⟨_,rfl,wkE [] [] [] rfl ⟨⟨_,rfl,.hs rfl (by decide) (ltd rfl)⟩,⟨_,rfl,.d (.refl _)⟩,⟨_,rfl,.d (.refl _)⟩,⟨_,rfl,.d (.refl _)⟩,⟨_,rfl,.d (.refl _)⟩,trivial⟩ ⟨⟨ltd rfl,.inr ⟨by decide,_,rfl,.dat _ _⟩⟩,trivial⟩⟩
    ·intro b670 hb
     subst hb
     refine q8<|q8<|q6<|q0 rfl rfl<|q0 rfl rfl<|q9 (.d (.bool (b670 == p2))) rfl rfl<|q7 ?_
     refine qd rfl h610 (fun _ h610=>?_) (fun _ h610=>?_)
     ·refine q8<|q6<|qa rfl rfl<|q7<|qm ?_
      obtain rfl:=someE h610
      refine ⟨_,(Option.some.inj h431).symm,fun hm=>?_⟩
      subst hm
      obtain rfl:=someE h0
      exact ⟨.inr rfl,_,rfl,wkE [] [] [] rfl ⟨⟨_,rfl,.d (.refl _)⟩,trivial⟩ ⟨⟨ltd rfl,.inr ⟨by decide,_,rfl,.dat _ _⟩⟩,trivial⟩⟩
     ·refine qg<|q8<|q8<|q6<|q0 rfl rfl<|q0 rfl rfl<|q9 (.d (.int .i64 (w64 (p2 - p1)))) rfl rfl<|q9 (.d (.bool (decide ((w64 (p2 - p1)) < 50)))) rfl rfl<|q7 ?_
      refine qd rfl h610 (fun _ h610=>?_) (fun _ h610=>?_)
      ·refine q8<|q6<|qa rfl rfl<|q7<|qm ?_
       obtain rfl:=someE h610
       refine ⟨_,(Option.some.inj h431).symm,fun hm=>?_⟩
       subst hm
       obtain rfl:=someE h0
       exact ⟨.inr rfl,_,rfl,wkE [] [] [] rfl ⟨⟨_,rfl,.d (.refl _)⟩,trivial⟩ ⟨⟨ltd rfl,.inr ⟨by decide,_,rfl,.dat _ _⟩⟩,trivial⟩⟩
      ·refine qg<|q8<|qk [(some [0],[0]),(some [],[]),(some [0],[0]),(some [],[]),(some [0],[]),(some [],[]),(some [],[]),(some [],[]),(some [0],[]),(some [],[]),(some [],[]),(some [],[]),(some [],[]),(some [],[]),(some [],[]),(some [],[]),(some [],[]),(some [],[])] (by kernel_rfl)<|q0 rfl rfl<|q0 rfl rfl<|q0 rfl rfl<|q0 rfl rfl<|q9 (.d (.int .i64 (w64 (b670 - 1)))) rfl rfl<|q0 rfl rfl<|q0 rfl rfl<|q9 (.d (.int .i64 (w64 (b670 - 1)))) rfl rfl ?_
       obtain ⟨v697,h698,h610⟩:=bindE h610
       refine qj h698 rfl rfl rfl rfl rfl rfl rfl<|qr (.d (.int .i64 v697)) h698 rfl rfl rfl rfl rfl rfl<|q0 rfl rfl<|q0 rfl rfl ?_
       obtain ⟨v699,h700,h610⟩:=bindE h610
       refine qj h700 rfl rfl rfl rfl rfl rfl rfl<|qr (.d (.int .i64 v699)) h700 rfl rfl rfl rfl rfl rfl ?_
       obtain ⟨v701,h702,h610⟩:=bindE h610
       refine qj h702 rfl rfl rfl rfl rfl rfl rfl<|q19 (ds:=[.int .i64 v697]) v697 h702 rfl rfl rfl rfl rfl rfl rfl rfl (leb rfl) rfl ?_
       obtain ⟨v703,h704,h610⟩:=bindE h610
       refine qj h704 (by simp) rfl rfl rfl rfl rfl rfl<|q19 (ds:=[.int .i64 v699]) v699 h704 rfl rfl rfl rfl rfl rfl rfl rfl (leb rfl) rfl<|q7<|q8<|q8<|q6<|q0 rfl rfl<|q0 rfl rfl<|q9 (.d (.int .i64 (w64 (b670 - p1)))) rfl rfl<|q9 (.d (.bool (decide ((w64 (b670 - p1)) ≥ 2)))) rfl rfl<|q7 ?_
       obtain ⟨m762,h761,h610⟩:=bindE h610
       refine q5c (fun b763=>b763 = m762) (fun (b763 : List Int)=>⟨[(0,.hs 0 1 0 b763.length),(1,.d (.int .i64 p1)),(2,.d (.int .i64 p2)),(7,.d (.int .i64 b670)),(8,.d (.int .i64 a432.2.1))],[(0,.dat 1 (b763.map (eI .i64)))],1⟩) (by simp) ?_ ?_
       ·refine qd rfl h761 (fun _ h761=>?_) (fun _ h761=>?_)
        ·refine q8<|q6<|q0 rfl rfl<|q9 (.d (.int .i64 (w64 (b670 - 1)))) rfl rfl<|qa rfl rfl<|q7 ?_
         obtain ⟨m823,h824,h761⟩:=bindE h761
         refine ql<|qo (q20) (fun (a822 : Int × List Int)=>⟨[(0,.hs 0 1 0 a822.2.length),(1,.d (.int .i64 p1)),(2,.d (.int .i64 p2)),(7,.d (.int .i64 b670)),(8,.d (.int .i64 a432.2.1)),(9,.d (.int .i64 a822.1))],[(0,.dat 1 (a822.2.map (eI .i64)))],1⟩) (w64 (b670 - 1),(a432.2.2.set b670.toNat v697).set (w64 (b670 - 1)).toNat v699) m823 h824 (wkE [] [] [] rfl ⟨⟨_,rfl,q16 (by simp) rfl (by decide) (ltd rfl)⟩,⟨_,rfl,.d (.refl _)⟩,⟨_,rfl,.d (.refl _)⟩,⟨_,rfl,.d (.refl _)⟩,⟨_,rfl,.d (.refl _)⟩,⟨_,rfl,.d (.refl _)⟩,trivial⟩ ⟨⟨ltd rfl,.inr ⟨by decide,_,rfl,.dat _ _⟩⟩,trivial⟩) ?_
         intro a822 y820 h821
         unfold q20 at h821
         refine q8<|q8<|q6<|q0 rfl rfl<|q9 (.d (.bool (decide (a822.1 ≥ 1)))) rfl rfl<|q7 ?_
         refine qd rfl h821 (fun _ h821=>?_) (fun _ h821=>?_)
         ·refine qg<|q8<|ql<|q8<|q8<|qk [(some [],[]),(some [],[]),(some [0],[]),(some [],[]),(some [],[]),(some [],[]),(some [],[]),(some [0],[]),(some [],[]),(some [],[]),(some [],[])] (by kernel_rfl)<|q0 rfl rfl<|q0 rfl rfl ?_
          obtain ⟨v840,h841,h821⟩:=bindE h821
          refine qj h841 rfl rfl rfl rfl rfl rfl rfl<|qr (.d (.int .i64 v840)) h841 rfl rfl rfl rfl rfl rfl<|q0 rfl rfl<|q0 rfl rfl<|q9 (.d (.int .i64 (w64 (a822.1 - 1)))) rfl rfl ?_
          obtain ⟨v842,h843,h821⟩:=bindE h821
          refine qj h843 rfl rfl rfl rfl rfl rfl rfl<|qr (.d (.int .i64 v842)) h843 rfl rfl rfl rfl rfl rfl ?_
          obtain ⟨r844,h845,h821⟩:=bindE h821
          refine q11 [.d (.int .i64 v840),.d (.int .i64 v842)] (q3b v840 v842 r844 h845) rfl rfl rfl (.inl rfl)<|q9 (.d (.bool (!r844))) rfl rfl<|q7 ?_
          refine qd rfl h821 (fun _ h821=>?_) (fun _ h821=>?_)
          ·refine qp ?_
           refine ⟨_,(Option.some.inj h821).symm,fun hm=>?_⟩
           subst hm
           obtain rfl:=someE h761
           exact ⟨_,rfl,wkE [] [] [] rfl ⟨⟨_,rfl,.hs rfl (by decide) (ltd rfl)⟩,⟨_,rfl,.d (.refl _)⟩,⟨_,rfl,.d (.refl _)⟩,⟨_,rfl,.d (.refl _)⟩,⟨_,rfl,.d (.refl _)⟩,trivial⟩ ⟨⟨ltd rfl,.inr ⟨by decide,_,rfl,.dat _ _⟩⟩,trivial⟩⟩
          ·refine qg<|qk [(some [0],[0]),(some [],[]),(some [0],[0]),(some [],[]),(some [0],[]),(some [],[]),(some [],[]),(some [],[]),(some [0],[]),(some [],[]),(some [],[]),(some [],[]),(some [],[]),(some [],[]),(some [],[]),(some [],[]),(some [],[]),(some [],[])] (by kernel_rfl)<|q0 rfl rfl<|q0 rfl rfl<|q0 rfl rfl<|q0 rfl rfl<|q9 (.d (.int .i64 (w64 (a822.1 - 1)))) rfl rfl<|q0 rfl rfl<|q0 rfl rfl<|q9 (.d (.int .i64 (w64 (a822.1 - 1)))) rfl rfl ?_
           obtain ⟨v846,h847,h821⟩:=bindE h821
           refine qj h847 rfl rfl rfl rfl rfl rfl rfl<|qr (.d (.int .i64 v846)) h847 rfl rfl rfl rfl rfl rfl<|q0 rfl rfl<|q0 rfl rfl ?_
           obtain ⟨v848,h849,h821⟩:=bindE h821
           refine qj h849 rfl rfl rfl rfl rfl rfl rfl<|qr (.d (.int .i64 v848)) h849 rfl rfl rfl rfl rfl rfl ?_
           obtain ⟨v850,h851,h821⟩:=bindE h821
           refine qj h851 rfl rfl rfl rfl rfl rfl rfl<|q19 (ds:=[.int .i64 v846]) v846 h851 rfl rfl rfl rfl rfl rfl rfl rfl (leb rfl) rfl ?_
           obtain ⟨v852,h853,h821⟩:=bindE h821
           refine qj h853 (by simp) rfl rfl rfl rfl rfl rfl<|q19 (ds:=[.int .i64 v848]) v848 h853 rfl rfl rfl rfl rfl rfl rfl rfl (leb rfl) rfl<|q7<|qf<|qv<|q6<|q0 rfl rfl<|q9 (.d (.int .i64 (w64 (a822.1 - 1)))) rfl rfl<|qa rfl rfl<|q7<|qf ?_
           exact ⟨_,(Option.some.inj h821).symm,wkE [] [] [] rfl ⟨⟨_,rfl,q16 (by simp) rfl (by decide) (ltd rfl)⟩,⟨_,rfl,.d (.refl _)⟩,⟨_,rfl,.d (.refl _)⟩,⟨_,rfl,.d (.refl _)⟩,⟨_,rfl,.d (.refl _)⟩,⟨_,rfl,.d (.refl _)⟩,trivial⟩ ⟨⟨ltd rfl,.inr ⟨by decide,_,rfl,.dat _ _⟩⟩,trivial⟩⟩
         ·refine qp ?_
          refine ⟨_,(Option.some.inj h821).symm,fun hm=>?_⟩
          subst hm
          obtain rfl:=someE h761
          exact ⟨_,rfl,wkE [] [] [] rfl ⟨⟨_,rfl,.hs rfl (by decide) (ltd rfl)⟩,⟨_,rfl,.d (.refl _)⟩,⟨_,rfl,.d (.refl _)⟩,⟨_,rfl,.d (.refl _)⟩,⟨_,rfl,.d (.refl _)⟩,trivial⟩ ⟨⟨ltd rfl,.inr ⟨by decide,_,rfl,.dat _ _⟩⟩,trivial⟩⟩
        ·refine qg<|qf ?_
         obtain rfl:=someE h761
         exact ⟨_,rfl,wkE [] [] [] rfl ⟨⟨_,rfl,q16 (by simp) rfl (by decide) (ltd rfl)⟩,⟨_,rfl,.d (.refl _)⟩,⟨_,rfl,.d (.refl _)⟩,⟨_,rfl,.d (.refl _)⟩,⟨_,rfl,.d (.refl _)⟩,trivial⟩ ⟨⟨ltd rfl,.inr ⟨by decide,_,rfl,.dat _ _⟩⟩,trivial⟩⟩
       ·intro b763 hb
        subst hb
        refine q8<|q6<|q0 rfl rfl<|q0 rfl rfl<|q9 (.d (.int .i64 (w64 (p2 - b670)))) rfl rfl<|q9 (.d (.bool (decide ((w64 (p2 - b670)) ≥ 2)))) rfl rfl<|q7 ?_
        refine qd rfl h610 (fun _ h610=>?_) (fun _ h610=>?_)
        ·refine q8<|q6<|q0 rfl rfl<|q9 (.d (.int .i64 (w64 (b670 + 1)))) rfl rfl<|qa rfl rfl<|q7 ?_
         obtain ⟨m913,h914,h610⟩:=bindE h610
         refine ql<|qo (q1m p2 b670) (fun (a912 : Int × List Int)=>⟨[(0,.hs 0 1 0 a912.2.length),(1,.d (.int .i64 p1)),(2,.d (.int .i64 p2)),(7,.d (.int .i64 b670)),(8,.d (.int .i64 a432.2.1)),(10,.d (.int .i64 a912.1))],[(0,.dat 1 (a912.2.map (eI .i64)))],1⟩) (w64 (b670 + 1),b763) m913 h914 (wkE [] [] [] rfl ⟨⟨_,rfl,.hs rfl (by decide) (ltd rfl)⟩,⟨_,rfl,.d (.refl _)⟩,⟨_,rfl,.d (.refl _)⟩,⟨_,rfl,.d (.refl _)⟩,⟨_,rfl,.d (.refl _)⟩,⟨_,rfl,.d (.refl _)⟩,trivial⟩ ⟨⟨ltd rfl,.inr ⟨by decide,_,rfl,.dat _ _⟩⟩,trivial⟩) ?_
         intro a912 y910 h911
         unfold q1m at h911
         refine q8<|q8<|q6<|q0 rfl rfl<|q0 rfl rfl<|q9 (.d (.bool (decide (a912.1 < p2)))) rfl rfl<|q7 ?_
         refine qd rfl h911 (fun _ h911=>?_) (fun _ h911=>?_)
         ·refine qg<|q8<|ql<|q8<|q8<|qk [(some [],[]),(some [],[]),(some [0],[]),(some [],[]),(some [],[]),(some [],[]),(some [],[]),(some [0],[]),(some [],[]),(some [],[]),(some [],[])] (by kernel_rfl)<|q0 rfl rfl<|q0 rfl rfl ?_
          obtain ⟨v930,h931,h911⟩:=bindE h911
          refine qj h931 rfl rfl rfl rfl rfl rfl rfl<|qr (.d (.int .i64 v930)) h931 rfl rfl rfl rfl rfl rfl<|q0 rfl rfl<|q0 rfl rfl<|q9 (.d (.int .i64 (w64 (a912.1 - 1)))) rfl rfl ?_
          obtain ⟨v932,h933,h911⟩:=bindE h911
          refine qj h933 rfl rfl rfl rfl rfl rfl rfl<|qr (.d (.int .i64 v932)) h933 rfl rfl rfl rfl rfl rfl ?_
          obtain ⟨r934,h935,h911⟩:=bindE h911
          refine q11 [.d (.int .i64 v930),.d (.int .i64 v932)] (q3b v930 v932 r934 h935) rfl rfl rfl (.inl rfl)<|q9 (.d (.bool (!r934))) rfl rfl<|q7 ?_
          refine qd rfl h911 (fun _ h911=>?_) (fun _ h911=>?_)
          ·refine qp ?_
           refine ⟨_,(Option.some.inj h911).symm,fun hm=>?_⟩
           subst hm
           obtain rfl:=someE h610
           exact ⟨_,rfl,wkE [] [] [] rfl ⟨⟨_,rfl,.hs rfl (by decide) (ltd rfl)⟩,⟨_,rfl,.d (.refl _)⟩,⟨_,rfl,.d (.refl _)⟩,⟨_,rfl,.d (.refl _)⟩,⟨_,rfl,.d (.refl _)⟩,trivial⟩ ⟨⟨ltd rfl,.inr ⟨by decide,_,rfl,.dat _ _⟩⟩,trivial⟩⟩
          ·refine qg<|qk [(some [0],[0]),(some [],[]),(some [0],[0]),(some [],[]),(some [0],[]),(some [],[]),(some [],[]),(some [],[]),(some [0],[]),(some [],[]),(some [],[]),(some [],[]),(some [],[]),(some [],[]),(some [],[]),(some [],[]),(some [],[]),(some [],[])] (by kernel_rfl)<|q0 rfl rfl<|q0 rfl rfl<|q0 rfl rfl<|q0 rfl rfl<|q9 (.d (.int .i64 (w64 (a912.1 - 1)))) rfl rfl<|q0 rfl rfl<|q0 rfl rfl<|q9 (.d (.int .i64 (w64 (a912.1 - 1)))) rfl rfl ?_
           obtain ⟨v936,h937,h911⟩:=bindE h911
           refine qj h937 rfl rfl rfl rfl rfl rfl rfl<|qr (.d (.int .i64 v936)) h937 rfl rfl rfl rfl rfl rfl<|q0 rfl rfl<|q0 rfl rfl ?_
           obtain ⟨v938,h939,h911⟩:=bindE h911
           refine qj h939 rfl rfl rfl rfl rfl rfl rfl<|qr (.d (.int .i64 v938)) h939 rfl rfl rfl rfl rfl rfl ?_
           obtain ⟨v940,h941,h911⟩:=bindE h911
           refine qj h941 rfl rfl rfl rfl rfl rfl rfl<|q19 (ds:=[.int .i64 v936]) v936 h941 rfl rfl rfl rfl rfl rfl rfl rfl (leb rfl) rfl ?_
           obtain ⟨v942,h943,h911⟩:=bindE h911
           refine qj h943 (by simp) rfl rfl rfl rfl rfl rfl<|q19 (ds:=[.int .i64 v938]) v938 h943 rfl rfl rfl rfl rfl rfl rfl rfl (leb rfl) rfl<|q7<|qf<|qv<|q6<|q0 rfl rfl<|q9 (.d (.int .i64 (w64 (a912.1 + 1)))) rfl rfl<|qa rfl rfl<|q7<|qf ?_
           exact ⟨_,(Option.some.inj h911).symm,wkE [] [] [] rfl ⟨⟨_,rfl,q16 (by simp) rfl (by decide) (ltd rfl)⟩,⟨_,rfl,.d (.refl _)⟩,⟨_,rfl,.d (.refl _)⟩,⟨_,rfl,.d (.refl _)⟩,⟨_,rfl,.d (.refl _)⟩,⟨_,rfl,.d (.refl _)⟩,trivial⟩ ⟨⟨ltd rfl,.inr ⟨by decide,_,rfl,.dat _ _⟩⟩,trivial⟩⟩
         ·refine qp ?_
          refine ⟨_,(Option.some.inj h911).symm,fun hm=>?_⟩
          subst hm
          obtain rfl:=someE h610
          exact ⟨_,rfl,wkE [] [] [] rfl ⟨⟨_,rfl,.hs rfl (by decide) (ltd rfl)⟩,⟨_,rfl,.d (.refl _)⟩,⟨_,rfl,.d (.refl _)⟩,⟨_,rfl,.d (.refl _)⟩,⟨_,rfl,.d (.refl _)⟩,trivial⟩ ⟨⟨ltd rfl,.inr ⟨by decide,_,rfl,.dat _ _⟩⟩,trivial⟩⟩
        ·refine qg<|qf ?_
         obtain rfl:=someE h610
         exact ⟨_,rfl,wkE [] [] [] rfl ⟨⟨_,rfl,.hs rfl (by decide) (ltd rfl)⟩,⟨_,rfl,.d (.refl _)⟩,⟨_,rfl,.d (.refl _)⟩,⟨_,rfl,.d (.refl _)⟩,⟨_,rfl,.d (.refl _)⟩,trivial⟩ ⟨⟨ltd rfl,.inr ⟨by decide,_,rfl,.dat _ _⟩⟩,trivial⟩⟩
   ·intro b612 hb
    subst hb
    refine q6<|q0 rfl rfl<|q9 (.d (.int .i64 (w64 (a432.2.1 + 1)))) rfl rfl<|qa rfl rfl<|q7<|qf ?_
    exact ⟨_,(Option.some.inj h431).symm,wkE [] [] [] rfl ⟨⟨_,rfl,.hs rfl (by decide) (ltd rfl)⟩,⟨_,rfl,.d (.refl _)⟩,⟨_,rfl,.d (.refl _)⟩,⟨_,rfl,.d (.refl _)⟩,⟨_,rfl,.d (.refl _)⟩,trivial⟩ ⟨⟨ltd rfl,.inr ⟨by decide,_,rfl,.dat _ _⟩⟩,trivial⟩⟩
  ·refine qp ?_
   refine ⟨_,(Option.some.inj h431).symm,fun hm=>?_⟩
   subst hm
   exact ⟨_,rfl,wkE [] [] [] rfl trivial ⟨⟨ltd rfl,.inr ⟨by decide,_,rfl,.dat _ _⟩⟩,trivial⟩⟩
 ·intro b435 hb
  subst hb
  refine q8<|q6<|qa rfl rfl<|q7<|qm ?_
  obtain rfl:=someE h0
  exact ⟨.inr rfl,_,rfl,wkE [] [] [] rfl ⟨⟨_,rfl,.d (.refl _)⟩,trivial⟩ ⟨⟨ltd rfl,.inr ⟨by decide,_,rfl,.dat _ _⟩⟩,trivial⟩⟩
theorem q7k (p0 : List Int) (p1 : Int) (p2 : Int) (p3 : Int) (r : Int × List Int) (h0 : q2h  p0 p1 p2 p3 = some r) : EvCall Try.prog tab 104 [.hs 0 1 0 p0.length,.d (.int .i64 p1),.d (.int .i64 p2),.d (.int .i64 p3)] [(0,.dat 1 (p0.map (eI .i64)))] 1 (.d (.int .i64 r.1)) [(0,.dat 1 (r.2.map (eI .i64)))] 1:=by
 unfold q2h at h0
 refine q18 Try.func104 rfl (by kernel_rfl) (by kernel_rfl) rfl<|q8<|q6<|qa rfl rfl<|q7<|q8<|qk [(some [0],[0]),(some [],[]),(some [0],[0]),(some [],[]),(some [0],[]),(some [],[]),(some [],[]),(some [],[]),(some [0],[]),(some [],[]),(some [],[]),(some [],[]),(some [],[]),(some [],[]),(some [],[]),(some [],[])] (by kernel_rfl)<|q0 rfl rfl<|q0 rfl rfl<|q0 rfl rfl<|q0 rfl rfl<|q0 rfl rfl<|q0 rfl rfl ?_
 obtain ⟨v101,h102,h0⟩:=bindE h0
 refine qj h102 rfl rfl rfl rfl rfl rfl rfl<|qr (.d (.int .i64 v101)) h102 rfl rfl rfl rfl rfl rfl<|q0 rfl rfl<|q0 rfl rfl ?_
 obtain ⟨v103,h104,h0⟩:=bindE h0
 refine qj h104 rfl rfl rfl rfl rfl rfl rfl<|qr (.d (.int .i64 v103)) h104 rfl rfl rfl rfl rfl rfl ?_
 obtain ⟨v105,h106,h0⟩:=bindE h0
 refine qj h106 rfl rfl rfl rfl rfl rfl rfl<|q19 (ds:=[.int .i64 v101]) v101 h106 rfl rfl rfl rfl rfl rfl rfl rfl (leb rfl) rfl ?_
 obtain ⟨v107,h108,h0⟩:=bindE h0
 refine qj h108 (by simp) rfl rfl rfl rfl rfl rfl<|q19 (ds:=[.int .i64 v103]) v103 h108 rfl rfl rfl rfl rfl rfl rfl rfl (leb rfl) rfl<|q7<|q8<|q6<|q0 rfl rfl<|q9 (.d (.int .i64 (w64 (p1 + 1)))) rfl rfl<|q0 rfl rfl<|q9 (.d (.int .i64 (w64 (p2 - 1)))) rfl rfl<|qa rfl rfl<|qa rfl rfl<|q7<|q8 ?_
 obtain ⟨m305,h306,h0⟩:=bindE h0
 refine qn (fun b307=>b307 = m305) (fun (b307 : Int × List Int)=>⟨[(9,.d (.int .i64 b307.1))],[(0,.dat 1 (b307.2.map (eI .i64)))],1⟩) (by simp) ?_ ?_
 ·refine qo (q1y p1) (fun (a304 : Int × Int × List Int)=>⟨[(0,.hs 0 1 0 a304.2.2.length),(1,.d (.int .i64 p1)),(9,.d (.int .i64 a304.1)),(10,.d (.int .i64 a304.2.1))],[(0,.dat 1 (a304.2.2.map (eI .i64)))],1⟩) (w64 (p1 + 1),w64 (p2 - 1),(p0.set p1.toNat v101).set p3.toNat v103) m305 h306 (wkE [] [] [] rfl ⟨⟨_,rfl,q16 (by simp) rfl (by decide) (ltd rfl)⟩,⟨_,rfl,.d (.refl _)⟩,⟨_,rfl,.d (.refl _)⟩,⟨_,rfl,.d (.refl _)⟩,trivial⟩ ⟨⟨ltd rfl,.inr ⟨by decide,_,rfl,.dat _ _⟩⟩,trivial⟩) ?_
  intro a304 y302 h303
  unfold q1y at h303
  refine ql<|q8 ?_
  obtain ⟨m361,h362,h303⟩:=bindE h303
  refine qn (fun b363=>b363 = m361) (fun (b363 : Int)=>⟨[(0,.hs 0 1 0 a304.2.2.length),(1,.d (.int .i64 p1)),(9,.d (.int .i64 b363)),(10,.d (.int .i64 a304.2.1))],[(0,.dat 1 (a304.2.2.map (eI .i64)))],1⟩) (by simp) ?_ ?_
  ·refine qo (q1w a304 p1) (fun (a360 : Int)=>⟨[(0,.hs 0 1 0 a304.2.2.length),(1,.d (.int .i64 p1)),(9,.d (.int .i64 a360)),(10,.d (.int .i64 a304.2.1))],[(0,.dat 1 (a304.2.2.map (eI .i64)))],1⟩) a304.1 m361 h362 (wkE [] [] [] rfl ⟨⟨_,rfl,.hs rfl (by decide) (ltd rfl)⟩,⟨_,rfl,.d (.refl _)⟩,⟨_,rfl,.d (.refl _)⟩,⟨_,rfl,.d (.refl _)⟩,trivial⟩ ⟨⟨ltd rfl,.inr ⟨by decide,_,rfl,.dat _ _⟩⟩,trivial⟩) ?_
   intro a360 y358 h359
   unfold q1w at h359
   refine q8<|q8<|qk [(some [],[]),(some [],[]),(some [],[]),(some [0],[]),(some [],[]),(some [],[]),(some [],[]),(some [0],[]),(some [],[]),(some [],[]),(some [],[]),(some [],[]),(some [],[]),(some [],[]),(some [],[])] (by kernel_rfl)<|q0 rfl rfl<|q0 rfl rfl<|q9 (.d (.bool (decide (a360≤a304.2.1)))) rfl rfl ?_
   obtain ⟨c370,h371,h359⟩:=bindE h359
   refine qt 12 (fun A st=>∃ (j372 j373 j374 j375 j376 j377 j378 j379 j380 j381 j382 : V),st = A [(43,.d (.bool c370)),(42,j382),(41,j381),(40,j380),(39,j379),(38,j378),(37,j377),(36,j376),(35,j375),(34,j374),(33,j373),(32,j372)]) ?_ ?_
   ·refine qz rfl rfl h371 (fun h371=>?_) (fun h371=>?_)
    ·refine q0 rfl rfl<|q0 rfl rfl ?_
     obtain ⟨v383,h384,h371⟩:=bindE h371
     refine qj h384 rfl rfl rfl rfl rfl rfl rfl<|qr (.d (.int .i64 v383)) h384 rfl rfl rfl rfl rfl rfl<|q0 rfl rfl<|q0 rfl rfl ?_
     obtain ⟨v385,h386,h371⟩:=bindE h371
     refine qj h386 rfl rfl rfl rfl rfl rfl rfl<|qr (.d (.int .i64 v385)) h386 rfl rfl rfl rfl rfl rfl ?_
     obtain ⟨r387,h388,h371⟩:=bindE h371
     refine q11 [.d (.int .i64 v383),.d (.int .i64 v385)] (q3b v383 v385 r387 h388) rfl rfl rfl (.inl rfl)<|q9 (.d (.bool (!r387))) rfl rfl<|q9 (.d (.bool (!r387))) rfl rfl<|q7 ?_
     obtain rfl:=someE h371
     exact ⟨_,_,_,_,_,_,_,_,_,_,_,rfl⟩
    ·refine qc rfl<|qc rfl<|qc rfl<|qc rfl<|qc rfl<|qc rfl<|qc rfl<|qc rfl<|qc rfl<|qc rfl<|q9 (.d (.bool false)) rfl rfl<|q7 ?_
     obtain rfl:=someE h371
     exact ⟨_,_,_,_,_,_,_,_,_,_,_,rfl⟩
   ·rintro _ ⟨j372,j373,j374,j375,j376,j377,j378,j379,j380,j381,j382,rfl⟩
    refine q7 ?_
    refine qd rfl h359 (fun _ h359=>?_) (fun _ h359=>?_)
    ·refine qg<|ql<|q6<|q0 rfl rfl<|q9 (.d (.int .i64 (w64 (a360 + 1)))) rfl rfl<|qa rfl rfl<|q7<|qf<|qv<|qf ?_
     exact ⟨_,(Option.some.inj h359).symm,wkE [] [] [] rfl ⟨⟨_,rfl,.hs rfl (by decide) (ltd rfl)⟩,⟨_,rfl,.d (.refl _)⟩,⟨_,rfl,.d (.refl _)⟩,⟨_,rfl,.d (.refl _)⟩,trivial⟩ ⟨⟨ltd rfl,.inr ⟨by decide,_,rfl,.dat _ _⟩⟩,trivial⟩⟩
    ·refine qp ?_
     refine ⟨_,(Option.some.inj h359).symm,fun hm=>?_⟩
     subst hm
     exact ⟨_,rfl,wkE [] [] [] rfl ⟨⟨_,rfl,.hs rfl (by decide) (ltd rfl)⟩,⟨_,rfl,.d (.refl _)⟩,⟨_,rfl,.d (.refl _)⟩,⟨_,rfl,.d (.refl _)⟩,trivial⟩ ⟨⟨ltd rfl,.inr ⟨by decide,_,rfl,.dat _ _⟩⟩,trivial⟩⟩
  ·intro b363 hb
   subst hb
   refine q8 ?_
   obtain ⟨m440,h441,h303⟩:=bindE h303
   refine qn (fun b442=>b442 = m440) (fun (b442 : Int)=>⟨[(0,.hs 0 1 0 a304.2.2.length),(1,.d (.int .i64 p1)),(9,.d (.int .i64 b363)),(10,.d (.int .i64 b442))],[(0,.dat 1 (a304.2.2.map (eI .i64)))],1⟩) (by simp) ?_ ?_
   ·refine qo (q1x b363 a304 p1) (fun (a439 : Int)=>⟨[(0,.hs 0 1 0 a304.2.2.length),(1,.d (.int .i64 p1)),(9,.d (.int .i64 b363)),(10,.d (.int .i64 a439))],[(0,.dat 1 (a304.2.2.map (eI .i64)))],1⟩) a304.2.1 m440 h441 (wkE [] [] [] rfl ⟨⟨_,rfl,.hs rfl (by decide) (ltd rfl)⟩,⟨_,rfl,.d (.refl _)⟩,⟨_,rfl,.d (.refl _)⟩,⟨_,rfl,.d (.refl _)⟩,trivial⟩ ⟨⟨ltd rfl,.inr ⟨by decide,_,rfl,.dat _ _⟩⟩,trivial⟩) ?_
    intro a439 y437 h438
    unfold q1x at h438
    refine q8<|q8<|qk [(some [],[]),(some [],[]),(some [0],[]),(some [],[]),(some [],[]),(some [],[]),(some [0],[]),(some [],[]),(some [],[]),(some [],[]),(some [],[]),(some [],[]),(some [],[]),(some [],[])] (by kernel_rfl)<|q0 rfl rfl<|q0 rfl rfl<|q9 (.d (.bool (decide (b363≤a439)))) rfl rfl ?_
    obtain ⟨c449,h450,h438⟩:=bindE h438
    refine qt 11 (fun A st=>∃ (j451 j452 j453 j454 j455 j456 j457 j458 j459 j460 : V),st = A [(59,.d (.bool c449)),(58,j460),(57,j459),(56,j458),(55,j457),(54,j456),(53,j455),(52,j454),(51,j453),(50,j452),(49,j451)]) ?_ ?_
    ·refine qz rfl rfl h450 (fun h450=>?_) (fun h450=>?_)
     ·refine q0 rfl rfl<|q0 rfl rfl ?_
      obtain ⟨v461,h462,h450⟩:=bindE h450
      refine qj h462 rfl rfl rfl rfl rfl rfl rfl<|qr (.d (.int .i64 v461)) h462 rfl rfl rfl rfl rfl rfl<|q0 rfl rfl<|q0 rfl rfl ?_
      obtain ⟨v463,h464,h450⟩:=bindE h450
      refine qj h464 rfl rfl rfl rfl rfl rfl rfl<|qr (.d (.int .i64 v463)) h464 rfl rfl rfl rfl rfl rfl ?_
      obtain ⟨r465,h466,h450⟩:=bindE h450
      refine q11 [.d (.int .i64 v461),.d (.int .i64 v463)] (q3b v461 v463 r465 h466) rfl rfl rfl (.inl rfl)<|q9 (.d (.bool r465)) rfl rfl<|q7 ?_
      obtain rfl:=someE h450
      exact ⟨_,_,_,_,_,_,_,_,_,_,rfl⟩
     ·refine qc rfl<|qc rfl<|qc rfl<|qc rfl<|qc rfl<|qc rfl<|qc rfl<|qc rfl<|qc rfl<|q9 (.d (.bool false)) rfl rfl<|q7 ?_
      obtain rfl:=someE h450
      exact ⟨_,_,_,_,_,_,_,_,_,_,rfl⟩
    ·rintro _ ⟨j451,j452,j453,j454,j455,j456,j457,j458,j459,j460,rfl⟩
     refine q7 ?_
     refine qd rfl h438 (fun _ h438=>?_) (fun _ h438=>?_)
     ·refine qg<|ql<|q6<|q0 rfl rfl<|q9 (.d (.int .i64 (w64 (a439 - 1)))) rfl rfl<|qa rfl rfl<|q7<|qf<|qv<|qf ?_
      exact ⟨_,(Option.some.inj h438).symm,wkE [] [] [] rfl ⟨⟨_,rfl,.hs rfl (by decide) (ltd rfl)⟩,⟨_,rfl,.d (.refl _)⟩,⟨_,rfl,.d (.refl _)⟩,⟨_,rfl,.d (.refl _)⟩,trivial⟩ ⟨⟨ltd rfl,.inr ⟨by decide,_,rfl,.dat _ _⟩⟩,trivial⟩⟩
     ·refine qp ?_
      refine ⟨_,(Option.some.inj h438).symm,fun hm=>?_⟩
      subst hm
      exact ⟨_,rfl,wkE [] [] [] rfl ⟨⟨_,rfl,.hs rfl (by decide) (ltd rfl)⟩,⟨_,rfl,.d (.refl _)⟩,⟨_,rfl,.d (.refl _)⟩,⟨_,rfl,.d (.refl _)⟩,trivial⟩ ⟨⟨ltd rfl,.inr ⟨by decide,_,rfl,.dat _ _⟩⟩,trivial⟩⟩
   ·intro b442 hb
    subst hb
    refine q8<|q8<|q6<|q0 rfl rfl<|q0 rfl rfl<|q9 (.d (.bool (decide (b363 > b442)))) rfl rfl<|q7 ?_
    refine qd rfl h303 (fun _ h303=>?_) (fun _ h303=>?_)
    ·refine qp ?_
     refine ⟨_,(Option.some.inj h303).symm,fun hm=>?_⟩
     subst hm
     exact ⟨_,rfl,wkE [] [] [] rfl ⟨⟨_,rfl,.d (.refl _)⟩,trivial⟩ ⟨⟨ltd rfl,.inr ⟨by decide,_,rfl,.dat _ _⟩⟩,trivial⟩⟩
    ·refine qg<|q8<|qk [(some [0],[0]),(some [],[]),(some [0],[0]),(some [],[]),(some [0],[]),(some [],[]),(some [],[]),(some [],[]),(some [0],[]),(some [],[]),(some [],[]),(some [],[]),(some [],[]),(some [],[]),(some [],[]),(some [],[])] (by kernel_rfl)<|q0 rfl rfl<|q0 rfl rfl<|q0 rfl rfl<|q0 rfl rfl<|q0 rfl rfl<|q0 rfl rfl ?_
     obtain ⟨v467,h468,h303⟩:=bindE h303
     refine qj h468 rfl rfl rfl rfl rfl rfl rfl<|qr (.d (.int .i64 v467)) h468 rfl rfl rfl rfl rfl rfl<|q0 rfl rfl<|q0 rfl rfl ?_
     obtain ⟨v469,h470,h303⟩:=bindE h303
     refine qj h470 rfl rfl rfl rfl rfl rfl rfl<|qr (.d (.int .i64 v469)) h470 rfl rfl rfl rfl rfl rfl ?_
     obtain ⟨v471,h472,h303⟩:=bindE h303
     refine qj h472 rfl rfl rfl rfl rfl rfl rfl<|q19 (ds:=[.int .i64 v467]) v467 h472 rfl rfl rfl rfl rfl rfl rfl rfl (leb rfl) rfl ?_
     obtain ⟨v473,h474,h303⟩:=bindE h303
     refine qj h474 (by simp) rfl rfl rfl rfl rfl rfl<|q19 (ds:=[.int .i64 v469]) v469 h474 rfl rfl rfl rfl rfl rfl rfl rfl (leb rfl) rfl<|q7<|q8<|q6<|q0 rfl rfl<|q9 (.d (.int .i64 (w64 (b363 + 1)))) rfl rfl<|qa rfl rfl<|q7<|q6<|q0 rfl rfl<|q9 (.d (.int .i64 (w64 (b442 - 1)))) rfl rfl<|qa rfl rfl<|q7<|qf<|qv<|qf ?_
     exact ⟨_,(Option.some.inj h303).symm,wkE [] [] [] rfl ⟨⟨_,rfl,q16 (by simp) rfl (by decide) (ltd rfl)⟩,⟨_,rfl,.d (.refl _)⟩,⟨_,rfl,.d (.refl _)⟩,⟨_,rfl,.d (.refl _)⟩,trivial⟩ ⟨⟨ltd rfl,.inr ⟨by decide,_,rfl,.dat _ _⟩⟩,trivial⟩⟩
 ·intro b307 hb
  subst hb
  refine q8<|q6<|q0 rfl rfl<|qa rfl rfl<|q7<|qm ?_
  obtain rfl:=someE h0
  exact ⟨.inr rfl,_,rfl,wkE [] [] [] rfl ⟨⟨_,rfl,.d (.refl _)⟩,trivial⟩ ⟨⟨ltd rfl,.inr ⟨by decide,_,rfl,.dat _ _⟩⟩,trivial⟩⟩
theorem q8j (p0 : List Int) (p1 : Int) (p2 : Int) (p3 : Int) (r : Int × Bool × List Int) (h0 : q3o  p0 p1 p2 p3 = some r) : EvCall Try.prog tab 105 [.hs 0 1 0 p0.length,.d (.int .i64 p1),.d (.int .i64 p2),.d (.int .i64 p3)] [(0,.dat 1 (p0.map (eI .i64)))] 1 (.d (.tup [.int .i64 r.1,.bool r.2.1])) [(0,.dat 1 (r.2.2.map (eI .i64)))] 1:=by
 unfold q3o at h0
 refine q18 Try.func105 rfl (by kernel_rfl) (by kernel_rfl) rfl<|q8<|q6<|qa rfl rfl<|qa rfl rfl<|q7<|q8<|qk [(some [0],[0]),(some [],[]),(some [0],[0]),(some [],[]),(some [0],[]),(some [],[]),(some [],[]),(some [],[]),(some [0],[]),(some [],[]),(some [],[]),(some [],[]),(some [],[]),(some [],[]),(some [],[]),(some [],[])] (by kernel_rfl)<|q0 rfl rfl<|q0 rfl rfl<|q0 rfl rfl<|q0 rfl rfl<|q0 rfl rfl<|q0 rfl rfl ?_
 obtain ⟨v101,h102,h0⟩:=bindE h0
 refine qj h102 rfl rfl rfl rfl rfl rfl rfl<|qr (.d (.int .i64 v101)) h102 rfl rfl rfl rfl rfl rfl<|q0 rfl rfl<|q0 rfl rfl ?_
 obtain ⟨v103,h104,h0⟩:=bindE h0
 refine qj h104 rfl rfl rfl rfl rfl rfl rfl<|qr (.d (.int .i64 v103)) h104 rfl rfl rfl rfl rfl rfl ?_
 obtain ⟨v105,h106,h0⟩:=bindE h0
 refine qj h106 rfl rfl rfl rfl rfl rfl rfl<|q19 (ds:=[.int .i64 v101]) v101 h106 rfl rfl rfl rfl rfl rfl rfl rfl (leb rfl) rfl ?_
 obtain ⟨v107,h108,h0⟩:=bindE h0
 refine qj h108 (by simp) rfl rfl rfl rfl rfl rfl<|q19 (ds:=[.int .i64 v103]) v103 h108 rfl rfl rfl rfl rfl rfl rfl rfl (leb rfl) rfl<|q7<|q8<|q6<|q0 rfl rfl<|q9 (.d (.int .i64 (w64 (p1 + 1)))) rfl rfl<|q0 rfl rfl<|q9 (.d (.int .i64 (w64 (p2 - 1)))) rfl rfl<|qa rfl rfl<|qa rfl rfl<|q7<|q8 ?_
 obtain ⟨m160,h161,h0⟩:=bindE h0
 refine qn (fun b162=>b162 = m160) (fun (b162 : Int)=>⟨[(0,.hs 0 1 0 ((p0.set p1.toNat v101).set p3.toNat v103).length),(1,.d (.int .i64 p1)),(10,.d (.int .i64 b162)),(11,.d (.int .i64 (w64 (p2 - 1))))],[(0,.dat 1 (((p0.set p1.toNat v101).set p3.toNat v103).map (eI .i64)))],1⟩) (by simp) ?_ ?_
 ·refine qo (q2x p2 p0 p1 v101 p3 v103) (fun (a159 : Int)=>⟨[(0,.hs 0 1 0 ((p0.set p1.toNat v101).set p3.toNat v103).length),(1,.d (.int .i64 p1)),(10,.d (.int .i64 a159)),(11,.d (.int .i64 (w64 (p2 - 1))))],[(0,.dat 1 (((p0.set p1.toNat v101).set p3.toNat v103).map (eI .i64)))],1⟩) (w64 (p1 + 1)) m160 h161 (wkE [] [] [] rfl ⟨⟨_,rfl,q16 (by simp) rfl (by decide) (ltd rfl)⟩,⟨_,rfl,.d (.refl _)⟩,⟨_,rfl,.d (.refl _)⟩,⟨_,rfl,.d (.refl _)⟩,trivial⟩ ⟨⟨ltd rfl,.inr ⟨by decide,_,rfl,.dat _ _⟩⟩,trivial⟩) ?_
  intro a159 y157 h158
  unfold q2x at h158
  refine q8<|q8<|qk [(some [],[]),(some [],[]),(some [0],[]),(some [],[]),(some [],[]),(some [],[]),(some [0],[]),(some [],[]),(some [],[]),(some [],[]),(some [],[]),(some [],[]),(some [],[]),(some [],[])] (by kernel_rfl)<|q0 rfl rfl<|q0 rfl rfl<|q9 (.d (.bool (decide (a159≤(w64 (p2 - 1)))))) rfl rfl ?_
  obtain ⟨c169,h170,h158⟩:=bindE h158
  refine qt 11 (fun A st=>∃ (j171 j172 j173 j174 j175 j176 j177 j178 j179 j180 : V),st = A [(43,.d (.bool c169)),(42,j180),(41,j179),(40,j178),(39,j177),(38,j176),(37,j175),(36,j174),(35,j173),(34,j172),(33,j171)]) ?_ ?_
  ·refine qz rfl rfl h170 (fun h170=>?_) (fun h170=>?_)
   ·refine q0 rfl rfl<|q0 rfl rfl ?_
    obtain ⟨v181,h182,h170⟩:=bindE h170
    refine qj h182 rfl rfl rfl rfl rfl rfl rfl<|qr (.d (.int .i64 v181)) h182 rfl rfl rfl rfl rfl rfl<|q0 rfl rfl<|q0 rfl rfl ?_
    obtain ⟨v183,h184,h170⟩:=bindE h170
    refine qj h184 rfl rfl rfl rfl rfl rfl rfl<|qr (.d (.int .i64 v183)) h184 rfl rfl rfl rfl rfl rfl ?_
    obtain ⟨r185,h186,h170⟩:=bindE h170
    refine q11 [.d (.int .i64 v181),.d (.int .i64 v183)] (q3b v181 v183 r185 h186) rfl rfl rfl (.inl rfl)<|q9 (.d (.bool r185)) rfl rfl<|q7 ?_
    obtain rfl:=someE h170
    exact ⟨_,_,_,_,_,_,_,_,_,_,rfl⟩
   ·refine qc rfl<|qc rfl<|qc rfl<|qc rfl<|qc rfl<|qc rfl<|qc rfl<|qc rfl<|qc rfl<|q9 (.d (.bool false)) rfl rfl<|q7 ?_
    obtain rfl:=someE h170
    exact ⟨_,_,_,_,_,_,_,_,_,_,rfl⟩
  ·rintro _ ⟨j171,j172,j173,j174,j175,j176,j177,j178,j179,j180,rfl⟩
   refine q7 ?_
   refine qd rfl h158 (fun _ h158=>?_) (fun _ h158=>?_)
   ·refine qg<|ql<|q6<|q0 rfl rfl<|q9 (.d (.int .i64 (w64 (a159 + 1)))) rfl rfl<|qa rfl rfl<|q7<|qf<|qv<|qf ?_
    exact ⟨_,(Option.some.inj h158).symm,wkE [] [] [] rfl ⟨⟨_,rfl,.hs rfl (by decide) (ltd rfl)⟩,⟨_,rfl,.d (.refl _)⟩,⟨_,rfl,.d (.refl _)⟩,⟨_,rfl,.d (.refl _)⟩,trivial⟩ ⟨⟨ltd rfl,.inr ⟨by decide,_,rfl,.dat _ _⟩⟩,trivial⟩⟩
   ·refine qp ?_
    refine ⟨_,(Option.some.inj h158).symm,fun hm=>?_⟩
    subst hm
    exact ⟨_,rfl,wkE [] [] [] rfl ⟨⟨_,rfl,.hs rfl (by decide) (ltd rfl)⟩,⟨_,rfl,.d (.refl _)⟩,⟨_,rfl,.d (.refl _)⟩,⟨_,rfl,.d (.refl _)⟩,trivial⟩ ⟨⟨ltd rfl,.inr ⟨by decide,_,rfl,.dat _ _⟩⟩,trivial⟩⟩
 ·intro b162 hb
  subst hb
  refine q8 ?_
  obtain ⟨m240,h241,h0⟩:=bindE h0
  refine qn (fun b242=>b242 = m240) (fun (b242 : Int)=>⟨[(0,.hs 0 1 0 ((p0.set p1.toNat v101).set p3.toNat v103).length),(1,.d (.int .i64 p1)),(10,.d (.int .i64 b162)),(11,.d (.int .i64 b242))],[(0,.dat 1 (((p0.set p1.toNat v101).set p3.toNat v103).map (eI .i64)))],1⟩) (by simp) ?_ ?_
  ·refine qo (q2y b162 p0 p1 v101 p3 v103) (fun (a239 : Int)=>⟨[(0,.hs 0 1 0 ((p0.set p1.toNat v101).set p3.toNat v103).length),(1,.d (.int .i64 p1)),(10,.d (.int .i64 b162)),(11,.d (.int .i64 a239))],[(0,.dat 1 (((p0.set p1.toNat v101).set p3.toNat v103).map (eI .i64)))],1⟩) (w64 (p2 - 1)) m240 h241 (wkE [] [] [] rfl ⟨⟨_,rfl,.hs rfl (by decide) (ltd rfl)⟩,⟨_,rfl,.d (.refl _)⟩,⟨_,rfl,.d (.refl _)⟩,⟨_,rfl,.d (.refl _)⟩,trivial⟩ ⟨⟨ltd rfl,.inr ⟨by decide,_,rfl,.dat _ _⟩⟩,trivial⟩) ?_
   intro a239 y237 h238
   unfold q2y at h238
   refine q8<|q8<|qk [(some [],[]),(some [],[]),(some [],[]),(some [0],[]),(some [],[]),(some [],[]),(some [],[]),(some [0],[]),(some [],[]),(some [],[]),(some [],[]),(some [],[]),(some [],[]),(some [],[]),(some [],[])] (by kernel_rfl)<|q0 rfl rfl<|q0 rfl rfl<|q9 (.d (.bool (decide (b162≤a239)))) rfl rfl ?_
   obtain ⟨c249,h250,h238⟩:=bindE h238
   refine qt 12 (fun A st=>∃ (j251 j252 j253 j254 j255 j256 j257 j258 j259 j260 j261 : V),st = A [(60,.d (.bool c249)),(59,j261),(58,j260),(57,j259),(56,j258),(55,j257),(54,j256),(53,j255),(52,j254),(51,j253),(50,j252),(49,j251)]) ?_ ?_
   ·refine qz rfl rfl h250 (fun h250=>?_) (fun h250=>?_)
    ·refine q0 rfl rfl<|q0 rfl rfl ?_
     obtain ⟨v262,h263,h250⟩:=bindE h250
     refine qj h263 rfl rfl rfl rfl rfl rfl rfl<|qr (.d (.int .i64 v262)) h263 rfl rfl rfl rfl rfl rfl<|q0 rfl rfl<|q0 rfl rfl ?_
     obtain ⟨v264,h265,h250⟩:=bindE h250
     refine qj h265 rfl rfl rfl rfl rfl rfl rfl<|qr (.d (.int .i64 v264)) h265 rfl rfl rfl rfl rfl rfl ?_
     obtain ⟨r266,h267,h250⟩:=bindE h250
     refine q11 [.d (.int .i64 v262),.d (.int .i64 v264)] (q3b v262 v264 r266 h267) rfl rfl rfl (.inl rfl)<|q9 (.d (.bool (!r266))) rfl rfl<|q9 (.d (.bool (!r266))) rfl rfl<|q7 ?_
     obtain rfl:=someE h250
     exact ⟨_,_,_,_,_,_,_,_,_,_,_,rfl⟩
    ·refine qc rfl<|qc rfl<|qc rfl<|qc rfl<|qc rfl<|qc rfl<|qc rfl<|qc rfl<|qc rfl<|qc rfl<|q9 (.d (.bool false)) rfl rfl<|q7 ?_
     obtain rfl:=someE h250
     exact ⟨_,_,_,_,_,_,_,_,_,_,_,rfl⟩
   ·rintro _ ⟨j251,j252,j253,j254,j255,j256,j257,j258,j259,j260,j261,rfl⟩
    refine q7 ?_
    refine qd rfl h238 (fun _ h238=>?_) (fun _ h238=>?_)
    ·refine qg<|ql<|q6<|q0 rfl rfl<|q9 (.d (.int .i64 (w64 (a239 - 1)))) rfl rfl<|qa rfl rfl<|q7<|qf<|qv<|qf ?_
     exact ⟨_,(Option.some.inj h238).symm,wkE [] [] [] rfl ⟨⟨_,rfl,.hs rfl (by decide) (ltd rfl)⟩,⟨_,rfl,.d (.refl _)⟩,⟨_,rfl,.d (.refl _)⟩,⟨_,rfl,.d (.refl _)⟩,trivial⟩ ⟨⟨ltd rfl,.inr ⟨by decide,_,rfl,.dat _ _⟩⟩,trivial⟩⟩
    ·refine qp ?_
     refine ⟨_,(Option.some.inj h238).symm,fun hm=>?_⟩
     subst hm
     exact ⟨_,rfl,wkE [] [] [] rfl ⟨⟨_,rfl,.hs rfl (by decide) (ltd rfl)⟩,⟨_,rfl,.d (.refl _)⟩,⟨_,rfl,.d (.refl _)⟩,⟨_,rfl,.d (.refl _)⟩,trivial⟩ ⟨⟨ltd rfl,.inr ⟨by decide,_,rfl,.dat _ _⟩⟩,trivial⟩⟩
  ·intro b242 hb
   subst hb
   refine q8<|q8<|q6<|q0 rfl rfl<|q0 rfl rfl<|q9 (.d (.bool (decide (b162 > b242)))) rfl rfl<|q7 ?_
   refine qd rfl h0 (fun _ h0=>?_) (fun _ h0=>?_)
   ·refine q8<|qk [(some [0],[0]),(some [],[]),(some [0],[0]),(some [],[]),(some [0],[]),(some [],[]),(some [],[]),(some [],[]),(some [0],[]),(some [],[]),(some [],[]),(some [],[]),(some [],[]),(some [],[]),(some [],[]),(some [],[])] (by kernel_rfl)<|q0 rfl rfl<|q0 rfl rfl<|q0 rfl rfl<|q0 rfl rfl<|q0 rfl rfl<|q0 rfl rfl ?_
    obtain ⟨v276,h277,h0⟩:=bindE h0
    refine qj h277 rfl rfl rfl rfl rfl rfl rfl<|qr (.d (.int .i64 v276)) h277 rfl rfl rfl rfl rfl rfl<|q0 rfl rfl<|q0 rfl rfl ?_
    obtain ⟨v278,h279,h0⟩:=bindE h0
    refine qj h279 rfl rfl rfl rfl rfl rfl rfl<|qr (.d (.int .i64 v278)) h279 rfl rfl rfl rfl rfl rfl ?_
    obtain ⟨v280,h281,h0⟩:=bindE h0
    refine qj h281 rfl rfl rfl rfl rfl rfl rfl<|q19 (ds:=[.int .i64 v276]) v276 h281 rfl rfl rfl rfl rfl rfl rfl rfl (leb rfl) rfl ?_
    obtain ⟨v282,h283,h0⟩:=bindE h0
    refine qj h283 (by simp) rfl rfl rfl rfl rfl rfl<|q19 (ds:=[.int .i64 v278]) v278 h283 rfl rfl rfl rfl rfl rfl rfl rfl (leb rfl) rfl<|q7<|q8<|q6<|q0 rfl rfl<|qa rfl rfl<|qa rfl rfl<|q7<|qm ?_
    obtain rfl:=someE h0
    exact ⟨.inr rfl,_,rfl,wkE [] [] [] rfl ⟨⟨_,rfl,.d (.refl _)⟩,trivial⟩ ⟨⟨ltd rfl,.inr ⟨by decide,_,rfl,.dat _ _⟩⟩,trivial⟩⟩
   ·refine qg<|q8<|qk [(some [0],[0]),(some [],[]),(some [0],[0]),(some [],[]),(some [0],[]),(some [],[]),(some [],[]),(some [],[]),(some [0],[]),(some [],[]),(some [],[]),(some [],[]),(some [],[]),(some [],[]),(some [],[]),(some [],[])] (by kernel_rfl)<|q0 rfl rfl<|q0 rfl rfl<|q0 rfl rfl<|q0 rfl rfl<|q0 rfl rfl<|q0 rfl rfl ?_
    obtain ⟨v284,h285,h0⟩:=bindE h0
    refine qj h285 rfl rfl rfl rfl rfl rfl rfl<|qr (.d (.int .i64 v284)) h285 rfl rfl rfl rfl rfl rfl<|q0 rfl rfl<|q0 rfl rfl ?_
    obtain ⟨v286,h287,h0⟩:=bindE h0
    refine qj h287 rfl rfl rfl rfl rfl rfl rfl<|qr (.d (.int .i64 v286)) h287 rfl rfl rfl rfl rfl rfl ?_
    obtain ⟨v288,h289,h0⟩:=bindE h0
    refine qj h289 rfl rfl rfl rfl rfl rfl rfl<|q19 (ds:=[.int .i64 v284]) v284 h289 rfl rfl rfl rfl rfl rfl rfl rfl (leb rfl) rfl ?_
    obtain ⟨v290,h291,h0⟩:=bindE h0
    refine qj h291 (by simp) rfl rfl rfl rfl rfl rfl<|q19 (ds:=[.int .i64 v286]) v286 h291 rfl rfl rfl rfl rfl rfl rfl rfl (leb rfl) rfl<|q7<|q8<|q6<|q0 rfl rfl<|q9 (.d (.int .i64 (w64 (b162 + 1)))) rfl rfl<|qa rfl rfl<|q7<|q8<|q6<|q0 rfl rfl<|q9 (.d (.int .i64 (w64 (b242 - 1)))) rfl rfl<|qa rfl rfl<|q7<|q8 ?_
    obtain ⟨m489,h490,h0⟩:=bindE h0
    refine qn (fun b491=>b491 = m489) (fun (b491 : Int × List Int)=>⟨[(0,.hs 0 1 0 b491.2.length),(1,.d (.int .i64 p1)),(11,.d (.int .i64 b491.1))],[(0,.dat 1 (b491.2.map (eI .i64)))],1⟩) (by simp) ?_ ?_
    ·refine qo (q31 p1) (fun (a488 : Int × Int × List Int)=>⟨[(0,.hs 0 1 0 a488.2.2.length),(1,.d (.int .i64 p1)),(10,.d (.int .i64 a488.1)),(11,.d (.int .i64 a488.2.1))],[(0,.dat 1 (a488.2.2.map (eI .i64)))],1⟩) (w64 (b162 + 1),w64 (b242 - 1),(((p0.set p1.toNat v101).set p3.toNat v103).set b162.toNat v284).set b242.toNat v286) m489 h490 (wkE [] [] [] rfl ⟨⟨_,rfl,q16 (by simp) rfl (by decide) (ltd rfl)⟩,⟨_,rfl,.d (.refl _)⟩,⟨_,rfl,.d (.refl _)⟩,⟨_,rfl,.d (.refl _)⟩,trivial⟩ ⟨⟨ltd rfl,.inr ⟨by decide,_,rfl,.dat _ _⟩⟩,trivial⟩) ?_
     intro a488 y486 h487
     unfold q31 at h487
     refine ql<|q8 ?_
     obtain ⟨m543,h544,h487⟩:=bindE h487
     refine qn (fun b545=>b545 = m543) (fun (b545 : Int)=>⟨[(0,.hs 0 1 0 a488.2.2.length),(1,.d (.int .i64 p1)),(10,.d (.int .i64 b545)),(11,.d (.int .i64 a488.2.1))],[(0,.dat 1 (a488.2.2.map (eI .i64)))],1⟩) (by simp) ?_ ?_
     ·refine qo (q2z a488 p1) (fun (a542 : Int)=>⟨[(0,.hs 0 1 0 a488.2.2.length),(1,.d (.int .i64 p1)),(10,.d (.int .i64 a542)),(11,.d (.int .i64 a488.2.1))],[(0,.dat 1 (a488.2.2.map (eI .i64)))],1⟩) a488.1 m543 h544 (wkE [] [] [] rfl ⟨⟨_,rfl,.hs rfl (by decide) (ltd rfl)⟩,⟨_,rfl,.d (.refl _)⟩,⟨_,rfl,.d (.refl _)⟩,⟨_,rfl,.d (.refl _)⟩,trivial⟩ ⟨⟨ltd rfl,.inr ⟨by decide,_,rfl,.dat _ _⟩⟩,trivial⟩) ?_
      intro a542 y540 h541
      unfold q2z at h541
      refine q8<|q8<|qk [(some [],[]),(some [],[]),(some [0],[]),(some [],[]),(some [],[]),(some [],[]),(some [0],[]),(some [],[]),(some [],[]),(some [],[]),(some [],[]),(some [],[]),(some [],[]),(some [],[])] (by kernel_rfl)<|q0 rfl rfl<|q0 rfl rfl<|q9 (.d (.bool (decide (a542≤a488.2.1)))) rfl rfl ?_
      obtain ⟨c552,h553,h541⟩:=bindE h541
      refine qt 11 (fun A st=>∃ (j554 j555 j556 j557 j558 j559 j560 j561 j562 j563 : V),st = A [(112,.d (.bool c552)),(111,j563),(110,j562),(109,j561),(108,j560),(107,j559),(106,j558),(105,j557),(104,j556),(103,j555),(102,j554)]) ?_ ?_
      ·refine qz rfl rfl h553 (fun h553=>?_) (fun h553=>?_)
       ·refine q0 rfl rfl<|q0 rfl rfl ?_
        obtain ⟨v564,h565,h553⟩:=bindE h553
        refine qj h565 rfl rfl rfl rfl rfl rfl rfl<|qr (.d (.int .i64 v564)) h565 rfl rfl rfl rfl rfl rfl<|q0 rfl rfl<|q0 rfl rfl ?_
        obtain ⟨v566,h567,h553⟩:=bindE h553
        refine qj h567 rfl rfl rfl rfl rfl rfl rfl<|qr (.d (.int .i64 v566)) h567 rfl rfl rfl rfl rfl rfl ?_
        obtain ⟨r568,h569,h553⟩:=bindE h553
        refine q11 [.d (.int .i64 v564),.d (.int .i64 v566)] (q3b v564 v566 r568 h569) rfl rfl rfl (.inl rfl)<|q9 (.d (.bool r568)) rfl rfl<|q7 ?_
        obtain rfl:=someE h553
        exact ⟨_,_,_,_,_,_,_,_,_,_,rfl⟩
       ·refine qc rfl<|qc rfl<|qc rfl<|qc rfl<|qc rfl<|qc rfl<|qc rfl<|qc rfl<|qc rfl<|q9 (.d (.bool false)) rfl rfl<|q7 ?_
        obtain rfl:=someE h553
        exact ⟨_,_,_,_,_,_,_,_,_,_,rfl⟩
      ·rintro _ ⟨j554,j555,j556,j557,j558,j559,j560,j561,j562,j563,rfl⟩
       refine q7 ?_
       refine qd rfl h541 (fun _ h541=>?_) (fun _ h541=>?_)
       ·refine qg<|ql<|q6<|q0 rfl rfl<|q9 (.d (.int .i64 (w64 (a542 + 1)))) rfl rfl<|qa rfl rfl<|q7<|qf<|qv<|qf ?_
        exact ⟨_,(Option.some.inj h541).symm,wkE [] [] [] rfl ⟨⟨_,rfl,.hs rfl (by decide) (ltd rfl)⟩,⟨_,rfl,.d (.refl _)⟩,⟨_,rfl,.d (.refl _)⟩,⟨_,rfl,.d (.refl _)⟩,trivial⟩ ⟨⟨ltd rfl,.inr ⟨by decide,_,rfl,.dat _ _⟩⟩,trivial⟩⟩
       ·refine qp ?_
        refine ⟨_,(Option.some.inj h541).symm,fun hm=>?_⟩
        subst hm
        exact ⟨_,rfl,wkE [] [] [] rfl ⟨⟨_,rfl,.hs rfl (by decide) (ltd rfl)⟩,⟨_,rfl,.d (.refl _)⟩,⟨_,rfl,.d (.refl _)⟩,⟨_,rfl,.d (.refl _)⟩,trivial⟩ ⟨⟨ltd rfl,.inr ⟨by decide,_,rfl,.dat _ _⟩⟩,trivial⟩⟩
     ·intro b545 hb
      subst hb
      refine q8 ?_
      obtain ⟨m623,h624,h487⟩:=bindE h487
      refine qn (fun b625=>b625 = m623) (fun (b625 : Int)=>⟨[(0,.hs 0 1 0 a488.2.2.length),(1,.d (.int .i64 p1)),(10,.d (.int .i64 b545)),(11,.d (.int .i64 b625))],[(0,.dat 1 (a488.2.2.map (eI .i64)))],1⟩) (by simp) ?_ ?_
      ·refine qo (q30 b545 a488 p1) (fun (a622 : Int)=>⟨[(0,.hs 0 1 0 a488.2.2.length),(1,.d (.int .i64 p1)),(10,.d (.int .i64 b545)),(11,.d (.int .i64 a622))],[(0,.dat 1 (a488.2.2.map (eI .i64)))],1⟩) a488.2.1 m623 h624 (wkE [] [] [] rfl ⟨⟨_,rfl,.hs rfl (by decide) (ltd rfl)⟩,⟨_,rfl,.d (.refl _)⟩,⟨_,rfl,.d (.refl _)⟩,⟨_,rfl,.d (.refl _)⟩,trivial⟩ ⟨⟨ltd rfl,.inr ⟨by decide,_,rfl,.dat _ _⟩⟩,trivial⟩) ?_
       intro a622 y620 h621
       unfold q30 at h621
       refine q8<|q8<|qk [(some [],[]),(some [],[]),(some [],[]),(some [0],[]),(some [],[]),(some [],[]),(some [],[]),(some [0],[]),(some [],[]),(some [],[]),(some [],[]),(some [],[]),(some [],[]),(some [],[]),(some [],[])] (by kernel_rfl)<|q0 rfl rfl<|q0 rfl rfl<|q9 (.d (.bool (decide (b545≤a622)))) rfl rfl ?_
       obtain ⟨c632,h633,h621⟩:=bindE h621
       refine qt 12 (fun A st=>∃ (j634 j635 j636 j637 j638 j639 j640 j641 j642 j643 j644 : V),st = A [(129,.d (.bool c632)),(128,j644),(127,j643),(126,j642),(125,j641),(124,j640),(123,j639),(122,j638),(121,j637),(120,j636),(119,j635),(118,j634)]) ?_ ?_
       ·refine qz rfl rfl h633 (fun h633=>?_) (fun h633=>?_)
        ·refine q0 rfl rfl<|q0 rfl rfl ?_
         obtain ⟨v645,h646,h633⟩:=bindE h633
         refine qj h646 rfl rfl rfl rfl rfl rfl rfl<|qr (.d (.int .i64 v645)) h646 rfl rfl rfl rfl rfl rfl<|q0 rfl rfl<|q0 rfl rfl ?_
         obtain ⟨v647,h648,h633⟩:=bindE h633
         refine qj h648 rfl rfl rfl rfl rfl rfl rfl<|qr (.d (.int .i64 v647)) h648 rfl rfl rfl rfl rfl rfl ?_
         obtain ⟨r649,h650,h633⟩:=bindE h633
         refine q11 [.d (.int .i64 v645),.d (.int .i64 v647)] (q3b v645 v647 r649 h650) rfl rfl rfl (.inl rfl)<|q9 (.d (.bool (!r649))) rfl rfl<|q9 (.d (.bool (!r649))) rfl rfl<|q7 ?_
         obtain rfl:=someE h633
         exact ⟨_,_,_,_,_,_,_,_,_,_,_,rfl⟩
        ·refine qc rfl<|qc rfl<|qc rfl<|qc rfl<|qc rfl<|qc rfl<|qc rfl<|qc rfl<|qc rfl<|qc rfl<|q9 (.d (.bool false)) rfl rfl<|q7 ?_
         obtain rfl:=someE h633
         exact ⟨_,_,_,_,_,_,_,_,_,_,_,rfl⟩
       ·rintro _ ⟨j634,j635,j636,j637,j638,j639,j640,j641,j642,j643,j644,rfl⟩
        refine q7 ?_
        refine qd rfl h621 (fun _ h621=>?_) (fun _ h621=>?_)
        ·refine qg<|ql<|q6<|q0 rfl rfl<|q9 (.d (.int .i64 (w64 (a622 - 1)))) rfl rfl<|qa rfl rfl<|q7<|qf<|qv<|qf ?_
         exact ⟨_,(Option.some.inj h621).symm,wkE [] [] [] rfl ⟨⟨_,rfl,.hs rfl (by decide) (ltd rfl)⟩,⟨_,rfl,.d (.refl _)⟩,⟨_,rfl,.d (.refl _)⟩,⟨_,rfl,.d (.refl _)⟩,trivial⟩ ⟨⟨ltd rfl,.inr ⟨by decide,_,rfl,.dat _ _⟩⟩,trivial⟩⟩
        ·refine qp ?_
         refine ⟨_,(Option.some.inj h621).symm,fun hm=>?_⟩
         subst hm
         exact ⟨_,rfl,wkE [] [] [] rfl ⟨⟨_,rfl,.hs rfl (by decide) (ltd rfl)⟩,⟨_,rfl,.d (.refl _)⟩,⟨_,rfl,.d (.refl _)⟩,⟨_,rfl,.d (.refl _)⟩,trivial⟩ ⟨⟨ltd rfl,.inr ⟨by decide,_,rfl,.dat _ _⟩⟩,trivial⟩⟩
      ·intro b625 hb
       subst hb
       refine q8<|q8<|q6<|q0 rfl rfl<|q0 rfl rfl<|q9 (.d (.bool (decide (b545 > b625)))) rfl rfl<|q7 ?_
       refine qd rfl h487 (fun _ h487=>?_) (fun _ h487=>?_)
       ·refine qp ?_
        refine ⟨_,(Option.some.inj h487).symm,fun hm=>?_⟩
        subst hm
        exact ⟨_,rfl,wkE [] [] [] rfl ⟨⟨_,rfl,.hs rfl (by decide) (ltd rfl)⟩,⟨_,rfl,.d (.refl _)⟩,⟨_,rfl,.d (.refl _)⟩,trivial⟩ ⟨⟨ltd rfl,.inr ⟨by decide,_,rfl,.dat _ _⟩⟩,trivial⟩⟩
       ·refine qg<|q8<|qk [(some [0],[0]),(some [],[]),(some [0],[0]),(some [],[]),(some [0],[]),(some [],[]),(some [],[]),(some [],[]),(some [0],[]),(some [],[]),(some [],[]),(some [],[]),(some [],[]),(some [],[]),(some [],[]),(some [],[])] (by kernel_rfl)<|q0 rfl rfl<|q0 rfl rfl<|q0 rfl rfl<|q0 rfl rfl<|q0 rfl rfl<|q0 rfl rfl ?_
        obtain ⟨v651,h652,h487⟩:=bindE h487
        refine qj h652 rfl rfl rfl rfl rfl rfl rfl<|qr (.d (.int .i64 v651)) h652 rfl rfl rfl rfl rfl rfl<|q0 rfl rfl<|q0 rfl rfl ?_
        obtain ⟨v653,h654,h487⟩:=bindE h487
        refine qj h654 rfl rfl rfl rfl rfl rfl rfl<|qr (.d (.int .i64 v653)) h654 rfl rfl rfl rfl rfl rfl ?_
        obtain ⟨v655,h656,h487⟩:=bindE h487
        refine qj h656 rfl rfl rfl rfl rfl rfl rfl<|q19 (ds:=[.int .i64 v651]) v651 h656 rfl rfl rfl rfl rfl rfl rfl rfl (leb rfl) rfl ?_
        obtain ⟨v657,h658,h487⟩:=bindE h487
        refine qj h658 (by simp) rfl rfl rfl rfl rfl rfl<|q19 (ds:=[.int .i64 v653]) v653 h658 rfl rfl rfl rfl rfl rfl rfl rfl (leb rfl) rfl<|q7<|q8<|q6<|q0 rfl rfl<|q9 (.d (.int .i64 (w64 (b545 + 1)))) rfl rfl<|qa rfl rfl<|q7<|q6<|q0 rfl rfl<|q9 (.d (.int .i64 (w64 (b625 - 1)))) rfl rfl<|qa rfl rfl<|q7<|qf<|qv<|qf ?_
        exact ⟨_,(Option.some.inj h487).symm,wkE [] [] [] rfl ⟨⟨_,rfl,q16 (by simp) rfl (by decide) (ltd rfl)⟩,⟨_,rfl,.d (.refl _)⟩,⟨_,rfl,.d (.refl _)⟩,⟨_,rfl,.d (.refl _)⟩,trivial⟩ ⟨⟨ltd rfl,.inr ⟨by decide,_,rfl,.dat _ _⟩⟩,trivial⟩⟩
    ·intro b491 hb
     subst hb
     refine q8<|qk [(some [0],[0]),(some [],[]),(some [0],[0]),(some [],[]),(some [0],[]),(some [],[]),(some [],[]),(some [],[]),(some [0],[]),(some [],[]),(some [],[]),(some [],[]),(some [],[]),(some [],[]),(some [],[]),(some [],[])] (by kernel_rfl)<|q0 rfl rfl<|q0 rfl rfl<|q0 rfl rfl<|q0 rfl rfl<|q0 rfl rfl<|q0 rfl rfl ?_
     obtain ⟨v659,h660,h0⟩:=bindE h0
     refine qj h660 rfl rfl rfl rfl rfl rfl rfl<|qr (.d (.int .i64 v659)) h660 rfl rfl rfl rfl rfl rfl<|q0 rfl rfl<|q0 rfl rfl ?_
     obtain ⟨v661,h662,h0⟩:=bindE h0
     refine qj h662 rfl rfl rfl rfl rfl rfl rfl<|qr (.d (.int .i64 v661)) h662 rfl rfl rfl rfl rfl rfl ?_
     obtain ⟨v663,h664,h0⟩:=bindE h0
     refine qj h664 rfl rfl rfl rfl rfl rfl rfl<|q19 (ds:=[.int .i64 v659]) v659 h664 rfl rfl rfl rfl rfl rfl rfl rfl (leb rfl) rfl ?_
     obtain ⟨v665,h666,h0⟩:=bindE h0
     refine qj h666 (by simp) rfl rfl rfl rfl rfl rfl<|q19 (ds:=[.int .i64 v661]) v661 h666 rfl rfl rfl rfl rfl rfl rfl rfl (leb rfl) rfl<|q7<|q8<|q6<|q0 rfl rfl<|qa rfl rfl<|qa rfl rfl<|q7<|qm ?_
     obtain rfl:=someE h0
     exact ⟨.inr rfl,_,rfl,wkE [] [] [] rfl ⟨⟨_,rfl,.d (.refl _)⟩,trivial⟩ ⟨⟨ltd rfl,.inr ⟨by decide,_,rfl,.dat _ _⟩⟩,trivial⟩⟩
theorem q8k (rec : List Int→Int→Int→Int→Option (List Int)) (hrec : ∀ (p0 : List Int) (p1 : Int) (p2 : Int) (p3 : Int) (r : List Int),rec p0 p1 p2 p3 = some r→EvCall Try.prog tab 92 [.hs 0 1 0 p0.length,.d (.int .i64 p1),.d (.int .i64 p2),.d (.int .i64 p3)] [(0,.dat 1 (p0.map (eI .i64)))] 1 (.d (.tup [])) [(0,.dat 1 (r.map (eI .i64)))] 1) (p0 : List Int) (p1 : Int) (p2 : Int) (p3 : Int) (r : List Int) (h0 : q2k rec  p0 p1 p2 p3 = some r) : EvCall Try.prog tab 92 [.hs 0 1 0 p0.length,.d (.int .i64 p1),.d (.int .i64 p2),.d (.int .i64 p3)] [(0,.dat 1 (p0.map (eI .i64)))] 1 (.d (.tup [])) [(0,.dat 1 (r.map (eI .i64)))] 1:=by
 unfold q2k at h0
 refine q18 Try.func92 rfl (by kernel_rfl) (by kernel_rfl) rfl<|q8<|q6<|qa rfl rfl<|q7<|q8<|q6<|qa rfl rfl<|q7 ?_
 obtain ⟨m306,h307,h0⟩:=bindE h0
 refine ql<|qo (q2e rec) (fun (a305 : Int × Int × Int × Bool × Bool × List Int)=>⟨[(0,.hs 0 1 0 a305.2.2.2.2.2.length),(1,.d (.int .i64 a305.1)),(2,.d (.int .i64 a305.2.1)),(3,.d (.int .i64 a305.2.2.1)),(8,.d (.bool a305.2.2.2.1)),(9,.d (.bool a305.2.2.2.2.1))],[(0,.dat 1 (a305.2.2.2.2.2.map (eI .i64)))],1⟩) (p1,p2,p3,true,true,p0) m306 h307 (wkE [] [] [] rfl ⟨⟨_,rfl,.hs rfl (by decide) (ltd rfl)⟩,⟨_,rfl,.d (.refl _)⟩,⟨_,rfl,.d (.refl _)⟩,⟨_,rfl,.d (.refl _)⟩,⟨_,rfl,.d (.refl _)⟩,⟨_,rfl,.d (.refl _)⟩,trivial⟩ ⟨⟨ltd rfl,.inr ⟨by decide,_,rfl,.dat _ _⟩⟩,trivial⟩) ?_
 intro a305 y303 h304
 unfold q2e at h304
 refine ql<|q8<|q6<|q0 rfl rfl<|q0 rfl rfl<|q9 (.d (.int .i64 (w64 (a305.2.1 - a305.1)))) rfl rfl<|qa rfl rfl<|q7<|q8<|q8<|q6<|q0 rfl rfl<|q9 (.d (.bool (decide ((w64 (a305.2.1 - a305.1))≤12)))) rfl rfl<|q7 ?_
 refine qd rfl h304 (fun _ h304=>?_) (fun _ h304=>?_)
 ·refine q8<|q6<|q0 rfl rfl<|q0 rfl rfl<|q0 rfl rfl ?_
  obtain ⟨e314,h315,h304⟩:=bindE h304
  obtain ⟨u316,h317,h304⟩:=bindE h304
  have h318:=q1o h317
  refine q12 [(0,0)] [(0,0)] [.hs 0 1 0 a305.2.2.2.2.2.length,.d (.int .i64 a305.1),.d (.int .i64 a305.2.1)] (.d (.tup [])) [(0,.dat 1 (e314.map (eI .i64)))] [(0,.dat 1 (e314.map (eI .i64)))] 1 (q7n a305.2.2.2.2.2 a305.1 a305.2.1 e314 h315) rfl rfl rfl (qx [(0,0)] [] [] rfl ⟨⟨_,rfl,.hs rfl (by decide) (ltd rfl)⟩,⟨_,rfl,.d (.refl _)⟩,⟨_,rfl,.d (.refl _)⟩,trivial⟩ ⟨⟨ltd rfl,.inr ⟨by decide,_,rfl,.dat _ _⟩⟩,trivial⟩) (qx [(0,0)] [] [] rfl ⟨⟨_,rfl,.d (.refl _)⟩,trivial⟩ ⟨⟨ltd rfl,.inr ⟨by decide,_,rfl,.dat _ _⟩⟩,trivial⟩) rfl ⟨.inl rfl,trivial⟩<|q7<|qm ?_
  refine ⟨_,(Option.some.inj h304).symm,fun hm=>?_⟩
  subst hm
  obtain rfl:=someE h0
  exact ⟨.inr rfl,_,rfl,wkE [] [] [] rfl ⟨⟨_,rfl,.d (.refl _)⟩,trivial⟩ ⟨⟨ltd rfl,.inr ⟨by decide,_,rfl,.dat _ _⟩⟩,trivial⟩⟩
 ·refine qg<|q8<|q8<|q6<|q0 rfl rfl<|q9 (.d (.bool (a305.2.2.1 == 0))) rfl rfl<|q7 ?_
  refine qd rfl h304 (fun _ h304=>?_) (fun _ h304=>?_)
  ·refine q8<|q6<|q0 rfl rfl<|q0 rfl rfl<|q0 rfl rfl ?_
   obtain ⟨e324,h325,h304⟩:=bindE h304
   obtain ⟨u326,h327,h304⟩:=bindE h304
   have h328:=q1o h327
   refine q12 [(0,0)] [(0,0)] [.hs 0 1 0 a305.2.2.2.2.2.length,.d (.int .i64 a305.1),.d (.int .i64 a305.2.1)] (.d (.tup [])) [(0,.dat 1 (e324.map (eI .i64)))] [(0,.dat 1 (e324.map (eI .i64)))] 1 (q8t a305.2.2.2.2.2 a305.1 a305.2.1 e324 h325) rfl rfl rfl (qx [(0,0)] [] [] rfl ⟨⟨_,rfl,.hs rfl (by decide) (ltd rfl)⟩,⟨_,rfl,.d (.refl _)⟩,⟨_,rfl,.d (.refl _)⟩,trivial⟩ ⟨⟨ltd rfl,.inr ⟨by decide,_,rfl,.dat _ _⟩⟩,trivial⟩) (qx [(0,0)] [] [] rfl ⟨⟨_,rfl,.d (.refl _)⟩,trivial⟩ ⟨⟨ltd rfl,.inr ⟨by decide,_,rfl,.dat _ _⟩⟩,trivial⟩) rfl ⟨.inl rfl,trivial⟩<|q7<|qm ?_
   refine ⟨_,(Option.some.inj h304).symm,fun hm=>?_⟩
   subst hm
   obtain rfl:=someE h0
   exact ⟨.inr rfl,_,rfl,wkE [] [] [] rfl ⟨⟨_,rfl,.d (.refl _)⟩,trivial⟩ ⟨⟨ltd rfl,.inr ⟨by decide,_,rfl,.dat _ _⟩⟩,trivial⟩⟩
  ·refine qg<|q8<|q8<|q6<|q0 rfl rfl<|q9 (.d (.bool (!a305.2.2.2.1))) rfl rfl<|q7 ?_
   obtain ⟨m335,h334,h304⟩:=bindE h304
   refine q5c (fun b336=>b336 = m335) (fun (b336 : Int × List Int)=>⟨[(0,.hs 0 1 0 b336.2.length),(1,.d (.int .i64 a305.1)),(2,.d (.int .i64 a305.2.1)),(3,.d (.int .i64 b336.1)),(8,.d (.bool a305.2.2.2.1)),(9,.d (.bool a305.2.2.2.2.1)),(10,.d (.int .i64 (w64 (a305.2.1 - a305.1))))],[(0,.dat 1 (b336.2.map (eI .i64)))],1⟩) (by simp) ?_ ?_
   ·refine qd rfl h334 (fun _ h334=>?_) (fun _ h334=>?_)
    ·refine q8<|q6<|q0 rfl rfl<|q0 rfl rfl<|q0 rfl rfl ?_
     obtain ⟨e337,h338,h334⟩:=bindE h334
     obtain ⟨u339,h340,h334⟩:=bindE h334
     have h341:=q1o h340
     refine q12 [(0,0)] [(0,0)] [.hs 0 1 0 a305.2.2.2.2.2.length,.d (.int .i64 a305.1),.d (.int .i64 a305.2.1)] (.d (.tup [])) [(0,.dat 1 (e337.map (eI .i64)))] [(0,.dat 1 (e337.map (eI .i64)))] 1 (q7o a305.2.2.2.2.2 a305.1 a305.2.1 e337 h338) rfl rfl rfl (qx [(0,0)] [] [] rfl ⟨⟨_,rfl,.hs rfl (by decide) (ltd rfl)⟩,⟨_,rfl,.d (.refl _)⟩,⟨_,rfl,.d (.refl _)⟩,trivial⟩ ⟨⟨ltd rfl,.inr ⟨by decide,_,rfl,.dat _ _⟩⟩,trivial⟩) (qx [(0,0)] [] [] rfl ⟨⟨_,rfl,.d (.refl _)⟩,trivial⟩ ⟨⟨ltd rfl,.inr ⟨by decide,_,rfl,.dat _ _⟩⟩,trivial⟩) rfl ⟨.inl rfl,trivial⟩<|q7<|q6<|q0 rfl rfl<|q9 (.d (.int .i64 (w64 (a305.2.2.1 - 1)))) rfl rfl<|qa rfl rfl<|q7<|qf ?_
     obtain rfl:=someE h334
     exact ⟨_,rfl,wkE [] [] [] rfl ⟨⟨_,rfl,q16 (by simp [h341]) rfl (by decide) (ltd rfl)⟩,⟨_,rfl,.d (.refl _)⟩,⟨_,rfl,.d (.refl _)⟩,⟨_,rfl,.d (.refl _)⟩,⟨_,rfl,.d (.refl _)⟩,⟨_,rfl,.d (.refl _)⟩,⟨_,rfl,.d (.refl _)⟩,trivial⟩ ⟨⟨ltd rfl,.inr ⟨by decide,_,rfl,.dat _ _⟩⟩,trivial⟩⟩
    ·refine qg<|qf ?_
     obtain rfl:=someE h334
     exact ⟨_,rfl,wkE [] [] [] rfl ⟨⟨_,rfl,.hs rfl (by decide) (ltd rfl)⟩,⟨_,rfl,.d (.refl _)⟩,⟨_,rfl,.d (.refl _)⟩,⟨_,rfl,.d (.refl _)⟩,⟨_,rfl,.d (.refl _)⟩,⟨_,rfl,.d (.refl _)⟩,⟨_,rfl,.d (.refl _)⟩,trivial⟩ ⟨⟨ltd rfl,.inr ⟨by decide,_,rfl,.dat _ _⟩⟩,trivial⟩⟩
   ·intro b336 hb
    subst hb
    refine q8<|q6<|q0 rfl rfl<|q0 rfl rfl<|q0 rfl rfl ?_
    obtain ⟨r342,h343,h304⟩:=bindE h304
    refine q11 [.hs 0 1 0 b336.2.length,.d (.int .i64 a305.1),.d (.int .i64 a305.2.1)] (q91 b336.2 a305.1 a305.2.1 r342 h343) rfl rfl (q9v (q8v rfl rfl) (q9v rfl (q9v rfl rfl))) (.inr rfl)<|q0 rfl rfl<|q9 (.d (.int .i64 r342.1)) rfl rfl<|q9 (.d (.int .i64 r342.2)) rfl rfl<|qa rfl rfl<|qa rfl rfl<|q7<|q8<|q8<|q6<|q0 rfl rfl<|q9 (.d (.bool (r342.2 == 2))) rfl rfl<|q7 ?_
    obtain ⟨m350,h349,h304⟩:=bindE h304
    refine q5c (fun b351=>b351 = m350) (fun (b351 : Int × Int × List Int)=>⟨[(0,.hs 0 1 0 b351.2.2.length),(1,.d (.int .i64 a305.1)),(2,.d (.int .i64 a305.2.1)),(3,.d (.int .i64 b336.1)),(8,.d (.bool a305.2.2.2.1)),(9,.d (.bool a305.2.2.2.2.1)),(10,.d (.int .i64 (w64 (a305.2.1 - a305.1)))),(11,.d (.int .i64 b351.1)),(12,.d (.int .i64 b351.2.1))],[(0,.dat 1 (b351.2.2.map (eI .i64)))],1⟩) (by simp) ?_ ?_
    ·refine qd rfl h349 (fun _ h349=>?_) (fun _ h349=>?_)
     ·refine q8<|q6<|q0 rfl rfl<|q0 rfl rfl<|q0 rfl rfl ?_
      obtain ⟨e352,h353,h349⟩:=bindE h349
      obtain ⟨u354,h355,h349⟩:=bindE h349
      have h356:=q1o h355
      refine q12 [(0,0)] [(0,0)] [.hs 0 1 0 b336.2.length,.d (.int .i64 a305.1),.d (.int .i64 a305.2.1)] (.d (.tup [])) [(0,.dat 1 (e352.map (eI .i64)))] [(0,.dat 1 (e352.map (eI .i64)))] 1 (q7u b336.2 a305.1 a305.2.1 e352 h353) rfl rfl rfl (qx [(0,0)] [] [] rfl ⟨⟨_,rfl,.hs rfl (by decide) (ltd rfl)⟩,⟨_,rfl,.d (.refl _)⟩,⟨_,rfl,.d (.refl _)⟩,trivial⟩ ⟨⟨ltd rfl,.inr ⟨by decide,_,rfl,.dat _ _⟩⟩,trivial⟩) (qx [(0,0)] [] [] rfl ⟨⟨_,rfl,.d (.refl _)⟩,trivial⟩ ⟨⟨ltd rfl,.inr ⟨by decide,_,rfl,.dat _ _⟩⟩,trivial⟩) rfl ⟨.inl rfl,trivial⟩<|q7<|q8<|q6<|q0 rfl rfl<|q9 (.d (.int .i64 (w64 (a305.2.1 - 1)))) rfl rfl<|q0 rfl rfl<|q0 rfl rfl<|q9 (.d (.int .i64 (w64 (r342.1 - a305.1)))) rfl rfl<|q9 (.d (.int .i64 (w64 ((w64 (a305.2.1 - 1)) - (w64 (r342.1 - a305.1)))))) rfl rfl<|qa rfl rfl<|q7<|q6<|qa rfl rfl<|q7<|qf ?_
      obtain rfl:=someE h349
      exact ⟨_,rfl,wkE [] [] [] rfl ⟨⟨_,rfl,q16 (by simp [h356]) rfl (by decide) (ltd rfl)⟩,⟨_,rfl,.d (.refl _)⟩,⟨_,rfl,.d (.refl _)⟩,⟨_,rfl,.d (.refl _)⟩,⟨_,rfl,.d (.refl _)⟩,⟨_,rfl,.d (.refl _)⟩,⟨_,rfl,.d (.refl _)⟩,⟨_,rfl,.d (.refl _)⟩,⟨_,rfl,.d (.refl _)⟩,trivial⟩ ⟨⟨ltd rfl,.inr ⟨by decide,_,rfl,.dat _ _⟩⟩,trivial⟩⟩
     ·refine qg<|qf ?_
      obtain rfl:=someE h349
      exact ⟨_,rfl,wkE [] [] [] rfl ⟨⟨_,rfl,.hs rfl (by decide) (ltd rfl)⟩,⟨_,rfl,.d (.refl _)⟩,⟨_,rfl,.d (.refl _)⟩,⟨_,rfl,.d (.refl _)⟩,⟨_,rfl,.d (.refl _)⟩,⟨_,rfl,.d (.refl _)⟩,⟨_,rfl,.d (.refl _)⟩,⟨_,rfl,.d (.refl _)⟩,⟨_,rfl,.d (.refl _)⟩,trivial⟩ ⟨⟨ltd rfl,.inr ⟨by decide,_,rfl,.dat _ _⟩⟩,trivial⟩⟩
    ·intro b351 hb
     subst hb
     refine q8<|q8<|q6<|q0 rfl rfl ?_
     obtain ⟨c357,h358,h304⟩:=bindE h304
     refine qt 3 (fun A st=>∃ (j359 j360 : V),st = A [(64,.d (.bool c357)),(63,j360),(62,j359)]) ?_ ?_
     ·refine qz rfl rfl h358 (fun h358=>?_) (fun h358=>?_)
      ·refine q0 rfl rfl<|q9 (.d (.bool a305.2.2.2.2.1)) rfl rfl<|q7 ?_
       obtain rfl:=someE h358
       exact ⟨_,_,rfl⟩
      ·refine qc rfl<|q9 (.d (.bool false)) rfl rfl<|q7 ?_
       obtain rfl:=someE h358
       exact ⟨_,_,rfl⟩
     ·rintro _ ⟨j359,j360,rfl⟩
      obtain ⟨c361,h362,h304⟩:=bindE h304
      refine qt 4 (fun A st=>∃ (j363 j364 j365 : V),st = A [(68,.d (.bool c361)),(67,j365),(66,j364),(65,j363)]) ?_ ?_
      ·refine qz rfl rfl h362 (fun h362=>?_) (fun h362=>?_)
       ·refine q0 rfl rfl<|q9 (.d (.bool (b351.2.1 == 1))) rfl rfl<|q9 (.d (.bool (b351.2.1 == 1))) rfl rfl<|q7 ?_
        obtain rfl:=someE h362
        exact ⟨_,_,_,rfl⟩
       ·refine qc rfl<|qc rfl<|q9 (.d (.bool false)) rfl rfl<|q7 ?_
        obtain rfl:=someE h362
        exact ⟨_,_,_,rfl⟩
      ·rintro _ ⟨j363,j364,j365,rfl⟩
       refine q7 ?_
       obtain ⟨m372,h371,h304⟩:=bindE h304
       refine q5c (fun b373=>.inl b373 = m372) (fun (b373 : List Int)=>⟨[(0,.hs 0 1 0 b373.length),(1,.d (.int .i64 a305.1)),(2,.d (.int .i64 a305.2.1)),(3,.d (.int .i64 b336.1)),(8,.d (.bool a305.2.2.2.1)),(9,.d (.bool a305.2.2.2.2.1)),(10,.d (.int .i64 (w64 (a305.2.1 - a305.1)))),(11,.d (.int .i64 b351.1))],[(0,.dat 1 (b373.map (eI .i64)))],1⟩) (by simp) ?_ ?_
       ·refine qd rfl h371 (fun _ h371=>?_) (fun _ h371=>?_)
        ·refine q8<|q6<|q0 rfl rfl<|q0 rfl rfl<|q0 rfl rfl ?_
         obtain ⟨e374,h375,h371⟩:=bindE h371
         obtain ⟨u376,h377,h371⟩:=bindE h371
         have h378:=q1o h377
         refine q12 [(0,0)] [(0,0)] [.hs 0 1 0 b351.2.2.length,.d (.int .i64 a305.1),.d (.int .i64 a305.2.1)] (.d (.bool e374.1)) [(0,.dat 1 (e374.2.map (eI .i64)))] [(0,.dat 1 (e374.2.map (eI .i64)))] 1 (q6p b351.2.2 a305.1 a305.2.1 e374 h375) rfl rfl rfl (qx [(0,0)] [] [] rfl ⟨⟨_,rfl,.hs rfl (by decide) (ltd rfl)⟩,⟨_,rfl,.d (.refl _)⟩,⟨_,rfl,.d (.refl _)⟩,trivial⟩ ⟨⟨ltd rfl,.inr ⟨by decide,_,rfl,.dat _ _⟩⟩,trivial⟩) (qx [(0,0)] [] [] rfl ⟨⟨_,rfl,.d (.refl _)⟩,trivial⟩ ⟨⟨ltd rfl,.inr ⟨by decide,_,rfl,.dat _ _⟩⟩,trivial⟩) rfl ⟨.inl rfl,trivial⟩<|q7 ?_
         refine qd rfl h371 (fun _ h371=>?_) (fun _ h371=>?_)
         ·refine qm ?_
          obtain rfl:=someE h371
          refine ⟨_,(Option.some.inj h304).symm,fun hm=>?_⟩
          subst hm
          obtain rfl:=someE h0
          exact ⟨.inr rfl,_,rfl,wkE [] [] [] rfl ⟨⟨_,rfl,.d (.refl _)⟩,trivial⟩ ⟨⟨ltd rfl,.inr ⟨by decide,_,rfl,.dat _ _⟩⟩,trivial⟩⟩
         ·refine qg<|qf ?_
          obtain rfl:=someE h371
          exact ⟨_,rfl,wkE [] [] [] rfl ⟨⟨_,rfl,q16 (by simp [h378]) rfl (by decide) (ltd rfl)⟩,⟨_,rfl,.d (.refl _)⟩,⟨_,rfl,.d (.refl _)⟩,⟨_,rfl,.d (.refl _)⟩,⟨_,rfl,.d (.refl _)⟩,⟨_,rfl,.d (.refl _)⟩,⟨_,rfl,.d (.refl _)⟩,⟨_,rfl,.d (.refl _)⟩,trivial⟩ ⟨⟨ltd rfl,.inr ⟨by decide,_,rfl,.dat _ _⟩⟩,trivial⟩⟩
        ·refine qg<|qf ?_
         obtain rfl:=someE h371
         exact ⟨_,rfl,wkE [] [] [] rfl ⟨⟨_,rfl,.hs rfl (by decide) (ltd rfl)⟩,⟨_,rfl,.d (.refl _)⟩,⟨_,rfl,.d (.refl _)⟩,⟨_,rfl,.d (.refl _)⟩,⟨_,rfl,.d (.refl _)⟩,⟨_,rfl,.d (.refl _)⟩,⟨_,rfl,.d (.refl _)⟩,⟨_,rfl,.d (.refl _)⟩,trivial⟩ ⟨⟨ltd rfl,.inr ⟨by decide,_,rfl,.dat _ _⟩⟩,trivial⟩⟩
       ·intro b373 hb
        subst hb
        refine q8<|q8<|qk [(some [],[]),(some [],[]),(some [],[]),(some [0],[]),(some [],[]),(some [],[]),(some [],[]),(some [0],[]),(some [],[]),(some [],[]),(some [],[]),(some [],[]),(some [],[]),(some [],[]),(some [],[])] (by kernel_rfl)<|q0 rfl rfl<|q9 (.d (.bool (decide (a305.1 > 0)))) rfl rfl ?_
        obtain ⟨c385,h386,h304⟩:=bindE h304
        refine qt 13 (fun A st=>∃ (j387 j388 j389 j390 j391 j392 j393 j394 j395 j396 j397 j398 : V),st = A [(87,.d (.bool c385)),(86,j398),(85,j397),(84,j396),(83,j395),(82,j394),(81,j393),(80,j392),(79,j391),(78,j390),(77,j389),(76,j388),(75,j387)]) ?_ ?_
        ·refine qz rfl rfl h386 (fun h386=>?_) (fun h386=>?_)
         ·refine q0 rfl rfl<|q0 rfl rfl<|q9 (.d (.int .i64 (w64 (a305.1 - 1)))) rfl rfl ?_
          obtain ⟨v399,h400,h386⟩:=bindE h386
          refine qj h400 rfl rfl rfl rfl rfl rfl rfl<|qr (.d (.int .i64 v399)) h400 rfl rfl rfl rfl rfl rfl<|q0 rfl rfl<|q0 rfl rfl ?_
          obtain ⟨v401,h402,h386⟩:=bindE h386
          refine qj h402 rfl rfl rfl rfl rfl rfl rfl<|qr (.d (.int .i64 v401)) h402 rfl rfl rfl rfl rfl rfl ?_
          obtain ⟨r403,h404,h386⟩:=bindE h386
          refine q11 [.d (.int .i64 v399),.d (.int .i64 v401)] (q3b v399 v401 r403 h404) rfl rfl rfl (.inl rfl)<|q9 (.d (.bool (!r403))) rfl rfl<|q9 (.d (.bool (!r403))) rfl rfl<|q7 ?_
          obtain rfl:=someE h386
          exact ⟨_,_,_,_,_,_,_,_,_,_,_,_,rfl⟩
         ·refine qc rfl<|qc rfl<|qc rfl<|qc rfl<|qc rfl<|qc rfl<|qc rfl<|qc rfl<|qc rfl<|qc rfl<|qc rfl<|q9 (.d (.bool false)) rfl rfl<|q7 ?_
          obtain rfl:=someE h386
          exact ⟨_,_,_,_,_,_,_,_,_,_,_,_,rfl⟩
        ·rintro _ ⟨j387,j388,j389,j390,j391,j392,j393,j394,j395,j396,j397,j398,rfl⟩
         refine q7 ?_
         refine qd rfl h304 (fun _ h304=>?_) (fun _ h304=>?_)
         ·refine q8<|q6<|q0 rfl rfl<|q0 rfl rfl<|q0 rfl rfl<|q0 rfl rfl ?_
          obtain ⟨e410,h411,h304⟩:=bindE h304
          obtain ⟨u412,h413,h304⟩:=bindE h304
          have h414:=q1o h413
          refine q12 [(0,0)] [(0,0)] [.hs 0 1 0 b373.length,.d (.int .i64 a305.1),.d (.int .i64 a305.2.1),.d (.int .i64 b351.1)] (.d (.int .i64 e410.1)) [(0,.dat 1 (e410.2.map (eI .i64)))] [(0,.dat 1 (e410.2.map (eI .i64)))] 1 (q7k b373 a305.1 a305.2.1 b351.1 e410 h411) rfl rfl rfl (qx [(0,0)] [] [] rfl ⟨⟨_,rfl,.hs rfl (by decide) (ltd rfl)⟩,⟨_,rfl,.d (.refl _)⟩,⟨_,rfl,.d (.refl _)⟩,⟨_,rfl,.d (.refl _)⟩,trivial⟩ ⟨⟨ltd rfl,.inr ⟨by decide,_,rfl,.dat _ _⟩⟩,trivial⟩) (qx [(0,0)] [] [] rfl ⟨⟨_,rfl,.d (.refl _)⟩,trivial⟩ ⟨⟨ltd rfl,.inr ⟨by decide,_,rfl,.dat _ _⟩⟩,trivial⟩) rfl ⟨.inl rfl,trivial⟩<|qa rfl rfl<|q7<|q8<|q6<|q0 rfl rfl<|qa rfl rfl<|q7<|qp<|qhg<|qf ?_
          exact ⟨_,(Option.some.inj h304).symm,wkE [] [] [] rfl ⟨⟨_,rfl,q16 (by simp [h414]) rfl (by decide) (ltd rfl)⟩,⟨_,rfl,.d (.refl _)⟩,⟨_,rfl,.d (.refl _)⟩,⟨_,rfl,.d (.refl _)⟩,⟨_,rfl,.d (.refl _)⟩,⟨_,rfl,.d (.refl _)⟩,trivial⟩ ⟨⟨ltd rfl,.inr ⟨by decide,_,rfl,.dat _ _⟩⟩,trivial⟩⟩
         ·refine qg<|q8<|q6<|q0 rfl rfl<|q0 rfl rfl<|q0 rfl rfl<|q0 rfl rfl ?_
          obtain ⟨e415,h416,h304⟩:=bindE h304
          obtain ⟨u417,h418,h304⟩:=bindE h304
          have h419:=q1o h418
          refine q12 [(0,0)] [(0,0)] [.hs 0 1 0 b373.length,.d (.int .i64 a305.1),.d (.int .i64 a305.2.1),.d (.int .i64 b351.1)] (.d (.tup [.int .i64 e415.1,.bool e415.2.1])) [(0,.dat 1 (e415.2.2.map (eI .i64)))] [(0,.dat 1 (e415.2.2.map (eI .i64)))] 1 (q8j b373 a305.1 a305.2.1 b351.1 e415 h416) rfl rfl rfl (qx [(0,0)] [] [] rfl ⟨⟨_,rfl,.hs rfl (by decide) (ltd rfl)⟩,⟨_,rfl,.d (.refl _)⟩,⟨_,rfl,.d (.refl _)⟩,⟨_,rfl,.d (.refl _)⟩,trivial⟩ ⟨⟨ltd rfl,.inr ⟨by decide,_,rfl,.dat _ _⟩⟩,trivial⟩) (qx [(0,0)] [] [] rfl ⟨⟨_,rfl,.d (.refl _)⟩,trivial⟩ ⟨⟨ltd rfl,.inr ⟨by decide,_,rfl,.dat _ _⟩⟩,trivial⟩) rfl ⟨.inl rfl,trivial⟩<|q0 rfl rfl<|q9 (.d (.int .i64 e415.1)) rfl rfl<|q9 (.d (.bool e415.2.1)) rfl rfl<|qa rfl rfl<|qa rfl rfl<|q7<|q8<|q6<|q0 rfl rfl<|qa rfl rfl<|q7<|q8<|q6<|q0 rfl rfl<|q0 rfl rfl<|q9 (.d (.int .i64 (w64 (e415.1 - a305.1)))) rfl rfl<|q0 rfl rfl<|q0 rfl rfl<|q9 (.d (.int .i64 (w64 (a305.2.1 - e415.1)))) rfl rfl<|qa rfl rfl<|qa rfl rfl<|q7<|q8<|q6<|q0 rfl rfl<|q9 (.d (.int .i64 (w64 (Int.tdiv (w64 (a305.2.1 - a305.1)) 8)))) rfl rfl<|qa rfl rfl<|q7<|q8<|q6<|q0 rfl rfl<|q0 rfl rfl<|q9 (.d (.bool (decide ((w64 (e415.1 - a305.1)) < (w64 (a305.2.1 - e415.1)))))) rfl rfl<|q7 ?_
          refine qd rfl h304 (fun _ h304=>?_) (fun _ h304=>?_)
          ·refine q8<|q6<|q0 rfl rfl<|q0 rfl rfl<|q9 (.d (.bool (decide ((w64 (e415.1 - a305.1)) ≥ (w64 (Int.tdiv (w64 (a305.2.1 - a305.1)) 8)))))) rfl rfl<|qa rfl rfl<|q7<|q8<|q6<|q0 rfl rfl<|q0 rfl rfl<|q0 rfl rfl<|q0 rfl rfl ?_
           obtain ⟨e420,h421,h304⟩:=bindE h304
           obtain ⟨u422,h423,h304⟩:=bindE h304
           have h424:=q1o h423
           refine q12 [(0,0)] [(0,0)] [.hs 0 1 0 b373.length,.d (.int .i64 a305.1),.d (.int .i64 e415.1),.d (.int .i64 b336.1)] (.d (.tup [])) [(0,.dat 1 (e420.map (eI .i64)))] [(0,.dat 1 (e420.map (eI .i64)))] 1 (hrec e415.2.2 a305.1 e415.1 b336.1 e420 h421) rfl rfl rfl (qx [(0,0)] [] [] rfl ⟨⟨_,rfl,q16 (by simp [h419]) rfl (by decide) (ltd rfl)⟩,⟨_,rfl,.d (.refl _)⟩,⟨_,rfl,.d (.refl _)⟩,⟨_,rfl,.d (.refl _)⟩,trivial⟩ ⟨⟨ltd rfl,.inr ⟨by decide,_,rfl,.dat _ _⟩⟩,trivial⟩) (qx [(0,0)] [] [] rfl ⟨⟨_,rfl,.d (.refl _)⟩,trivial⟩ ⟨⟨ltd rfl,.inr ⟨by decide,_,rfl,.dat _ _⟩⟩,trivial⟩) rfl ⟨.inl rfl,trivial⟩<|q7<|q6<|q0 rfl rfl<|q9 (.d (.int .i64 (w64 (e415.1 + 1)))) rfl rfl<|qa rfl rfl<|q7<|qf<|qv<|qf ?_
           exact ⟨_,(Option.some.inj h304).symm,wkE [] [] [] rfl ⟨⟨_,rfl,q16 (by simp [h419,h424]) rfl (by decide) (ltd rfl)⟩,⟨_,rfl,.d (.refl _)⟩,⟨_,rfl,.d (.refl _)⟩,⟨_,rfl,.d (.refl _)⟩,⟨_,rfl,.d (.refl _)⟩,⟨_,rfl,.d (.refl _)⟩,trivial⟩ ⟨⟨ltd rfl,.inr ⟨by decide,_,rfl,.dat _ _⟩⟩,trivial⟩⟩
          ·refine q8<|q6<|q0 rfl rfl<|q0 rfl rfl<|q9 (.d (.bool (decide ((w64 (a305.2.1 - e415.1)) ≥ (w64 (Int.tdiv (w64 (a305.2.1 - a305.1)) 8)))))) rfl rfl<|qa rfl rfl<|q7<|q8<|q6<|q0 rfl rfl<|q0 rfl rfl<|q9 (.d (.int .i64 (w64 (e415.1 + 1)))) rfl rfl<|q0 rfl rfl<|q0 rfl rfl ?_
           obtain ⟨e425,h426,h304⟩:=bindE h304
           obtain ⟨u427,h428,h304⟩:=bindE h304
           have h429:=q1o h428
           refine q12 [(0,0)] [(0,0)] [.hs 0 1 0 b373.length,.d (.int .i64 (w64 (e415.1 + 1))),.d (.int .i64 a305.2.1),.d (.int .i64 b336.1)] (.d (.tup [])) [(0,.dat 1 (e425.map (eI .i64)))] [(0,.dat 1 (e425.map (eI .i64)))] 1 (hrec e415.2.2 (w64 (e415.1 + 1)) a305.2.1 b336.1 e425 h426) rfl rfl rfl (qx [(0,0)] [] [] rfl ⟨⟨_,rfl,q16 (by simp [h419]) rfl (by decide) (ltd rfl)⟩,⟨_,rfl,.d (.refl _)⟩,⟨_,rfl,.d (.refl _)⟩,⟨_,rfl,.d (.refl _)⟩,trivial⟩ ⟨⟨ltd rfl,.inr ⟨by decide,_,rfl,.dat _ _⟩⟩,trivial⟩) (qx [(0,0)] [] [] rfl ⟨⟨_,rfl,.d (.refl _)⟩,trivial⟩ ⟨⟨ltd rfl,.inr ⟨by decide,_,rfl,.dat _ _⟩⟩,trivial⟩) rfl ⟨.inl rfl,trivial⟩<|q7<|q6<|q0 rfl rfl<|qa rfl rfl<|q7<|qf<|qv<|qf ?_
           exact ⟨_,(Option.some.inj h304).symm,wkE [] [] [] rfl ⟨⟨_,rfl,q16 (by simp [h419,h429]) rfl (by decide) (ltd rfl)⟩,⟨_,rfl,.d (.refl _)⟩,⟨_,rfl,.d (.refl _)⟩,⟨_,rfl,.d (.refl _)⟩,⟨_,rfl,.d (.refl _)⟩,⟨_,rfl,.d (.refl _)⟩,trivial⟩ ⟨⟨ltd rfl,.inr ⟨by decide,_,rfl,.dat _ _⟩⟩,trivial⟩⟩
theorem q92 (n : Nat) : ∀ (p0 : List Int) (p1 : Int) (p2 : Int) (p3 : Int) (r : List Int),q3x n  p0 p1 p2 p3 = some r→EvCall Try.prog tab 92 [.hs 0 1 0 p0.length,.d (.int .i64 p1),.d (.int .i64 p2),.d (.int .i64 p3)] [(0,.dat 1 (p0.map (eI .i64)))] 1 (.d (.tup [])) [(0,.dat 1 (r.map (eI .i64)))] 1:=by
 induction n with
 | zero=>intro p0 p1 p2 p3 r h0;cases h0
 | succ n ih=>intro p0 p1 p2 p3 r h0;exact q8k (q3x n )   ih p0 p1 p2 p3 r h0
theorem qar (p0 : List Int) (r : List Int) (h0 : q3w  p0 = some r) : EvCall Try.prog tab 81 [.hs 0 1 0 p0.length] [(0,.dat 1 (p0.map (eI .i64)))] 1 (.d (.tup [])) [(0,.dat 1 (r.map (eI .i64)))] 1:=by
 unfold q3w at h0
 refine q18 Try.func81 rfl (by kernel_rfl) (by kernel_rfl) rfl<|q8<|q6<|q0 rfl rfl<|q9 (.d (.int .i64 (p0.length : Int))) rfl rfl<|qa rfl rfl<|q7<|q6<|q0 rfl rfl<|q0 rfl rfl<|q0 rfl rfl<|q9 (.d (.int .u64 (IntKind.wrap .u64 (p0.length : Int)))) rfl rfl ?_
 obtain ⟨r101,h102,h0⟩:=bindE h0
 refine q11 [.d (.int .u64 (IntKind.wrap .u64 (p0.length : Int)))] (q90 (IntKind.wrap .u64 (p0.length : Int)) r101 h102) rfl rfl rfl (.inl rfl) ?_
 obtain ⟨e103,h104,h0⟩:=bindE h0
 obtain ⟨u105,h106,h0⟩:=bindE h0
 have h107:=q1o h106
 obtain ⟨nh104,h104⟩:=qgj h104
 refine q12 [(0,0)] [(0,0)] [.hs 0 1 0 p0.length,.d (.int .i64 0),.d (.int .i64 (p0.length : Int)),.d (.int .i64 r101)] (.d (.tup [])) [(0,.dat 1 (e103.map (eI .i64)))] [(0,.dat 1 (e103.map (eI .i64)))] 1 (q92 nh104 p0 0 (p0.length : Int) r101 e103 h104) rfl rfl rfl (qx [(0,0)] [] [] rfl ⟨⟨_,rfl,.hs rfl (by decide) (ltd rfl)⟩,⟨_,rfl,.d (.refl _)⟩,⟨_,rfl,.d (.refl _)⟩,⟨_,rfl,.d (.refl _)⟩,trivial⟩ ⟨⟨ltd rfl,.inr ⟨by decide,_,rfl,.dat _ _⟩⟩,trivial⟩) (qx [(0,0)] [] [] rfl ⟨⟨_,rfl,.d (.refl _)⟩,trivial⟩ ⟨⟨ltd rfl,.inr ⟨by decide,_,rfl,.dat _ _⟩⟩,trivial⟩) rfl ⟨.inl rfl,trivial⟩<|q7<|qf ?_
 obtain rfl:=someE h0
 exact ⟨.inl rfl,_,rfl,wkE [] [] [] rfl ⟨⟨_,rfl,.d (.refl _)⟩,trivial⟩ ⟨⟨ltd rfl,.inr ⟨by decide,_,rfl,.dat _ _⟩⟩,trivial⟩⟩
theorem q9r (p0 : List Int) (r : (Nat × Nat) × List Int) (h0 : q44  p0 = some r) : EvCall Try.prog tab 82 [.hs 0 1 0 p0.length] [(0,.dat 1 (p0.map (eI .i64)))] 1 (.hs 0 1 r.1.1 r.1.2) [(0,.dat 1 (r.2.map (eI .i64)))] 1:=by
 unfold q44 at h0
 refine q18 Try.func82 rfl (by kernel_rfl) (by kernel_rfl) rfl<|q8<|q6<|qa rfl rfl<|q7<|q8<|q8<|q6<|q0 rfl rfl<|q9 (.d (.int .i64 (p0.length : Int))) rfl rfl<|q9 (.d (.bool (decide ((p0.length : Int) < 2)))) rfl rfl<|q7 ?_
 refine qd rfl h0 (fun _ h0=>?_) (fun _ h0=>?_)
 ·refine q8<|q6<|q0 rfl rfl<|qa rfl rfl<|q7<|qm ?_
  obtain rfl:=someE h0
  exact ⟨.inr rfl,_,rfl,wkE [] [] [] rfl ⟨⟨_,rfl,.hs rfl (by decide) (ltd rfl)⟩,trivial⟩ ⟨⟨ltd rfl,.inr ⟨by decide,_,rfl,.dat _ _⟩⟩,trivial⟩⟩
 ·refine qg<|q8<|q8<|q6<|qa rfl rfl<|q7 ?_
  obtain ⟨m248,h249,h0⟩:=bindE h0
  refine qn (fun b250=>.inl b250 = m248) (fun (b250 : Unit)=>⟨[(0,.hs 0 1 0 p0.length)],[(0,.dat 1 (p0.map (eI .i64)))],1⟩) (by simp) ?_ ?_
  ·refine qo (q14 p0) (fun (a247 : Int)=>⟨[(0,.hs 0 1 0 p0.length),(3,.d (.int .i64 a247))],[(0,.dat 1 (p0.map (eI .i64)))],1⟩) 1 m248 h249 (wkE [] [] [] rfl ⟨⟨_,rfl,.hs rfl (by decide) (ltd rfl)⟩,⟨_,rfl,.d (.refl _)⟩,trivial⟩ ⟨⟨ltd rfl,.inr ⟨by decide,_,rfl,.dat _ _⟩⟩,trivial⟩) ?_
   intro a247 y245 h246
   unfold q14 at h246
   refine q8<|q8<|q6<|q0 rfl rfl<|q0 rfl rfl<|q9 (.d (.int .i64 (p0.length : Int))) rfl rfl<|q9 (.d (.bool (decide (a247 < (p0.length : Int))))) rfl rfl<|q7 ?_
   refine qd rfl h246 (fun _ h246=>?_) (fun _ h246=>?_)
   ·refine qg<|q8<|ql<|q8<|qk [(some [],[]),(some [0],[]),(some [],[]),(some [],[]),(some [],[]),(some [],[]),(some [0],[]),(some [],[]),(some [],[]),(some [],[])] (by kernel_rfl)<|q0 rfl rfl<|q0 rfl rfl ?_
    obtain ⟨v287,h288,h246⟩:=bindE h246
    refine qj h288 rfl rfl rfl rfl rfl rfl rfl<|qr (.d (.int .i64 v287)) h288 rfl rfl rfl rfl rfl rfl<|q0 rfl rfl<|q0 rfl rfl<|q9 (.d (.int .i64 (w64 (a247 - 1)))) rfl rfl ?_
    obtain ⟨v289,h290,h246⟩:=bindE h246
    refine qj h290 rfl rfl rfl rfl rfl rfl rfl<|qr (.d (.int .i64 v289)) h290 rfl rfl rfl rfl rfl rfl<|q9 (.d (.bool (v287 == v289))) rfl rfl<|q7 ?_
    refine qd rfl h246 (fun _ h246=>?_) (fun _ h246=>?_)
    ·refine q8<|q6<|q0 rfl rfl<|q0 rfl rfl ?_
     obtain ⟨w291,h292,h246⟩:=bindE h246
     refine qed h292 rfl rfl rfl rfl rfl (qci rfl) (fun _=>rfl)<|qa rfl rfl<|q7<|q8<|q8<|q6<|qa rfl rfl<|q7 ?_
     obtain ⟨m319,h320,h246⟩:=bindE h246
     refine qn (fun b321=>b321 = m319) (fun (b321 : Int × List Int)=>⟨[(0,.hs 0 1 0 b321.2.length),(3,.d (.int .i64 b321.1))],[(0,.dat 1 (b321.2.map (eI .i64)))],1⟩) (by simp) ?_ ?_
     ·refine qo (q1v) (fun (a318 : Int × (Nat × Nat) × Int × List Int)=>⟨[(0,.hs 0 1 0 a318.2.2.2.length),(3,.d (.int .i64 a318.1)),(4,.hs 0 1 a318.2.1.1 a318.2.1.2),(5,.d (.int .i64 a318.2.2.1))],[(0,.dat 1 (a318.2.2.2.map (eI .i64)))],1⟩) (a247,w291,1,p0) m319 h320 (wkE [] [] [] rfl ⟨⟨_,rfl,.hs rfl (by decide) (ltd rfl)⟩,⟨_,rfl,.d (.refl _)⟩,⟨_,rfl,.hs rfl (by decide) (ltd rfl)⟩,⟨_,rfl,.d (.refl _)⟩,trivial⟩ ⟨⟨ltd rfl,.inr ⟨by decide,_,rfl,.dat _ _⟩⟩,trivial⟩) ?_
      intro a318 y316 h317
      unfold q1v at h317
      refine q8<|q8<|q6<|q0 rfl rfl<|q0 rfl rfl<|q9 (.d (.int .i64 (a318.2.1.2 : Int))) rfl rfl<|q9 (.d (.bool (decide (a318.2.2.1 < (a318.2.1.2 : Int))))) rfl rfl<|q7 ?_
      refine qd rfl h317 (fun _ h317=>?_) (fun _ h317=>?_)
      ·refine qg<|q8 ?_
       obtain ⟨m331,h330,h317⟩:=bindE h317
       refine qn (fun b332=>b332 = m331) (fun (b332 : Int × (Nat × Nat) × List Int)=>⟨[(0,.hs 0 1 0 b332.2.2.length),(3,.d (.int .i64 b332.1)),(4,.hs 0 1 b332.2.1.1 b332.2.1.2),(5,.d (.int .i64 a318.2.2.1))],[(0,.dat 1 (b332.2.2.map (eI .i64)))],1⟩) (by simp) ?_ ?_
       ·refine q8<|qk [(some [],[]),(some [0],[]),(some [],[]),(some [],[]),(some [],[]),(some [],[]),(some [0],[]),(some [],[]),(some [],[]),(some [],[])] (by kernel_rfl)<|q0 rfl rfl<|q0 rfl rfl ?_
        obtain ⟨v333,h334,h330⟩:=bindE h330
        refine qkx h334 rfl rfl rfl rfl rfl rfl<|qr (.d (.int .i64 v333)) (qgk h334) rfl rfl rfl rfl rfl rfl<|q0 rfl rfl<|q0 rfl rfl<|q9 (.d (.int .i64 (w64 (a318.2.2.1 - 1)))) rfl rfl ?_
        obtain ⟨v335,h336,h330⟩:=bindE h330
        refine qkx h336 rfl rfl rfl rfl rfl rfl<|qr (.d (.int .i64 v335)) (qgk h336) rfl rfl rfl rfl rfl rfl<|q9 (.d (.bool (v333 != v335))) rfl rfl<|q7 ?_
        refine qd rfl h330 (fun _ h330=>?_) (fun _ h330=>?_)
        ·refine q8<|q6<|q0 rfl rfl<|q0 rfl rfl<|q0 rfl rfl<|q0 rfl rfl ?_
         obtain ⟨v337,h338,h330⟩:=bindE h330
         refine qkx h338 rfl rfl rfl rfl rfl rfl<|qr (.d (.int .i64 v337)) (qgk h338) rfl rfl rfl rfl rfl rfl ?_
         obtain ⟨v339,h340,h330⟩:=bindE h330
         refine qj h340 rfl rfl rfl rfl rfl rfl rfl<|q19 (ds:=[.int .i64 v337]) v337 h340 rfl rfl rfl rfl rfl rfl rfl rfl (leb rfl) rfl<|q7<|q6<|q0 rfl rfl<|q9 (.d (.int .i64 (w64 (a318.1 + 1)))) rfl rfl<|qa rfl rfl<|q7<|qf ?_
         obtain rfl:=someE h330
         exact ⟨_,rfl,wkE [] [] [] rfl ⟨⟨_,rfl,q16 (by simp) rfl (by decide) (ltd rfl)⟩,⟨_,rfl,.d (.refl _)⟩,⟨_,rfl,.hs rfl (by decide) (ltd rfl)⟩,⟨_,rfl,.d (.refl _)⟩,trivial⟩ ⟨⟨ltd rfl,.inr ⟨by decide,_,rfl,.dat _ _⟩⟩,trivial⟩⟩
        ·refine qg<|qf ?_
         obtain rfl:=someE h330
         exact ⟨_,rfl,wkE [] [] [] rfl ⟨⟨_,rfl,.hs rfl (by decide) (ltd rfl)⟩,⟨_,rfl,.d (.refl _)⟩,⟨_,rfl,.hs rfl (by decide) (ltd rfl)⟩,⟨_,rfl,.d (.refl _)⟩,trivial⟩ ⟨⟨ltd rfl,.inr ⟨by decide,_,rfl,.dat _ _⟩⟩,trivial⟩⟩
       ·intro b332 hb
        subst hb
        refine q6<|q0 rfl rfl<|q9 (.d (.int .i64 (w64 (a318.2.2.1 + 1)))) rfl rfl<|qa rfl rfl<|q7<|qf ?_
        exact ⟨_,(Option.some.inj h317).symm,wkE [] [] [] rfl ⟨⟨_,rfl,.hs rfl (by decide) (ltd rfl)⟩,⟨_,rfl,.d (.refl _)⟩,⟨_,rfl,.hs rfl (by decide) (ltd rfl)⟩,⟨_,rfl,.d (.refl _)⟩,trivial⟩ ⟨⟨ltd rfl,.inr ⟨by decide,_,rfl,.dat _ _⟩⟩,trivial⟩⟩
      ·refine qp ?_
       refine ⟨_,(Option.some.inj h317).symm,fun hm=>?_⟩
       subst hm
       exact ⟨_,rfl,wkE [] [] [] rfl ⟨⟨_,rfl,.hs rfl (by decide) (ltd rfl)⟩,⟨_,rfl,.d (.refl _)⟩,trivial⟩ ⟨⟨ltd rfl,.inr ⟨by decide,_,rfl,.dat _ _⟩⟩,trivial⟩⟩
     ·intro b321 hb
      subst hb
      refine q8<|q6<|q0 rfl rfl<|q0 rfl rfl ?_
      obtain ⟨w341,h342,h246⟩:=bindE h246
      refine qed h342 rfl rfl rfl rfl rfl (qci rfl) (fun _=>rfl)<|qs2 (w:=w341) (xs:=b321.2) (enc:=(eI .i64)) 0 (qag h342) rfl rfl rfl rfl rfl rfl rfl ?_
      have h343:=@qkw _ b321.2 w341 0 (qag h342)
      refine q7<|q8<|q6<|q0 rfl rfl<|q0 rfl rfl ?_
      obtain ⟨w344,h345,h246⟩:=bindE h246
      refine qed h345 rfl rfl rfl rfl rfl (fun _=>rfl) (qci rfl)<|qa rfl rfl<|q7<|qm ?_
      refine ⟨_,(Option.some.inj h246).symm,fun hm=>?_⟩
      subst hm
      obtain rfl:=someE h0
      exact ⟨.inr rfl,_,rfl,wkE [] [] [] rfl ⟨⟨_,rfl,.hs rfl (by decide) (ltd rfl)⟩,trivial⟩ ⟨⟨ltd rfl,.inr ⟨by decide,_,rfl,.dat _ _⟩⟩,trivial⟩⟩
    ·refine qg<|qf<|qv<|q6<|q0 rfl rfl<|q9 (.d (.int .i64 (w64 (a247 + 1)))) rfl rfl<|qa rfl rfl<|q7<|qf ?_
     exact ⟨_,(Option.some.inj h246).symm,wkE [] [] [] rfl ⟨⟨_,rfl,.hs rfl (by decide) (ltd rfl)⟩,⟨_,rfl,.d (.refl _)⟩,trivial⟩ ⟨⟨ltd rfl,.inr ⟨by decide,_,rfl,.dat _ _⟩⟩,trivial⟩⟩
   ·refine qp ?_
    refine ⟨_,(Option.some.inj h246).symm,fun hm=>?_⟩
    subst hm
    exact ⟨_,rfl,wkE [] [] [] rfl ⟨⟨_,rfl,.hs rfl (by decide) (ltd rfl)⟩,trivial⟩ ⟨⟨ltd rfl,.inr ⟨by decide,_,rfl,.dat _ _⟩⟩,trivial⟩⟩
  ·intro b250 hb
   subst hb
   refine q8<|q6<|q0 rfl rfl<|qa rfl rfl<|q7<|qm ?_
   obtain rfl:=someE h0
   exact ⟨.inr rfl,_,rfl,wkE [] [] [] rfl ⟨⟨_,rfl,.hs rfl (by decide) (ltd rfl)⟩,trivial⟩ ⟨⟨ltd rfl,.inr ⟨by decide,_,rfl,.dat _ _⟩⟩,trivial⟩⟩
theorem q7v (p0 : List api_Span) (p1 : api_Span→Option Bool) (p1F : FuncId) (p1C : List DV) (p1Ok : ∀ (x0 : api_Span) (r : Bool),p1 x0 = some r→Pure Try.prog tab p1F ([.agg [.int .i64 x0.Lo,.int .i64 x0.Hi]] ++ p1C) (.bool r)) (r : Int) (h0 : q3r p0 p1 = some r) : Pure Try.prog tab 94 [.sl 2 (p0.map qh),.fn p1F p1C] (.int .i64 r):=by
 unfold q3r at h0
 refine qu Try.func94 rfl (by kernel_rfl) (by kernel_rfl) rfl<|q8<|q6<|qa rfl rfl<|q7<|q8<|q8<|q6<|q0 rfl rfl<|q1b rfl rfl rfl rfl<|q0 rfl rfl<|q7 ?_
 obtain ⟨m20,h21,h0⟩:=bindE h0
 refine qn (fun b22=>.inl b22 = m20) (fun (b22 : Unit)=>⟨[],[],0⟩) (by simp) ?_ ?_
 ·refine qo (q1d p0 p1) (fun (a19 : Int)=>⟨[(0,.d (.sl 2 (p0.map qh))),(1,.d (.fn p1F p1C)),(7,.d (.int .i64 (p0.length : Int))),(8,.d (.int .i64 a19))],[],0⟩) 0 m20 h21 (wkE [] [] [] rfl ⟨⟨_,rfl,.d (.refl _)⟩,⟨_,rfl,.d (.refl _)⟩,⟨_,rfl,.d (.refl _)⟩,⟨_,rfl,.d (.refl _)⟩,trivial⟩ trivial) ?_
  intro a19 y17 h18
  unfold q1d at h18
  refine q8<|q6<|q9 (.d (.bool (decide (a19 < (p0.length : Int))))) rfl rfl<|q7<|q8 ?_
  refine qd rfl h18 (fun _ h18=>?_) (fun _ h18=>?_)
  ·refine qg<|q8<|ql<|q8<|q6<|q0 rfl rfl<|qa rfl rfl<|q7<|q8<|q6<|q0 rfl rfl<|q0 rfl rfl<|q0 rfl rfl ?_
   obtain ⟨v27,h28,h18⟩:=bindE h18
   refine q10 (enc:=qh) h28 rfl rfl rfl rfl rfl rfl<|q9 (.d (.agg [.int .i64 v27.Lo,.int .i64 v27.Hi])) rfl rfl ?_
   obtain ⟨r29,h30,h18⟩:=bindE h18
   refine q6i [.d (.agg [.int .i64 v27.Lo,.int .i64 v27.Hi])] (p1Ok v27 r29 h30) rfl rfl rfl (.inl rfl)<|q7 ?_
   refine qd rfl h18 (fun _ h18=>?_) (fun _ h18=>?_)
   ·refine q8<|q6<|q0 rfl rfl<|qa rfl rfl<|q7<|qm ?_
    refine ⟨_,(Option.some.inj h18).symm,fun hm=>?_⟩
    subst hm
    obtain rfl:=someE h0
    exact finD (.inr rfl) (v:=.d (.int .i64 a19)) rfl rfl (.refl _)
   ·refine qg<|qf<|qv<|q6<|q9 (.d (.int .i64 (w64 (a19 + 1)))) rfl rfl<|q0 rfl rfl<|q7<|qf ?_
    exact ⟨_,(Option.some.inj h18).symm,wkE [] [] [] rfl ⟨⟨_,rfl,.d (.refl _)⟩,⟨_,rfl,.d (.refl _)⟩,⟨_,rfl,.d (.refl _)⟩,⟨_,rfl,.d (.refl _)⟩,trivial⟩ trivial⟩
  ·refine qp ?_
   refine ⟨_,(Option.some.inj h18).symm,fun hm=>?_⟩
   subst hm
   exact ⟨_,rfl,wkE [] [] [] rfl trivial trivial⟩
 ·intro b22 hb
  subst hb
  refine q8<|q6<|qa rfl rfl<|q7<|qm ?_
  obtain rfl:=someE h0
  exact finD (.inr rfl) (v:=.d (.int .i64 (-1))) rfl rfl (.refl _)
theorem q7d (p0 : List api_Span) (p1 : api_Span→Option Bool) (p1F : FuncId) (p1C : List DV) (p1Ok : ∀ (x0 : api_Span) (r : Bool),p1 x0 = some r→Pure Try.prog tab p1F ([.agg [.int .i64 x0.Lo,.int .i64 x0.Hi]] ++ p1C) (.bool r)) (r : Bool) (h0 : q3g p0 p1 = some r) : Pure Try.prog tab 84 [.sl 2 (p0.map qh),.fn p1F p1C] (.bool r):=by
 unfold q3g at h0
 refine qu Try.func84 rfl (by kernel_rfl) (by kernel_rfl) rfl<|q8<|q6<|qa rfl rfl<|q7<|q8<|q6<|q0 rfl rfl<|q0 rfl rfl ?_
 obtain ⟨r1,h2,h0⟩:=bindE h0
 refine q11 [.d (.sl 2 (p0.map qh)),.d (.fn p1F p1C)] (q7v p0 p1 p1F p1C p1Ok r1 h2) rfl rfl rfl (.inl rfl)<|q9 (.d (.bool (decide (r1 ≥ 0)))) rfl rfl<|qa rfl rfl<|q7<|qm ?_
 obtain rfl:=someE h0
 exact finD (.inr rfl) (v:=.d (.bool (decide (r1 ≥ 0)))) rfl rfl (.refl _)
theorem qjx (p0 : api_Span) (r : Bool) (h0 : span_valid p0 = some r) : Pure Try.prog tab 86 [.agg [.int .i64 p0.Lo,.int .i64 p0.Hi]] (.bool r):=by
 unfold span_valid at h0
 refine qu Try.func86 rfl (by kernel_rfl) (by kernel_rfl) rfl<|q8<|q6<|q3m (.ref 0 2 0 0) (.dat 2 [[.int .i64 p0.Lo,.int .i64 p0.Hi]]) rfl rfl<|qa rfl rfl<|q7<|q8<|q6<|q9 (.ref 0 2 0 0) rfl rfl<|q9 (.d (.int .i64 p0.Lo)) rfl rfl<|q9 (.ref 0 2 0 1) rfl rfl<|q9 (.d (.int .i64 p0.Hi)) rfl rfl<|q9 (.d (.bool (decide (p0.Lo < p0.Hi)))) rfl rfl ?_
 obtain ⟨c1,h2,h0⟩:=bindE h0
 refine qt 5 (fun A st=>∃ (j3 j4 j5 j6 : V),st = A [(12,.d (.bool c1)),(11,j6),(10,j5),(9,j4),(8,j3)]) ?_ ?_
 ·refine qz rfl rfl h2 (fun h2=>?_) (fun h2=>?_)
  ·refine q9 (.ref 0 2 0 0) rfl rfl<|q9 (.d (.int .i64 p0.Lo)) rfl rfl<|q9 (.d (.bool (decide (p0.Lo ≥ (-1000000))))) rfl rfl<|q9 (.d (.bool (decide (p0.Lo ≥ (-1000000))))) rfl rfl<|q7 ?_
   obtain rfl:=someE h2
   exact ⟨_,_,_,_,rfl⟩
  ·refine qc rfl<|qc rfl<|qc rfl<|q9 (.d (.bool false)) rfl rfl<|q7 ?_
   obtain rfl:=someE h2
   exact ⟨_,_,_,_,rfl⟩
 ·rintro _ ⟨j3,j4,j5,j6,rfl⟩
  obtain ⟨c7,h8,h0⟩:=bindE h0
  refine qt 5 (fun A st=>∃ (j9 j10 j11 j12 : V),st = A [(17,.d (.bool c7)),(16,j12),(15,j11),(14,j10),(13,j9)]) ?_ ?_
  ·refine qz rfl rfl h8 (fun h8=>?_) (fun h8=>?_)
   ·refine q9 (.ref 0 2 0 1) rfl rfl<|q9 (.d (.int .i64 p0.Hi)) rfl rfl<|q9 (.d (.bool (decide (p0.Hi≤1000000)))) rfl rfl<|q9 (.d (.bool (decide (p0.Hi≤1000000)))) rfl rfl<|q7 ?_
    obtain rfl:=someE h8
    exact ⟨_,_,_,_,rfl⟩
   ·refine qc rfl<|qc rfl<|qc rfl<|q9 (.d (.bool false)) rfl rfl<|q7 ?_
    obtain rfl:=someE h8
    exact ⟨_,_,_,_,rfl⟩
  ·rintro _ ⟨j9,j10,j11,j12,rfl⟩
   refine qa rfl rfl<|q7<|qm ?_
   obtain rfl:=someE h0
   exact finD (.inr rfl) (v:=.d (.bool c7)) rfl rfl (.refl _)
theorem qih (p0 : api_Span) (r : Bool) (h0 : qab p0 = some r) : Pure Try.prog tab 85 [.agg [.int .i64 p0.Lo,.int .i64 p0.Hi]] (.bool r):=by
 unfold qab at h0
 refine qu Try.func85 rfl (by kernel_rfl) (by kernel_rfl) rfl<|q8<|q6<|q3m (.ref 0 2 0 0) (.dat 2 [[.int .i64 p0.Lo,.int .i64 p0.Hi]]) rfl rfl<|qa rfl rfl<|q7<|q8<|q6<|q9 (.d (.agg [.int .i64 p0.Lo,.int .i64 p0.Hi])) rfl rfl ?_
 obtain ⟨r1,h2,h0⟩:=bindE h0
 refine q11 [.d (.agg [.int .i64 p0.Lo,.int .i64 p0.Hi])] (qjx p0 r1 h2) rfl rfl rfl (.inl rfl)<|q9 (.d (.bool (!r1))) rfl rfl<|qa rfl rfl<|q7<|qm ?_
 obtain rfl:=someE h0
 exact finD (.inr rfl) (v:=.d (.bool (!r1))) rfl rfl (.refl _)
theorem qii (p0 : span_end) (p1 : span_end) (r : Int) (h0 : q8l p0 p1 = some r) : Pure Try.prog tab 109 [.agg [.int .i64 p0.at_,.int .i64 p0.list_,.int .i64 p0.by_],.agg [.int .i64 p1.at_,.int .i64 p1.list_,.int .i64 p1.by_]] (.int .i64 r):=by
 unfold q8l at h0
 refine qu Try.func109 rfl (by kernel_rfl) (by kernel_rfl) rfl<|q8<|q6<|q3m (.ref 0 3 0 0) (.dat 3 [[.int .i64 p0.at_,.int .i64 p0.list_,.int .i64 p0.by_]]) rfl rfl<|q3m (.ref 1 3 0 0) (.dat 3 [[.int .i64 p1.at_,.int .i64 p1.list_,.int .i64 p1.by_]]) rfl rfl<|qa rfl rfl<|q7<|q8<|q6<|q9 (.ref 0 3 0 0) rfl rfl<|q9 (.d (.int .i64 p0.at_)) rfl rfl<|q9 (.ref 1 3 0 0) rfl rfl<|q9 (.d (.int .i64 p1.at_)) rfl rfl<|q9 (.d (.int .i64 (w64 (p0.at_ - p1.at_)))) rfl rfl<|qa rfl rfl<|q7<|qm ?_
 obtain rfl:=someE h0
 exact finD (.inr rfl) (v:=.d (.int .i64 (w64 (p0.at_ - p1.at_)))) rfl rfl (.refl _)
theorem q6v (q1 : span_end→span_end→Option Int) (q1F : FuncId) (q1C : List DV) (q1Ok : ∀ (x0 : span_end) (x1 : span_end) (r : Int),q1 x0 x1 = some r→Pure Try.prog tab q1F ([.agg [.int .i64 x0.at_,.int .i64 x0.list_,.int .i64 x0.by_],.agg [.int .i64 x1.at_,.int .i64 x1.list_,.int .i64 x1.by_]] ++ q1C) (.int .i64 r)) (p0 : List span_end) (p1 : Int) (p2 : Int) (r : List span_end) (h0 : q2s q1 p0 p1 p2 = some r) : EvCall Try.prog tab 120 [.hs 0 3 0 p0.length,.d (.int .i64 p1),.d (.int .i64 p2),.d (.fn q1F q1C)] [(0,.dat 3 (p0.map qe))] 1 (.d (.tup [])) [(0,.dat 3 (r.map qe))] 1:=by
 unfold q2s at h0
 refine q18 Try.func120 rfl (by kernel_rfl) (by kernel_rfl) rfl<|q8<|q6<|q0 rfl rfl<|q9 (.d (.int .i64 (w64 (p1 + 1)))) rfl rfl<|qa rfl rfl<|q7 ?_
 obtain ⟨m279,h280,h0⟩:=bindE h0
 refine ql<|qo (q2a p2 p1 q1) (fun (a278 : Int × List span_end)=>⟨[(0,.hs 0 3 0 a278.2.length),(1,.d (.int .i64 p1)),(2,.d (.int .i64 p2)),(3,.d (.fn q1F q1C)),(8,.d (.int .i64 a278.1))],[(0,.dat 3 (a278.2.map qe))],1⟩) (w64 (p1 + 1),p0) m279 h280 (wkE [] [] [] rfl ⟨⟨_,rfl,.hs rfl (by decide) (ltd rfl)⟩,⟨_,rfl,.d (.refl _)⟩,⟨_,rfl,.d (.refl _)⟩,⟨_,rfl,.d (.refl _)⟩,⟨_,rfl,.d (.refl _)⟩,trivial⟩ ⟨⟨ltd rfl,.inr ⟨by decide,_,rfl,.dat _ _⟩⟩,trivial⟩) ?_
 intro a278 y276 h277
 unfold q2a at h277
 refine q8<|q8<|q6<|q0 rfl rfl<|q0 rfl rfl<|q9 (.d (.bool (decide (a278.1 < p2)))) rfl rfl<|q7 ?_
 refine qd rfl h277 (fun _ h277=>?_) (fun _ h277=>?_)
 ·refine qg<|q8 ?_
  obtain ⟨m369,h368,h277⟩:=bindE h277
  refine qn (fun b370=>b370 = m369) (fun (b370 : List span_end)=>⟨[(0,.hs 0 3 0 b370.length),(1,.d (.int .i64 p1)),(2,.d (.int .i64 p2)),(3,.d (.fn q1F q1C)),(8,.d (.int .i64 a278.1))],[(0,.dat 3 (b370.map qe))],1⟩) (by simp) ?_ ?_
  ·refine q8<|q6<|q0 rfl rfl<|qa rfl rfl<|q7 ?_
   obtain ⟨m460,h461,h368⟩:=bindE h368
   refine ql<|qo (q29 p1 q1) (fun (a459 : Int × List span_end)=>⟨[(0,.hs 0 3 0 a459.2.length),(1,.d (.int .i64 p1)),(2,.d (.int .i64 p2)),(3,.d (.fn q1F q1C)),(8,.d (.int .i64 a278.1)),(9,.d (.int .i64 a459.1))],[(0,.dat 3 (a459.2.map qe))],1⟩) (a278.1,a278.2) m460 h461 (wkE [] [] [] rfl ⟨⟨_,rfl,.hs rfl (by decide) (ltd rfl)⟩,⟨_,rfl,.d (.refl _)⟩,⟨_,rfl,.d (.refl _)⟩,⟨_,rfl,.d (.refl _)⟩,⟨_,rfl,.d (.refl _)⟩,⟨_,rfl,.d (.refl _)⟩,trivial⟩ ⟨⟨ltd rfl,.inr ⟨by decide,_,rfl,.dat _ _⟩⟩,trivial⟩) ?_
   intro a459 y457 h458
   unfold q29 at h458
   refine q8<|q8<|qk [(some [],[]),(some [],[]),(some [],[]),(some [0],[]),(some [],[]),(some [],[]),(some [],[]),(some [],[]),(some [0],[]),(some [],[]),(some [],[]),(some [],[]),(some [],[]),(some [],[]),(some [],[]),(some [],[]),(some [],[])] (by kernel_rfl)<|q0 rfl rfl<|q0 rfl rfl<|q9 (.d (.bool (decide (a459.1 > p1)))) rfl rfl ?_
   obtain ⟨c469,h470,h458⟩:=bindE h458
   refine qt 14 (fun A st=>∃ (j471 j472 j473 j474 j475 j476 j477 j478 j479 j480 j481 j482 j483 : V),st = A [(34,.d (.bool c469)),(33,j483),(32,j482),(31,j481),(30,j480),(29,j479),(28,j478),(27,j477),(26,j476),(25,j475),(24,j474),(23,j473),(22,j472),(21,j471)]) ?_ ?_
   ·refine qz rfl rfl h470 (fun h470=>?_) (fun h470=>?_)
    ·refine q0 rfl rfl<|q0 rfl rfl<|q0 rfl rfl ?_
     obtain ⟨v484,h485,h470⟩:=bindE h470
     refine qj h485 rfl rfl rfl rfl rfl rfl rfl<|qr (.d (.agg [.int .i64 v484.at_,.int .i64 v484.list_,.int .i64 v484.by_])) h485 rfl rfl rfl rfl rfl rfl<|q0 rfl rfl<|q0 rfl rfl<|q9 (.d (.int .i64 (w64 (a459.1 - 1)))) rfl rfl ?_
     obtain ⟨v486,h487,h470⟩:=bindE h470
     refine qj h487 rfl rfl rfl rfl rfl rfl rfl<|qr (.d (.agg [.int .i64 v486.at_,.int .i64 v486.list_,.int .i64 v486.by_])) h487 rfl rfl rfl rfl rfl rfl ?_
     obtain ⟨r488,h489,h470⟩:=bindE h470
     refine q6i [.d (.agg [.int .i64 v484.at_,.int .i64 v484.list_,.int .i64 v484.by_]),.d (.agg [.int .i64 v486.at_,.int .i64 v486.list_,.int .i64 v486.by_])] (q1Ok v484 v486 r488 h489) rfl rfl rfl (.inl rfl)<|q9 (.d (.bool (decide (r488 < 0)))) rfl rfl<|q9 (.d (.bool (decide (r488 < 0)))) rfl rfl<|q7 ?_
     obtain rfl:=someE h470
     exact ⟨_,_,_,_,_,_,_,_,_,_,_,_,_,rfl⟩
    ·refine qc rfl<|qc rfl<|qc rfl<|qc rfl<|qc rfl<|qc rfl<|qc rfl<|qc rfl<|qc rfl<|qc rfl<|qc rfl<|qc rfl<|q9 (.d (.bool false)) rfl rfl<|q7 ?_
     obtain rfl:=someE h470
     exact ⟨_,_,_,_,_,_,_,_,_,_,_,_,_,rfl⟩
   ·rintro _ ⟨j471,j472,j473,j474,j475,j476,j477,j478,j479,j480,j481,j482,j483,rfl⟩
    refine q7 ?_
    refine qd rfl h458 (fun _ h458=>?_) (fun _ h458=>?_)
    ·refine qg<|q8<|ql<|qk [(some [0],[0]),(some [],[]),(some [0],[0]),(some [],[]),(some [0],[]),(some [],[]),(some [],[]),(some [],[]),(some [0],[]),(some [],[]),(some [],[]),(some [],[]),(some [],[]),(some [],[]),(some [],[]),(some [],[]),(some [],[]),(some [],[])] (by kernel_rfl)<|q0 rfl rfl<|q0 rfl rfl<|q0 rfl rfl<|q0 rfl rfl<|q9 (.d (.int .i64 (w64 (a459.1 - 1)))) rfl rfl<|q0 rfl rfl<|q0 rfl rfl<|q9 (.d (.int .i64 (w64 (a459.1 - 1)))) rfl rfl ?_
     obtain ⟨v498,h499,h458⟩:=bindE h458
     refine qj h499 rfl rfl rfl rfl rfl rfl rfl<|qr (.d (.agg [.int .i64 v498.at_,.int .i64 v498.list_,.int .i64 v498.by_])) h499 rfl rfl rfl rfl rfl rfl<|q0 rfl rfl<|q0 rfl rfl ?_
     obtain ⟨v500,h501,h458⟩:=bindE h458
     refine qj h501 rfl rfl rfl rfl rfl rfl rfl<|qr (.d (.agg [.int .i64 v500.at_,.int .i64 v500.list_,.int .i64 v500.by_])) h501 rfl rfl rfl rfl rfl rfl ?_
     obtain ⟨v502,h503,h458⟩:=bindE h458
     refine qj h503 rfl rfl rfl rfl rfl rfl rfl<|q19 (ds:=[.int .i64 v498.at_,.int .i64 v498.list_,.int .i64 v498.by_]) v498 h503 rfl rfl rfl rfl rfl rfl rfl rfl (leb rfl) rfl ?_
     obtain ⟨v504,h505,h458⟩:=bindE h458
     refine qj h505 (by simp) rfl rfl rfl rfl rfl rfl<|q19 (ds:=[.int .i64 v500.at_,.int .i64 v500.list_,.int .i64 v500.by_]) v500 h505 rfl rfl rfl rfl rfl rfl rfl rfl (leb rfl) rfl<|q7<|qf<|qv<|q6<|q0 rfl rfl<|q9 (.d (.int .i64 (w64 (a459.1 - 1)))) rfl rfl<|qa rfl rfl<|q7<|qf ?_
     exact ⟨_,(Option.some.inj h458).symm,wkE [] [] [] rfl ⟨⟨_,rfl,q16 (by simp) rfl (by decide) (ltd rfl)⟩,⟨_,rfl,.d (.refl _)⟩,⟨_,rfl,.d (.refl _)⟩,⟨_,rfl,.d (.refl _)⟩,⟨_,rfl,.d (.refl _)⟩,⟨_,rfl,.d (.refl _)⟩,trivial⟩ ⟨⟨ltd rfl,.inr ⟨by decide,_,rfl,.dat _ _⟩⟩,trivial⟩⟩
    ·refine qp ?_
     refine ⟨_,(Option.some.inj h458).symm,fun hm=>?_⟩
     subst hm
     obtain rfl:=someE h368
     exact ⟨_,rfl,wkE [] [] [] rfl ⟨⟨_,rfl,.hs rfl (by decide) (ltd rfl)⟩,⟨_,rfl,.d (.refl _)⟩,⟨_,rfl,.d (.refl _)⟩,⟨_,rfl,.d (.refl _)⟩,⟨_,rfl,.d (.refl _)⟩,trivial⟩ ⟨⟨ltd rfl,.inr ⟨by decide,_,rfl,.dat _ _⟩⟩,trivial⟩⟩
  ·intro b370 hb
   subst hb
   refine q6<|q0 rfl rfl<|q9 (.d (.int .i64 (w64 (a278.1 + 1)))) rfl rfl<|qa rfl rfl<|q7<|qf ?_
   exact ⟨_,(Option.some.inj h277).symm,wkE [] [] [] rfl ⟨⟨_,rfl,.hs rfl (by decide) (ltd rfl)⟩,⟨_,rfl,.d (.refl _)⟩,⟨_,rfl,.d (.refl _)⟩,⟨_,rfl,.d (.refl _)⟩,⟨_,rfl,.d (.refl _)⟩,trivial⟩ ⟨⟨ltd rfl,.inr ⟨by decide,_,rfl,.dat _ _⟩⟩,trivial⟩⟩
 ·refine qp ?_
  refine ⟨_,(Option.some.inj h277).symm,fun hm=>?_⟩
  subst hm
  obtain rfl:=someE h0
  exact ⟨.inl rfl,_,rfl,wkE [] [] [] rfl ⟨⟨_,rfl,.d (.refl _)⟩,trivial⟩ ⟨⟨ltd rfl,.inr ⟨by decide,_,rfl,.dat _ _⟩⟩,trivial⟩⟩
theorem q5m (q1 : span_end→span_end→Option Int) (q1F : FuncId) (q1C : List DV) (q1Ok : ∀ (x0 : span_end) (x1 : span_end) (r : Int),q1 x0 x1 = some r→Pure Try.prog tab q1F ([.agg [.int .i64 x0.at_,.int .i64 x0.list_,.int .i64 x0.by_],.agg [.int .i64 x1.at_,.int .i64 x1.list_,.int .i64 x1.by_]] ++ q1C) (.int .i64 r)) (p0 : List span_end) (p1 : Int) (p2 : Int) (p3 : Int) (r : List span_end) (h0 : q2p q1 p0 p1 p2 p3 = some r) : EvCall Try.prog tab 128 [.hs 0 3 0 p0.length,.d (.int .i64 p1),.d (.int .i64 p2),.d (.int .i64 p3),.d (.fn q1F q1C)] [(0,.dat 3 (p0.map qe))] 1 (.d (.tup [])) [(0,.dat 3 (r.map qe))] 1:=by
 unfold q2p at h0
 refine q18 Try.func128 rfl (by kernel_rfl) (by kernel_rfl) rfl<|q8<|q6<|q0 rfl rfl<|qa rfl rfl<|q7 ?_
 obtain ⟨m198,h199,h0⟩:=bindE h0
 refine ql<|qo (q3h p2 p3 q1) (fun (a197 : Int × List span_end)=>⟨[(0,.hs 0 3 0 a197.2.length),(2,.d (.int .i64 p2)),(3,.d (.int .i64 p3)),(4,.d (.fn q1F q1C)),(10,.d (.int .i64 a197.1))],[(0,.dat 3 (a197.2.map qe))],1⟩) (p1,p0) m198 h199 (wkE [] [] [] rfl ⟨⟨_,rfl,.hs rfl (by decide) (ltd rfl)⟩,⟨_,rfl,.d (.refl _)⟩,⟨_,rfl,.d (.refl _)⟩,⟨_,rfl,.d (.refl _)⟩,⟨_,rfl,.d (.refl _)⟩,trivial⟩ ⟨⟨ltd rfl,.inr ⟨by decide,_,rfl,.dat _ _⟩⟩,trivial⟩) ?_
 intro a197 y195 h196
 unfold q3h at h196
 refine ql<|q8<|q6<|q0 rfl rfl<|q9 (.d (.int .i64 (w64 (2 * a197.1)))) rfl rfl<|q9 (.d (.int .i64 (w64 ((w64 (2 * a197.1)) + 1)))) rfl rfl<|qa rfl rfl<|q7<|q8<|q8<|q6<|q0 rfl rfl<|q0 rfl rfl<|q9 (.d (.bool (decide ((w64 ((w64 (2 * a197.1)) + 1)) ≥ p2)))) rfl rfl<|q7 ?_
 refine qd rfl h196 (fun _ h196=>?_) (fun _ h196=>?_)
 ·refine qp ?_
  refine ⟨_,(Option.some.inj h196).symm,fun hm=>?_⟩
  subst hm
  obtain rfl:=someE h0
  exact ⟨.inl rfl,_,rfl,wkE [] [] [] rfl ⟨⟨_,rfl,.d (.refl _)⟩,trivial⟩ ⟨⟨ltd rfl,.inr ⟨by decide,_,rfl,.dat _ _⟩⟩,trivial⟩⟩
 ·refine qg<|q8<|q8<|qk [(some [],[]),(some [],[]),(some [],[]),(some [0],[]),(some [],[]),(some [],[]),(some [],[]),(some [],[]),(some [],[]),(some [],[]),(some [0],[]),(some [],[]),(some [],[]),(some [],[]),(some [],[]),(some [],[]),(some [],[]),(some [],[]),(some [],[]),(some [],[]),(some [],[]),(some [],[])] (by kernel_rfl)<|q0 rfl rfl<|q9 (.d (.int .i64 (w64 ((w64 ((w64 (2 * a197.1)) + 1)) + 1)))) rfl rfl<|q0 rfl rfl<|q9 (.d (.bool (decide ((w64 ((w64 ((w64 (2 * a197.1)) + 1)) + 1)) < p2)))) rfl rfl ?_
  obtain ⟨c207,h208,h196⟩:=bindE h196
  refine qt 18 (fun A st=>∃ (j209 j210 j211 j212 j213 j214 j215 j216 j217 j218 j219 j220 j221 j222 j223 j224 j225 : V),st = A [(40,.d (.bool c207)),(39,j225),(38,j224),(37,j223),(36,j222),(35,j221),(34,j220),(33,j219),(32,j218),(31,j217),(30,j216),(29,j215),(28,j214),(27,j213),(26,j212),(25,j211),(24,j210),(23,j209)]) ?_ ?_
  ·refine qz rfl rfl h208 (fun h208=>?_) (fun h208=>?_)
   ·refine q0 rfl rfl<|q0 rfl rfl<|q0 rfl rfl<|q0 rfl rfl<|q9 (.d (.int .i64 (w64 (p3 + (w64 ((w64 (2 * a197.1)) + 1)))))) rfl rfl ?_
    obtain ⟨v226,h227,h208⟩:=bindE h208
    refine qj h227 rfl rfl rfl rfl rfl rfl rfl<|qr (.d (.agg [.int .i64 v226.at_,.int .i64 v226.list_,.int .i64 v226.by_])) h227 rfl rfl rfl rfl rfl rfl<|q0 rfl rfl<|q0 rfl rfl<|q0 rfl rfl<|q9 (.d (.int .i64 (w64 (p3 + (w64 ((w64 (2 * a197.1)) + 1)))))) rfl rfl<|q9 (.d (.int .i64 (w64 ((w64 (p3 + (w64 ((w64 (2 * a197.1)) + 1)))) + 1)))) rfl rfl ?_
    obtain ⟨v228,h229,h208⟩:=bindE h208
    refine qj h229 rfl rfl rfl rfl rfl rfl rfl<|qr (.d (.agg [.int .i64 v228.at_,.int .i64 v228.list_,.int .i64 v228.by_])) h229 rfl rfl rfl rfl rfl rfl ?_
    obtain ⟨r230,h231,h208⟩:=bindE h208
    refine q6i [.d (.agg [.int .i64 v226.at_,.int .i64 v226.list_,.int .i64 v226.by_]),.d (.agg [.int .i64 v228.at_,.int .i64 v228.list_,.int .i64 v228.by_])] (q1Ok v226 v228 r230 h231) rfl rfl rfl (.inl rfl)<|q9 (.d (.bool (decide (r230 < 0)))) rfl rfl<|q9 (.d (.bool (decide (r230 < 0)))) rfl rfl<|q7 ?_
    obtain rfl:=someE h208
    exact ⟨_,_,_,_,_,_,_,_,_,_,_,_,_,_,_,_,_,rfl⟩
   ·refine qc rfl<|qc rfl<|qc rfl<|qc rfl<|qc rfl<|qc rfl<|qc rfl<|qc rfl<|qc rfl<|qc rfl<|qc rfl<|qc rfl<|qc rfl<|qc rfl<|qc rfl<|qc rfl<|q9 (.d (.bool false)) rfl rfl<|q7 ?_
    obtain rfl:=someE h208
    exact ⟨_,_,_,_,_,_,_,_,_,_,_,_,_,_,_,_,_,rfl⟩
  ·rintro _ ⟨j209,j210,j211,j212,j213,j214,j215,j216,j217,j218,j219,j220,j221,j222,j223,j224,j225,rfl⟩
   refine q7 ?_
   obtain ⟨m233,h232,h196⟩:=bindE h196
   refine q5c (fun b234=>b234 = m233) (fun (b234 : Int)=>⟨[(0,.hs 0 3 0 a197.2.length),(2,.d (.int .i64 p2)),(3,.d (.int .i64 p3)),(4,.d (.fn q1F q1C)),(10,.d (.int .i64 a197.1)),(11,.d (.int .i64 b234))],[(0,.dat 3 (a197.2.map qe))],1⟩) (by simp) ?_ ?_
   ·refine qd rfl h232 (fun _ h232=>?_) (fun _ h232=>?_)
    ·refine q6<|q0 rfl rfl<|q9 (.d (.int .i64 (w64 ((w64 ((w64 (2 * a197.1)) + 1)) + 1)))) rfl rfl<|qa rfl rfl<|q7<|qf ?_
     obtain rfl:=someE h232
     exact ⟨_,rfl,wkE [] [] [] rfl ⟨⟨_,rfl,.hs rfl (by decide) (ltd rfl)⟩,⟨_,rfl,.d (.refl _)⟩,⟨_,rfl,.d (.refl _)⟩,⟨_,rfl,.d (.refl _)⟩,⟨_,rfl,.d (.refl _)⟩,⟨_,rfl,.d (.refl _)⟩,trivial⟩ ⟨⟨ltd rfl,.inr ⟨by decide,_,rfl,.dat _ _⟩⟩,trivial⟩⟩
    ·refine qg<|qf ?_
     obtain rfl:=someE h232
     exact ⟨_,rfl,wkE [] [] [] rfl ⟨⟨_,rfl,.hs rfl (by decide) (ltd rfl)⟩,⟨_,rfl,.d (.refl _)⟩,⟨_,rfl,.d (.refl _)⟩,⟨_,rfl,.d (.refl _)⟩,⟨_,rfl,.d (.refl _)⟩,⟨_,rfl,.d (.refl _)⟩,trivial⟩ ⟨⟨ltd rfl,.inr ⟨by decide,_,rfl,.dat _ _⟩⟩,trivial⟩⟩
   ·intro b234 hb
    subst hb
    refine q8<|q8<|qk [(some [],[]),(some [],[]),(some [],[]),(some [0],[]),(some [],[]),(some [],[]),(some [],[]),(some [],[]),(some [],[]),(some [0],[]),(some [],[]),(some [],[]),(some [],[]),(some [],[]),(some [],[]),(some [],[])] (by kernel_rfl)<|q0 rfl rfl<|q0 rfl rfl<|q0 rfl rfl<|q0 rfl rfl<|q9 (.d (.int .i64 (w64 (p3 + a197.1)))) rfl rfl ?_
    obtain ⟨v235,h236,h196⟩:=bindE h196
    refine qj h236 rfl rfl rfl rfl rfl rfl rfl<|qr (.d (.agg [.int .i64 v235.at_,.int .i64 v235.list_,.int .i64 v235.by_])) h236 rfl rfl rfl rfl rfl rfl<|q0 rfl rfl<|q0 rfl rfl<|q0 rfl rfl<|q9 (.d (.int .i64 (w64 (p3 + b234)))) rfl rfl ?_
    obtain ⟨v237,h238,h196⟩:=bindE h196
    refine qj h238 rfl rfl rfl rfl rfl rfl rfl<|qr (.d (.agg [.int .i64 v237.at_,.int .i64 v237.list_,.int .i64 v237.by_])) h238 rfl rfl rfl rfl rfl rfl ?_
    obtain ⟨r239,h240,h196⟩:=bindE h196
    refine q6i [.d (.agg [.int .i64 v235.at_,.int .i64 v235.list_,.int .i64 v235.by_]),.d (.agg [.int .i64 v237.at_,.int .i64 v237.list_,.int .i64 v237.by_])] (q1Ok v235 v237 r239 h240) rfl rfl rfl (.inl rfl)<|q9 (.d (.bool (decide (r239 < 0)))) rfl rfl<|q9 (.d (.bool (!(decide (r239 < 0))))) rfl rfl<|q7 ?_
    refine qd rfl h196 (fun _ h196=>?_) (fun _ h196=>?_)
    ·refine qm ?_
     refine ⟨_,(Option.some.inj h196).symm,fun hm=>?_⟩
     subst hm
     obtain rfl:=someE h0
     exact ⟨.inr rfl,_,rfl,wkE [] [] [] rfl ⟨⟨_,rfl,.d (.refl _)⟩,trivial⟩ ⟨⟨ltd rfl,.inr ⟨by decide,_,rfl,.dat _ _⟩⟩,trivial⟩⟩
    ·refine qg<|q8<|qk [(some [0],[0]),(some [],[]),(some [0],[0]),(some [],[]),(some [0],[]),(some [],[]),(some [],[]),(some [],[]),(some [],[]),(some [],[]),(some [0],[]),(some [],[]),(some [],[]),(some [],[]),(some [],[]),(some [],[]),(some [],[]),(some [],[]),(some [],[]),(some [],[]),(some [],[]),(some [],[]),(some [],[]),(some [],[])] (by kernel_rfl)<|q0 rfl rfl<|q0 rfl rfl<|q0 rfl rfl<|q9 (.d (.int .i64 (w64 (p3 + a197.1)))) rfl rfl<|q0 rfl rfl<|q0 rfl rfl<|q0 rfl rfl<|q9 (.d (.int .i64 (w64 (p3 + b234)))) rfl rfl<|q0 rfl rfl<|q0 rfl rfl<|q0 rfl rfl<|q9 (.d (.int .i64 (w64 (p3 + b234)))) rfl rfl ?_
     obtain ⟨v241,h242,h196⟩:=bindE h196
     refine qj h242 rfl rfl rfl rfl rfl rfl rfl<|qr (.d (.agg [.int .i64 v241.at_,.int .i64 v241.list_,.int .i64 v241.by_])) h242 rfl rfl rfl rfl rfl rfl<|q0 rfl rfl<|q0 rfl rfl<|q0 rfl rfl<|q9 (.d (.int .i64 (w64 (p3 + a197.1)))) rfl rfl ?_
     obtain ⟨v243,h244,h196⟩:=bindE h196
     refine qj h244 rfl rfl rfl rfl rfl rfl rfl<|qr (.d (.agg [.int .i64 v243.at_,.int .i64 v243.list_,.int .i64 v243.by_])) h244 rfl rfl rfl rfl rfl rfl ?_
     obtain ⟨v245,h246,h196⟩:=bindE h196
     refine qj h246 rfl rfl rfl rfl rfl rfl rfl<|q19 (ds:=[.int .i64 v241.at_,.int .i64 v241.list_,.int .i64 v241.by_]) v241 h246 rfl rfl rfl rfl rfl rfl rfl rfl (leb rfl) rfl ?_
     obtain ⟨v247,h248,h196⟩:=bindE h196
     refine qj h248 (by simp) rfl rfl rfl rfl rfl rfl<|q19 (ds:=[.int .i64 v243.at_,.int .i64 v243.list_,.int .i64 v243.by_]) v243 h248 rfl rfl rfl rfl rfl rfl rfl rfl (leb rfl) rfl<|q7<|q6<|q0 rfl rfl<|qa rfl rfl<|q7<|qf<|qv<|qf ?_
     exact ⟨_,(Option.some.inj h196).symm,wkE [] [] [] rfl ⟨⟨_,rfl,q16 (by simp) rfl (by decide) (ltd rfl)⟩,⟨_,rfl,.d (.refl _)⟩,⟨_,rfl,.d (.refl _)⟩,⟨_,rfl,.d (.refl _)⟩,⟨_,rfl,.d (.refl _)⟩,trivial⟩ ⟨⟨ltd rfl,.inr ⟨by decide,_,rfl,.dat _ _⟩⟩,trivial⟩⟩
theorem q7p (q1 : span_end→span_end→Option Int) (q1F : FuncId) (q1C : List DV) (q1Ok : ∀ (x0 : span_end) (x1 : span_end) (r : Int),q1 x0 x1 = some r→Pure Try.prog tab q1F ([.agg [.int .i64 x0.at_,.int .i64 x0.list_,.int .i64 x0.by_],.agg [.int .i64 x1.at_,.int .i64 x1.list_,.int .i64 x1.by_]] ++ q1C) (.int .i64 r)) (p0 : List span_end) (p1 : Int) (p2 : Int) (r : List span_end) (h0 : q3s q1 p0 p1 p2 = some r) : EvCall Try.prog tab 121 [.hs 0 3 0 p0.length,.d (.int .i64 p1),.d (.int .i64 p2),.d (.fn q1F q1C)] [(0,.dat 3 (p0.map qe))] 1 (.d (.tup [])) [(0,.dat 3 (r.map qe))] 1:=by
 unfold q3s at h0
 refine q18 Try.func121 rfl (by kernel_rfl) (by kernel_rfl) rfl<|q8<|q6<|q0 rfl rfl<|qa rfl rfl<|q7<|q8<|q6<|qa rfl rfl<|q7<|q8<|q6<|q0 rfl rfl<|q0 rfl rfl<|q9 (.d (.int .i64 (w64 (p2 - p1)))) rfl rfl<|qa rfl rfl<|q7<|q8<|q8<|q6<|q0 rfl rfl<|q9 (.d (.int .i64 (w64 ((w64 (p2 - p1)) - 1)))) rfl rfl<|q9 (.d (.int .i64 (w64 (Int.tdiv (w64 ((w64 (p2 - p1)) - 1)) 2)))) rfl rfl<|qa rfl rfl<|q7 ?_
 obtain ⟨m124,h125,h0⟩:=bindE h0
 refine qn (fun b126=>b126 = m124) (fun (b126 : List span_end)=>⟨[(0,.hs 0 3 0 b126.length),(3,.d (.fn q1F q1C)),(8,.d (.int .i64 p1)),(9,.d (.int .i64 0)),(10,.d (.int .i64 (w64 (p2 - p1))))],[(0,.dat 3 (b126.map qe))],1⟩) (by simp) ?_ ?_
 ·refine qo (q3i q1 p2 p1) (fun (a123 : Int × List span_end)=>⟨[(0,.hs 0 3 0 a123.2.length),(3,.d (.fn q1F q1C)),(8,.d (.int .i64 p1)),(9,.d (.int .i64 0)),(10,.d (.int .i64 (w64 (p2 - p1)))),(11,.d (.int .i64 a123.1))],[(0,.dat 3 (a123.2.map qe))],1⟩) (w64 (Int.tdiv (w64 ((w64 (p2 - p1)) - 1)) 2),p0) m124 h125 (wkE [] [] [] rfl ⟨⟨_,rfl,.hs rfl (by decide) (ltd rfl)⟩,⟨_,rfl,.d (.refl _)⟩,⟨_,rfl,.d (.refl _)⟩,⟨_,rfl,.d (.refl _)⟩,⟨_,rfl,.d (.refl _)⟩,⟨_,rfl,.d (.refl _)⟩,trivial⟩ ⟨⟨ltd rfl,.inr ⟨by decide,_,rfl,.dat _ _⟩⟩,trivial⟩) ?_
  intro a123 y121 h122
  unfold q3i at h122
  refine q8<|q8<|q6<|q0 rfl rfl<|q9 (.d (.bool (decide (a123.1 ≥ 0)))) rfl rfl<|q7 ?_
  refine qd rfl h122 (fun _ h122=>?_) (fun _ h122=>?_)
  ·refine qg<|q8<|ql<|q6<|q0 rfl rfl<|q0 rfl rfl<|q0 rfl rfl<|q0 rfl rfl<|q0 rfl rfl ?_
   obtain ⟨e132,h133,h122⟩:=bindE h122
   obtain ⟨u134,h135,h122⟩:=bindE h122
   have h136:=q1o h135
   refine q12 [(0,0)] [(0,0)] [.hs 0 3 0 a123.2.length,.d (.int .i64 a123.1),.d (.int .i64 (w64 (p2 - p1))),.d (.int .i64 p1),.d (.fn q1F q1C)] (.d (.tup [])) [(0,.dat 3 (e132.map qe))] [(0,.dat 3 (e132.map qe))] 1 (q5m q1 q1F q1C q1Ok a123.2 a123.1 (w64 (p2 - p1)) p1 e132 h133) rfl rfl rfl (qx [(0,0)] [] [] rfl ⟨⟨_,rfl,.hs rfl (by decide) (ltd rfl)⟩,⟨_,rfl,.d (.refl _)⟩,⟨_,rfl,.d (.refl _)⟩,⟨_,rfl,.d (.refl _)⟩,⟨_,rfl,.d (.refl _)⟩,trivial⟩ ⟨⟨ltd rfl,.inr ⟨by decide,_,rfl,.dat _ _⟩⟩,trivial⟩) (qx [(0,0)] [] [] rfl ⟨⟨_,rfl,.d (.refl _)⟩,trivial⟩ ⟨⟨ltd rfl,.inr ⟨by decide,_,rfl,.dat _ _⟩⟩,trivial⟩) rfl ⟨.inl rfl,trivial⟩<|q7<|qf<|qv<|q6<|q0 rfl rfl<|q9 (.d (.int .i64 (w64 (a123.1 - 1)))) rfl rfl<|qa rfl rfl<|q7<|qf ?_
   exact ⟨_,(Option.some.inj h122).symm,wkE [] [] [] rfl ⟨⟨_,rfl,q16 (by simp [h136]) rfl (by decide) (ltd rfl)⟩,⟨_,rfl,.d (.refl _)⟩,⟨_,rfl,.d (.refl _)⟩,⟨_,rfl,.d (.refl _)⟩,⟨_,rfl,.d (.refl _)⟩,⟨_,rfl,.d (.refl _)⟩,trivial⟩ ⟨⟨ltd rfl,.inr ⟨by decide,_,rfl,.dat _ _⟩⟩,trivial⟩⟩
  ·refine qp ?_
   refine ⟨_,(Option.some.inj h122).symm,fun hm=>?_⟩
   subst hm
   exact ⟨_,rfl,wkE [] [] [] rfl ⟨⟨_,rfl,.hs rfl (by decide) (ltd rfl)⟩,⟨_,rfl,.d (.refl _)⟩,⟨_,rfl,.d (.refl _)⟩,⟨_,rfl,.d (.refl _)⟩,⟨_,rfl,.d (.refl _)⟩,trivial⟩ ⟨⟨ltd rfl,.inr ⟨by decide,_,rfl,.dat _ _⟩⟩,trivial⟩⟩
 ·intro b126 hb
  subst hb
  refine q8<|q6<|q0 rfl rfl<|q9 (.d (.int .i64 (w64 ((w64 (p2 - p1)) - 1)))) rfl rfl<|qa rfl rfl<|q7 ?_
  obtain ⟨m192,h193,h0⟩:=bindE h0
  refine ql<|qo (q3j p1 q1) (fun (a191 : Int × List span_end)=>⟨[(0,.hs 0 3 0 a191.2.length),(3,.d (.fn q1F q1C)),(8,.d (.int .i64 p1)),(9,.d (.int .i64 0)),(12,.d (.int .i64 a191.1))],[(0,.dat 3 (a191.2.map qe))],1⟩) (w64 ((w64 (p2 - p1)) - 1),b126) m192 h193 (wkE [] [] [] rfl ⟨⟨_,rfl,.hs rfl (by decide) (ltd rfl)⟩,⟨_,rfl,.d (.refl _)⟩,⟨_,rfl,.d (.refl _)⟩,⟨_,rfl,.d (.refl _)⟩,⟨_,rfl,.d (.refl _)⟩,trivial⟩ ⟨⟨ltd rfl,.inr ⟨by decide,_,rfl,.dat _ _⟩⟩,trivial⟩) ?_
  intro a191 y189 h190
  unfold q3j at h190
  refine q8<|q8<|q6<|q0 rfl rfl<|q9 (.d (.bool (decide (a191.1 ≥ 0)))) rfl rfl<|q7 ?_
  refine qd rfl h190 (fun _ h190=>?_) (fun _ h190=>?_)
  ·refine qg<|q8<|ql<|q8<|qk [(some [0],[0]),(some [],[]),(some [0],[0]),(some [],[]),(some [0],[]),(some [],[]),(some [],[]),(some [],[]),(some [0],[]),(some [],[]),(some [],[]),(some [],[]),(some [],[]),(some [],[]),(some [],[]),(some [],[]),(some [],[]),(some [],[]),(some [],[]),(some [],[])] (by kernel_rfl)<|q0 rfl rfl<|q0 rfl rfl<|q0 rfl rfl<|q0 rfl rfl<|q0 rfl rfl<|q9 (.d (.int .i64 (w64 (p1 + a191.1)))) rfl rfl<|q0 rfl rfl<|q0 rfl rfl<|q0 rfl rfl<|q9 (.d (.int .i64 (w64 (p1 + a191.1)))) rfl rfl ?_
   obtain ⟨v208,h209,h190⟩:=bindE h190
   refine qj h209 rfl rfl rfl rfl rfl rfl rfl<|qr (.d (.agg [.int .i64 v208.at_,.int .i64 v208.list_,.int .i64 v208.by_])) h209 rfl rfl rfl rfl rfl rfl<|q0 rfl rfl<|q0 rfl rfl ?_
   obtain ⟨v210,h211,h190⟩:=bindE h190
   refine qj h211 rfl rfl rfl rfl rfl rfl rfl<|qr (.d (.agg [.int .i64 v210.at_,.int .i64 v210.list_,.int .i64 v210.by_])) h211 rfl rfl rfl rfl rfl rfl ?_
   obtain ⟨v212,h213,h190⟩:=bindE h190
   refine qj h213 rfl rfl rfl rfl rfl rfl rfl<|q19 (ds:=[.int .i64 v208.at_,.int .i64 v208.list_,.int .i64 v208.by_]) v208 h213 rfl rfl rfl rfl rfl rfl rfl rfl (leb rfl) rfl ?_
   obtain ⟨v214,h215,h190⟩:=bindE h190
   refine qj h215 (by simp) rfl rfl rfl rfl rfl rfl<|q19 (ds:=[.int .i64 v210.at_,.int .i64 v210.list_,.int .i64 v210.by_]) v210 h215 rfl rfl rfl rfl rfl rfl rfl rfl (leb rfl) rfl<|q7<|q6<|q0 rfl rfl<|q0 rfl rfl<|q0 rfl rfl<|q0 rfl rfl<|q0 rfl rfl ?_
   obtain ⟨e216,h217,h190⟩:=bindE h190
   obtain ⟨u218,h219,h190⟩:=bindE h190
   have h220:=q1o h219
   refine q12 [(0,0)] [(0,0)] [.hs 0 3 0 a191.2.length,.d (.int .i64 0),.d (.int .i64 a191.1),.d (.int .i64 p1),.d (.fn q1F q1C)] (.d (.tup [])) [(0,.dat 3 (e216.map qe))] [(0,.dat 3 (e216.map qe))] 1 (q5m q1 q1F q1C q1Ok ((a191.2.set p1.toNat v208).set (w64 (p1 + a191.1)).toNat v210) 0 a191.1 p1 e216 h217) rfl rfl rfl (qx [(0,0)] [] [] rfl ⟨⟨_,rfl,q16 (by simp) rfl (by decide) (ltd rfl)⟩,⟨_,rfl,.d (.refl _)⟩,⟨_,rfl,.d (.refl _)⟩,⟨_,rfl,.d (.refl _)⟩,⟨_,rfl,.d (.refl _)⟩,trivial⟩ ⟨⟨ltd rfl,.inr ⟨by decide,_,rfl,.dat _ _⟩⟩,trivial⟩) (qx [(0,0)] [] [] rfl ⟨⟨_,rfl,.d (.refl _)⟩,trivial⟩ ⟨⟨ltd rfl,.inr ⟨by decide,_,rfl,.dat _ _⟩⟩,trivial⟩) rfl ⟨.inl rfl,trivial⟩<|q7<|qf<|qv<|q6<|q0 rfl rfl<|q9 (.d (.int .i64 (w64 (a191.1 - 1)))) rfl rfl<|qa rfl rfl<|q7<|qf ?_
   exact ⟨_,(Option.some.inj h190).symm,wkE [] [] [] rfl ⟨⟨_,rfl,q16 (by simp [h220]) rfl (by decide) (ltd rfl)⟩,⟨_,rfl,.d (.refl _)⟩,⟨_,rfl,.d (.refl _)⟩,⟨_,rfl,.d (.refl _)⟩,⟨_,rfl,.d (.refl _)⟩,trivial⟩ ⟨⟨ltd rfl,.inr ⟨by decide,_,rfl,.dat _ _⟩⟩,trivial⟩⟩
  ·refine qp ?_
   refine ⟨_,(Option.some.inj h190).symm,fun hm=>?_⟩
   subst hm
   obtain rfl:=someE h0
   exact ⟨.inl rfl,_,rfl,wkE [] [] [] rfl ⟨⟨_,rfl,.d (.refl _)⟩,trivial⟩ ⟨⟨ltd rfl,.inr ⟨by decide,_,rfl,.dat _ _⟩⟩,trivial⟩⟩
theorem q6w (q1 : span_end→span_end→Option Int) (q1F : FuncId) (q1C : List DV) (_q1Ok : ∀ (x0 : span_end) (x1 : span_end) (r : Int),q1 x0 x1 = some r→Pure Try.prog tab q1F ([.agg [.int .i64 x0.at_,.int .i64 x0.list_,.int .i64 x0.by_],.agg [.int .i64 x1.at_,.int .i64 x1.list_,.int .i64 x1.by_]] ++ q1C) (.int .i64 r)) (p0 : List span_end) (p1 : Int) (p2 : Int) (r : List span_end) (h0 : q2t q1 p0 p1 p2 = some r) : EvCall Try.prog tab 122 [.hs 0 3 0 p0.length,.d (.int .i64 p1),.d (.int .i64 p2),.d (.fn q1F q1C)] [(0,.dat 3 (p0.map qe))] 1 (.d (.tup [])) [(0,.dat 3 (r.map qe))] 1:=by
 unfold q2t at h0
 refine q18 Try.func122 rfl (by kernel_rfl) (by kernel_rfl) rfl<|q8<|q6<|q0 rfl rfl<|q0 rfl rfl<|q9 (.d (.int .i64 (w64 (p2 - p1)))) rfl rfl<|qa rfl rfl<|q7<|q8<|q6<|q0 rfl rfl<|q9 (.d (.bool (decide ((w64 (p2 - p1)) ≥ 8)))) rfl rfl<|q7 ?_
 refine qd rfl h0 (fun _ h0=>?_) (fun _ h0=>?_)
 ·refine q8<|q6<|q0 rfl rfl<|q9 (.d (.int .u64 (IntKind.wrap .u64 (w64 (p2 - p1))))) rfl rfl<|q3q rfl rfl<|q1z 1 (.dat 1 [[.int .u64 (IntKind.wrap .u64 (w64 (p2 - p1)))]]) rfl rfl<|q7<|q8<|q6<|q0 rfl rfl ?_
  obtain ⟨r101,h102,h0⟩:=bindE h0
  refine q11 [.d (.int .i64 (w64 (p2 - p1)))] (q88 (w64 (p2 - p1)) r101 h102) rfl rfl rfl (.inl rfl)<|qa rfl rfl<|q7<|q8<|q6<|q0 rfl rfl<|q0 rfl rfl<|q9 (.d (.int .i64 (w64 (Int.tdiv (w64 (p2 - p1)) 4)))) rfl rfl<|q9 (.d (.int .i64 (w64 ((w64 (Int.tdiv (w64 (p2 - p1)) 4)) * 2)))) rfl rfl<|q9 (.d (.int .i64 (w64 (p1 + (w64 ((w64 (Int.tdiv (w64 (p2 - p1)) 4)) * 2)))))) rfl rfl<|q9 (.d (.int .i64 (w64 ((w64 (p1 + (w64 ((w64 (Int.tdiv (w64 (p2 - p1)) 4)) * 2)))) - 1)))) rfl rfl<|qa rfl rfl<|q7 ?_
  obtain ⟨m154,h155,h0⟩:=bindE h0
  refine ql<|qo (q2b p1 p2 r101) (fun (a153 : Int × List span_end × Int)=>⟨[(0,.hs 0 3 0 a153.2.1.length),(1,.d (.int .i64 p1)),(8,.d (.int .i64 (w64 (p2 - p1)))),(9,.ref 1 1 0 0),(10,.d (.int .u64 r101)),(11,.d (.int .i64 a153.1))],[(0,.dat 3 (a153.2.1.map qe)),(1,.dat 1 [[.int .u64 a153.2.2]])],2⟩) (w64 ((w64 (p1 + (w64 ((w64 (Int.tdiv (w64 (p2 - p1)) 4)) * 2)))) - 1),p0,IntKind.wrap .u64 (w64 (p2 - p1))) m154 h155 (wkE [(1,1)] [] [] rfl ⟨⟨_,rfl,.hs rfl (by decide) (ltd rfl)⟩,⟨_,rfl,.d (.refl _)⟩,⟨_,rfl,.d (.refl _)⟩,⟨_,rfl,.ref rfl (by decide) (ltd rfl)⟩,⟨_,rfl,.d (.refl _)⟩,⟨_,rfl,.d (.refl _)⟩,trivial⟩ ⟨⟨ltd rfl,.inr ⟨by decide,_,rfl,.dat _ _⟩⟩,⟨ltd rfl,.inr ⟨by decide,_,rfl,.dat _ _⟩⟩,trivial⟩) ?_
  intro a153 y151 h152
  unfold q2b at h152
  refine q8<|q8<|q6<|q0 rfl rfl<|q0 rfl rfl<|q0 rfl rfl<|q9 (.d (.int .i64 (w64 (Int.tdiv (w64 (p2 - p1)) 4)))) rfl rfl<|q9 (.d (.int .i64 (w64 ((w64 (Int.tdiv (w64 (p2 - p1)) 4)) * 2)))) rfl rfl<|q9 (.d (.int .i64 (w64 (p1 + (w64 ((w64 (Int.tdiv (w64 (p2 - p1)) 4)) * 2)))))) rfl rfl<|q9 (.d (.int .i64 (w64 ((w64 (p1 + (w64 ((w64 (Int.tdiv (w64 (p2 - p1)) 4)) * 2)))) + 1)))) rfl rfl<|q9 (.d (.bool (decide (a153.1≤(w64 ((w64 (p1 + (w64 ((w64 (Int.tdiv (w64 (p2 - p1)) 4)) * 2)))) + 1)))))) rfl rfl<|q7 ?_
  refine qd rfl h152 (fun _ h152=>?_) (fun _ h152=>?_)
  ·refine qg<|q8<|ql<|q8<|q6 ?_
   obtain ⟨e168,h169,h152⟩:=bindE h152
   refine q12 [(0,1)] [(0,1),(1,0)] [.ref 1 1 0 0] (.d (.int .u64 e168)) [(1,.dat 1 [[.int .u64 e168]])] [(1,.dat 1 [[.int .u64 e168]]),(0,.dat 3 (a153.2.1.map qe))] 2 (q78 a153.2.2 e168 h169) rfl rfl rfl (qx [(0,1)] [] [] rfl ⟨⟨_,rfl,.ref rfl (by decide) (ltd rfl)⟩,trivial⟩ ⟨⟨ltd rfl,.inr ⟨by decide,_,rfl,.dat _ _⟩⟩,trivial⟩) (qx [(0,1),(1,0)] [] [] rfl ⟨⟨_,rfl,.d (.refl _)⟩,trivial⟩ ⟨⟨ltd rfl,.inr ⟨by decide,_,rfl,.dat _ _⟩⟩,trivial⟩) rfl ⟨.inl rfl,.inr ⟨rfl,rfl⟩,trivial⟩<|q0 rfl rfl<|q9 (.d (.int .u64 (IntKind.wrap .u64 (r101 - 1)))) rfl rfl<|q9 (.d (.int .u64 (andI .u64 e168 (IntKind.wrap .u64 (r101 - 1))))) rfl rfl<|q9 (.d (.int .i64 (w64 (andI .u64 e168 (IntKind.wrap .u64 (r101 - 1)))))) rfl rfl<|qa rfl rfl<|q7<|q8<|q8<|q6<|q0 rfl rfl<|q0 rfl rfl<|q9 (.d (.bool (decide ((w64 (andI .u64 e168 (IntKind.wrap .u64 (r101 - 1)))) ≥ (w64 (p2 - p1)))))) rfl rfl<|q7 ?_
   obtain ⟨m171,h170,h152⟩:=bindE h152
   refine q5c (fun b172=>b172 = m171) (fun (b172 : Int)=>⟨[(0,.hs 0 3 0 a153.2.1.length),(1,.d (.int .i64 p1)),(8,.d (.int .i64 (w64 (p2 - p1)))),(9,.ref 1 1 0 0),(10,.d (.int .u64 r101)),(11,.d (.int .i64 a153.1)),(12,.d (.int .i64 b172))],[(0,.dat 3 (a153.2.1.map qe)),(1,.dat 1 [[.int .u64 e168]])],2⟩) (by simp) ?_ ?_
   ·refine qd rfl h170 (fun _ h170=>?_) (fun _ h170=>?_)
    ·refine q6<|q0 rfl rfl<|q0 rfl rfl<|q9 (.d (.int .i64 (w64 ((w64 (andI .u64 e168 (IntKind.wrap .u64 (r101 - 1)))) - (w64 (p2 - p1)))))) rfl rfl<|qa rfl rfl<|q7<|qf ?_
     obtain rfl:=someE h170
     exact ⟨_,rfl,wkE [(1,1)] [] [] rfl ⟨⟨_,rfl,.hs rfl (by decide) (ltd rfl)⟩,⟨_,rfl,.d (.refl _)⟩,⟨_,rfl,.d (.refl _)⟩,⟨_,rfl,.ref rfl (by decide) (ltd rfl)⟩,⟨_,rfl,.d (.refl _)⟩,⟨_,rfl,.d (.refl _)⟩,⟨_,rfl,.d (.refl _)⟩,trivial⟩ ⟨⟨ltd rfl,.inr ⟨by decide,_,rfl,.dat _ _⟩⟩,⟨ltd rfl,.inr ⟨by decide,_,rfl,.dat _ _⟩⟩,trivial⟩⟩
    ·refine qg<|qf ?_
     obtain rfl:=someE h170
     exact ⟨_,rfl,wkE [(1,1)] [] [] rfl ⟨⟨_,rfl,.hs rfl (by decide) (ltd rfl)⟩,⟨_,rfl,.d (.refl _)⟩,⟨_,rfl,.d (.refl _)⟩,⟨_,rfl,.ref rfl (by decide) (ltd rfl)⟩,⟨_,rfl,.d (.refl _)⟩,⟨_,rfl,.d (.refl _)⟩,⟨_,rfl,.d (.refl _)⟩,trivial⟩ ⟨⟨ltd rfl,.inr ⟨by decide,_,rfl,.dat _ _⟩⟩,⟨ltd rfl,.inr ⟨by decide,_,rfl,.dat _ _⟩⟩,trivial⟩⟩
   ·intro b172 hb
    subst hb
    refine qk [(some [0],[0]),(some [],[]),(some [0],[0]),(some [],[]),(some [0],[]),(some [],[]),(some [],[]),(some [],[]),(some [0],[]),(some [],[]),(some [],[]),(some [],[]),(some [],[]),(some [],[]),(some [],[]),(some [],[]),(some [],[]),(some [],[]),(some [],[]),(some [],[])] (by kernel_rfl)<|q0 rfl rfl<|q0 rfl rfl<|q0 rfl rfl<|q0 rfl rfl<|q0 rfl rfl<|q9 (.d (.int .i64 (w64 (p1 + b172)))) rfl rfl<|q0 rfl rfl<|q0 rfl rfl<|q0 rfl rfl<|q9 (.d (.int .i64 (w64 (p1 + b172)))) rfl rfl ?_
    obtain ⟨v173,h174,h152⟩:=bindE h152
    refine qj h174 rfl rfl rfl rfl rfl rfl rfl<|qr (.d (.agg [.int .i64 v173.at_,.int .i64 v173.list_,.int .i64 v173.by_])) h174 rfl rfl rfl rfl rfl rfl<|q0 rfl rfl<|q0 rfl rfl ?_
    obtain ⟨v175,h176,h152⟩:=bindE h152
    refine qj h176 rfl rfl rfl rfl rfl rfl rfl<|qr (.d (.agg [.int .i64 v175.at_,.int .i64 v175.list_,.int .i64 v175.by_])) h176 rfl rfl rfl rfl rfl rfl ?_
    obtain ⟨v177,h178,h152⟩:=bindE h152
    refine qj h178 rfl rfl rfl rfl rfl rfl rfl<|q19 (ds:=[.int .i64 v173.at_,.int .i64 v173.list_,.int .i64 v173.by_]) v173 h178 rfl rfl rfl rfl rfl rfl rfl rfl (leb rfl) rfl ?_
    obtain ⟨v179,h180,h152⟩:=bindE h152
    refine qj h180 (by simp) rfl rfl rfl rfl rfl rfl<|q19 (ds:=[.int .i64 v175.at_,.int .i64 v175.list_,.int .i64 v175.by_]) v175 h180 rfl rfl rfl rfl rfl rfl rfl rfl (leb rfl) rfl<|q7<|qf<|qv<|q6<|q0 rfl rfl<|q9 (.d (.int .i64 (w64 (a153.1 + 1)))) rfl rfl<|qa rfl rfl<|q7<|qf ?_
    exact ⟨_,(Option.some.inj h152).symm,wkE [(1,1)] [] [] rfl ⟨⟨_,rfl,q16 (by simp) rfl (by decide) (ltd rfl)⟩,⟨_,rfl,.d (.refl _)⟩,⟨_,rfl,.d (.refl _)⟩,⟨_,rfl,.ref rfl (by decide) (ltd rfl)⟩,⟨_,rfl,.d (.refl _)⟩,⟨_,rfl,.d (.refl _)⟩,trivial⟩ ⟨⟨ltd rfl,.inr ⟨by decide,_,rfl,.dat _ _⟩⟩,⟨ltd rfl,.inr ⟨by decide,_,rfl,.dat _ _⟩⟩,trivial⟩⟩
  ·refine qp ?_
   refine ⟨_,(Option.some.inj h152).symm,fun hm=>?_⟩
   subst hm
   obtain rfl:=someE h0
   exact ⟨.inl rfl,_,rfl,wkE [] [] [] rfl ⟨⟨_,rfl,.d (.refl _)⟩,trivial⟩ ⟨⟨ltd rfl,.inr ⟨by decide,_,rfl,.dat _ _⟩⟩,trivial⟩⟩
 ·refine qg<|qf ?_
  obtain rfl:=someE h0
  exact ⟨.inl rfl,_,rfl,wkE [] [] [] rfl ⟨⟨_,rfl,.d (.refl _)⟩,trivial⟩ ⟨⟨ltd rfl,.inr ⟨by decide,_,rfl,.dat _ _⟩⟩,trivial⟩⟩
theorem q4v (q1 : span_end→span_end→Option Int) (q1F : FuncId) (q1C : List DV) (q1Ok : ∀ (x0 : span_end) (x1 : span_end) (r : Int),q1 x0 x1 = some r→Pure Try.prog tab q1F ([.agg [.int .i64 x0.at_,.int .i64 x0.list_,.int .i64 x0.by_],.agg [.int .i64 x1.at_,.int .i64 x1.list_,.int .i64 x1.by_]] ++ q1C) (.int .i64 r)) (p0 : List span_end) (p1 : Int) (p2 : Int) (p3 : Int) (r : Int × Int × Int) (h0 : q28 q1 p0 p1 p2 p3 = some r) : EvCall Try.prog tab 131 [.d (.sl 3 (p0.map qe)),.d (.int .i64 p1),.d (.int .i64 p2),.ref 0 1 0 0,.d (.fn q1F q1C)] [(0,.dat 1 [[.int .i64 p3]])] 1 (.d (.tup [.int .i64 r.1,.int .i64 r.2.1])) [(0,.dat 1 [[.int .i64 r.2.2]])] 1:=by
 unfold q28 at h0
 refine q18 Try.func131 rfl (by kernel_rfl) (by kernel_rfl) rfl<|q8<|q6<|qa rfl rfl<|qa rfl rfl<|q7<|q8<|q8<|qk [(some [],[]),(some [],[]),(some [],[]),(some [],[]),(some [],[]),(some [],[]),(some [],[]),(some [],[]),(some [],[]),(some [],[]),(some [],[])] (by kernel_rfl)<|q0 rfl rfl<|q0 rfl rfl<|q0 rfl rfl ?_
 obtain ⟨v101,h102,h0⟩:=bindE h0
 refine q10 (enc:=qe) h102 rfl rfl rfl rfl rfl rfl<|q9 (.d (.agg [.int .i64 v101.at_,.int .i64 v101.list_,.int .i64 v101.by_])) rfl rfl<|q0 rfl rfl<|q0 rfl rfl ?_
 obtain ⟨v103,h104,h0⟩:=bindE h0
 refine q10 (enc:=qe) h104 rfl rfl rfl rfl rfl rfl<|q9 (.d (.agg [.int .i64 v103.at_,.int .i64 v103.list_,.int .i64 v103.by_])) rfl rfl ?_
 obtain ⟨r105,h106,h0⟩:=bindE h0
 refine q6i [.d (.agg [.int .i64 v101.at_,.int .i64 v101.list_,.int .i64 v101.by_]),.d (.agg [.int .i64 v103.at_,.int .i64 v103.list_,.int .i64 v103.by_])] (q1Ok v101 v103 r105 h106) rfl rfl rfl (.inl rfl)<|q9 (.d (.bool (decide (r105 < 0)))) rfl rfl<|q7 ?_
 refine qd rfl h0 (fun _ h0=>?_) (fun _ h0=>?_)
 ·refine q8<|q6<|q0 rfl rfl<|q9 (.ref 0 1 0 0) rfl rfl<|q9 (.d (.int .i64 p3)) rfl rfl<|q9 (.d (.int .i64 (w64 (p3 + 1)))) rfl rfl<|q9 (.ref 0 1 0 0) rfl rfl<|q1z 0 (.dat 1 [[.int .i64 (w64 (p3 + 1))]]) rfl rfl<|q7<|q8<|q6<|q0 rfl rfl<|q0 rfl rfl<|qa rfl rfl<|qa rfl rfl<|q7<|qm ?_
  obtain rfl:=someE h0
  exact ⟨.inr rfl,_,rfl,wkE [] [] [] rfl ⟨⟨_,rfl,.d (.refl _)⟩,trivial⟩ ⟨⟨ltd rfl,.inr ⟨by decide,_,rfl,.dat _ _⟩⟩,trivial⟩⟩
 ·refine qg<|q8<|q6<|q0 rfl rfl<|q0 rfl rfl<|qa rfl rfl<|qa rfl rfl<|q7<|qm ?_
  obtain rfl:=someE h0
  exact ⟨.inr rfl,_,rfl,wkE [] [] [] rfl ⟨⟨_,rfl,.d (.refl _)⟩,trivial⟩ ⟨⟨ltd rfl,.inr ⟨by decide,_,rfl,.dat _ _⟩⟩,trivial⟩⟩
theorem q5v (q1 : span_end→span_end→Option Int) (q1F : FuncId) (q1C : List DV) (q1Ok : ∀ (x0 : span_end) (x1 : span_end) (r : Int),q1 x0 x1 = some r→Pure Try.prog tab q1F ([.agg [.int .i64 x0.at_,.int .i64 x0.list_,.int .i64 x0.by_],.agg [.int .i64 x1.at_,.int .i64 x1.list_,.int .i64 x1.by_]] ++ q1C) (.int .i64 r)) (p0 : List span_end) (p1 : Int) (p2 : Int) (p3 : Int) (p4 : Int) (r : Int × Int) (h0 : q3f q1 p0 p1 p2 p3 p4 = some r) : EvCall Try.prog tab 130 [.d (.sl 3 (p0.map qe)),.d (.int .i64 p1),.d (.int .i64 p2),.d (.int .i64 p3),.ref 0 1 0 0,.d (.fn q1F q1C)] [(0,.dat 1 [[.int .i64 p4]])] 1 (.d (.int .i64 r.1)) [(0,.dat 1 [[.int .i64 r.2]])] 1:=by
 unfold q3f at h0
 refine q18 Try.func130 rfl (by kernel_rfl) (by kernel_rfl) rfl<|q8<|q6<|qa rfl rfl<|q7<|q8<|q6<|q0 rfl rfl<|q0 rfl rfl<|q0 rfl rfl<|q0 rfl rfl<|q0 rfl rfl ?_
 obtain ⟨e101,h102,h0⟩:=bindE h0
 refine q12 [(0,0)] [(0,0)] [.d (.sl 3 (p0.map qe)),.d (.int .i64 p1),.d (.int .i64 p2),.ref 0 1 0 0,.d (.fn q1F q1C)] (.d (.tup [.int .i64 e101.1,.int .i64 e101.2.1])) [(0,.dat 1 [[.int .i64 e101.2.2]])] [(0,.dat 1 [[.int .i64 e101.2.2]])] 1 (q4v q1 q1F q1C q1Ok p0 p1 p2 p4 e101 h102) rfl rfl rfl (qx [(0,0)] [] [] rfl ⟨⟨_,rfl,.d (.refl _)⟩,⟨_,rfl,.d (.refl _)⟩,⟨_,rfl,.d (.refl _)⟩,⟨_,rfl,.ref rfl (by decide) (ltd rfl)⟩,⟨_,rfl,.d (.refl _)⟩,trivial⟩ ⟨⟨ltd rfl,.inr ⟨by decide,_,rfl,.dat _ _⟩⟩,trivial⟩) (qx [(0,0)] [] [] rfl ⟨⟨_,rfl,.d (.refl _)⟩,trivial⟩ ⟨⟨ltd rfl,.inr ⟨by decide,_,rfl,.dat _ _⟩⟩,trivial⟩) rfl ⟨.inl rfl,trivial⟩<|q0 rfl rfl<|q9 (.d (.int .i64 e101.1)) rfl rfl<|q9 (.d (.int .i64 e101.2.1)) rfl rfl<|qa rfl rfl<|qa rfl rfl<|q7<|q8<|q6<|q0 rfl rfl<|q0 rfl rfl<|q0 rfl rfl<|q0 rfl rfl<|q0 rfl rfl ?_
 obtain ⟨e103,h104,h0⟩:=bindE h0
 refine q12 [(0,0)] [(0,0)] [.d (.sl 3 (p0.map qe)),.d (.int .i64 e101.2.1),.d (.int .i64 p3),.ref 0 1 0 0,.d (.fn q1F q1C)] (.d (.tup [.int .i64 e103.1,.int .i64 e103.2.1])) [(0,.dat 1 [[.int .i64 e103.2.2]])] [(0,.dat 1 [[.int .i64 e103.2.2]])] 1 (q4v q1 q1F q1C q1Ok p0 e101.2.1 p3 e101.2.2 e103 h104) rfl rfl rfl (qx [(0,0)] [] [] rfl ⟨⟨_,rfl,.d (.refl _)⟩,⟨_,rfl,.d (.refl _)⟩,⟨_,rfl,.d (.refl _)⟩,⟨_,rfl,.ref rfl (by decide) (ltd rfl)⟩,⟨_,rfl,.d (.refl _)⟩,trivial⟩ ⟨⟨ltd rfl,.inr ⟨by decide,_,rfl,.dat _ _⟩⟩,trivial⟩) (qx [(0,0)] [] [] rfl ⟨⟨_,rfl,.d (.refl _)⟩,trivial⟩ ⟨⟨ltd rfl,.inr ⟨by decide,_,rfl,.dat _ _⟩⟩,trivial⟩) rfl ⟨.inl rfl,trivial⟩<|q0 rfl rfl<|q9 (.d (.int .i64 e103.1)) rfl rfl<|q9 (.d (.int .i64 e103.2.1)) rfl rfl<|qa rfl rfl<|qa rfl rfl<|q7<|q8<|q6<|q0 rfl rfl<|q0 rfl rfl<|q0 rfl rfl<|q0 rfl rfl<|q0 rfl rfl ?_
 obtain ⟨e105,h106,h0⟩:=bindE h0
 refine q12 [(0,0)] [(0,0)] [.d (.sl 3 (p0.map qe)),.d (.int .i64 e101.1),.d (.int .i64 e103.1),.ref 0 1 0 0,.d (.fn q1F q1C)] (.d (.tup [.int .i64 e105.1,.int .i64 e105.2.1])) [(0,.dat 1 [[.int .i64 e105.2.2]])] [(0,.dat 1 [[.int .i64 e105.2.2]])] 1 (q4v q1 q1F q1C q1Ok p0 e101.1 e103.1 e103.2.2 e105 h106) rfl rfl rfl (qx [(0,0)] [] [] rfl ⟨⟨_,rfl,.d (.refl _)⟩,⟨_,rfl,.d (.refl _)⟩,⟨_,rfl,.d (.refl _)⟩,⟨_,rfl,.ref rfl (by decide) (ltd rfl)⟩,⟨_,rfl,.d (.refl _)⟩,trivial⟩ ⟨⟨ltd rfl,.inr ⟨by decide,_,rfl,.dat _ _⟩⟩,trivial⟩) (qx [(0,0)] [] [] rfl ⟨⟨_,rfl,.d (.refl _)⟩,trivial⟩ ⟨⟨ltd rfl,.inr ⟨by decide,_,rfl,.dat _ _⟩⟩,trivial⟩) rfl ⟨.inl rfl,trivial⟩<|q0 rfl rfl<|q9 (.d (.int .i64 e105.1)) rfl rfl<|q9 (.d (.int .i64 e105.2.1)) rfl rfl<|qa rfl rfl<|qa rfl rfl<|q7<|q8<|q6<|q0 rfl rfl<|qa rfl rfl<|q7<|qm ?_
 obtain rfl:=someE h0
 exact ⟨.inr rfl,_,rfl,wkE [] [] [] rfl ⟨⟨_,rfl,.d (.refl _)⟩,trivial⟩ ⟨⟨ltd rfl,.inr ⟨by decide,_,rfl,.dat _ _⟩⟩,trivial⟩⟩
theorem q42 (q1 : span_end→span_end→Option Int) (q1F : FuncId) (q1C : List DV) (q1Ok : ∀ (x0 : span_end) (x1 : span_end) (r : Int),q1 x0 x1 = some r→Pure Try.prog tab q1F ([.agg [.int .i64 x0.at_,.int .i64 x0.list_,.int .i64 x0.by_],.agg [.int .i64 x1.at_,.int .i64 x1.list_,.int .i64 x1.by_]] ++ q1C) (.int .i64 r)) (p0 : List span_end) (p1 : Int) (p2 : Int) (r : Int × Int) (h0 : q1h q1 p0 p1 p2 = some r) : EvCall Try.prog tab 129 [.d (.sl 3 (p0.map qe)),.d (.int .i64 p1),.ref 0 1 0 0,.d (.fn q1F q1C)] [(0,.dat 1 [[.int .i64 p2]])] 1 (.d (.int .i64 r.1)) [(0,.dat 1 [[.int .i64 r.2]])] 1:=by
 unfold q1h at h0
 refine q18 Try.func129 rfl (by kernel_rfl) (by kernel_rfl) rfl<|q8<|q6<|qa rfl rfl<|q7<|q8<|q6<|q0 rfl rfl<|q0 rfl rfl<|q9 (.d (.int .i64 (w64 (p1 - 1)))) rfl rfl<|q0 rfl rfl<|q0 rfl rfl<|q9 (.d (.int .i64 (w64 (p1 + 1)))) rfl rfl<|q0 rfl rfl<|q0 rfl rfl ?_
 obtain ⟨e101,h102,h0⟩:=bindE h0
 refine q12 [(0,0)] [(0,0)] [.d (.sl 3 (p0.map qe)),.d (.int .i64 (w64 (p1 - 1))),.d (.int .i64 p1),.d (.int .i64 (w64 (p1 + 1))),.ref 0 1 0 0,.d (.fn q1F q1C)] (.d (.int .i64 e101.1)) [(0,.dat 1 [[.int .i64 e101.2]])] [(0,.dat 1 [[.int .i64 e101.2]])] 1 (q5v q1 q1F q1C q1Ok p0 (w64 (p1 - 1)) p1 (w64 (p1 + 1)) p2 e101 h102) rfl rfl rfl (qx [(0,0)] [] [] rfl ⟨⟨_,rfl,.d (.refl _)⟩,⟨_,rfl,.d (.refl _)⟩,⟨_,rfl,.d (.refl _)⟩,⟨_,rfl,.d (.refl _)⟩,⟨_,rfl,.ref rfl (by decide) (ltd rfl)⟩,⟨_,rfl,.d (.refl _)⟩,trivial⟩ ⟨⟨ltd rfl,.inr ⟨by decide,_,rfl,.dat _ _⟩⟩,trivial⟩) (qx [(0,0)] [] [] rfl ⟨⟨_,rfl,.d (.refl _)⟩,trivial⟩ ⟨⟨ltd rfl,.inr ⟨by decide,_,rfl,.dat _ _⟩⟩,trivial⟩) rfl ⟨.inl rfl,trivial⟩<|qa rfl rfl<|q7<|qm ?_
 obtain rfl:=someE h0
 exact ⟨.inr rfl,_,rfl,wkE [] [] [] rfl ⟨⟨_,rfl,.d (.refl _)⟩,trivial⟩ ⟨⟨ltd rfl,.inr ⟨by decide,_,rfl,.dat _ _⟩⟩,trivial⟩⟩
end Go.Proofs.Ytlchefooafpdlaa
