/- PLAIN FUNCTIONS, lifted by program. -/
import Derived.Test.YtlchefooafpdlaaLf4
namespace Go.Sh
open Go Go.Am
structure api_Vec where
  X : Int
  Y : Int
  Z : Int
  deriving DecidableEq

structure api_Frame where
  Turn : Int
  At : api_Vec
  deriving DecidableEq

structure api_Scope where
  Frame : api_Frame
  Size : api_Vec
  deriving DecidableEq

/-- gambrel/frame.fine -/
noncomputable def frame_fine (p0 : api_Vec) (p1 : Int) : Option Bool :=
  (cond (decide ((min (min p0.X p0.Y) p0.Z) ≥ p1)) (some (decide ((max (max p0.X p0.Y) p0.Z) ≤ 1000000))) (some false)).bind fun c1 => some c1

/-- gambrel/frame.Check -/
noncomputable def frame_Check (p0 : api_Frame) : Option Int :=
  (cond (decide (p0.Turn ≥ 24)) (some true) ((frame_fine p0.At (-1000000)).bind fun r10 => some (!r10))).bind fun c3 => cond c3 (some 8) (some 0)

/-- gambrel/frame.checked -/
noncomputable def frame_checked (p0 : api_Scope) : Option Int :=
  (frame_Check p0.Frame).bind fun r1 => (cond (r1 != 0) (some true) ((frame_fine p0.Size 0).bind fun r12 => some (!r12))).bind fun c5 => cond c5 (some 8) (some 0)

/-- gambrel/frame.direction -/
noncomputable def frame_direction (p0 : Int) : Option api_Vec :=
  cond ((IntKind.wrap .u8 (Int.tdiv p0 2)) == 0) (some ({ X := w64 (1 - (w64 (2 * (w64 (Int.tmod p0 2))))), Y := 0, Z := 0 } : api_Vec)) (cond ((IntKind.wrap .u8 (Int.tdiv p0 2)) == 1) (some ({ X := 0, Y := w64 (1 - (w64 (2 * (w64 (Int.tmod p0 2))))), Z := 0 } : api_Vec)) (some ({ X := 0, Y := 0, Z := w64 (1 - (w64 (2 * (w64 (Int.tmod p0 2))))) } : api_Vec)))

/-- gambrel/frame.cross -/
noncomputable def frame_cross (p0 : api_Vec) (p1 : api_Vec) : Option api_Vec :=
  some ({ X := w64 ((w64 (p0.Y * p1.Z)) - (w64 (p0.Z * p1.Y))), Y := w64 ((w64 (p0.Z * p1.X)) - (w64 (p0.X * p1.Z))), Z := w64 ((w64 (p0.X * p1.Y)) - (w64 (p0.Y * p1.X))) } : api_Vec)

/-- gambrel/frame.axes -/
noncomputable def frame_axes (p0 : Int) : Option (api_Vec × api_Vec × api_Vec) :=
  (cond (decide ((Int.tmod p0 4) ≥ (IntKind.wrap .u8 ((IntKind.wrap .u8 (Int.tdiv (IntKind.wrap .u8 (Int.tdiv p0 4)) 2)) * 2)))) (some (IntKind.wrap .u8 ((Int.tmod p0 4) + 2))) (some (Int.tmod p0 4))).bind fun b3 => (frame_direction (IntKind.wrap .u8 (Int.tdiv p0 4))).bind fun r4 => (frame_direction b3).bind fun r6 => (frame_cross r4 r6).bind fun r8 => some (r4, r6, r8)

def enc_api_Vec (x : api_Vec) : List DV := [.int .i64 x.X, .int .i64 x.Y, .int .i64 x.Z]

/-- gambrel/frame.sum -/
noncomputable def frame_sum (p0 : api_Vec × api_Vec × api_Vec) (p1 : api_Vec) : Option api_Vec :=
  some ({ X := w64 ((w64 ((w64 (p1.X * p0.1.X)) + (w64 (p1.Y * p0.2.1.X)))) + (w64 (p1.Z * p0.2.2.X))), Y := w64 ((w64 ((w64 (p1.X * p0.1.Y)) + (w64 (p1.Y * p0.2.1.Y)))) + (w64 (p1.Z * p0.2.2.Y))), Z := w64 ((w64 ((w64 (p1.X * p0.1.Z)) + (w64 (p1.Y * p0.2.1.Z)))) + (w64 (p1.Z * p0.2.2.Z))) } : api_Vec)

noncomputable def frame_named_L1 (p0 : api_Vec × api_Vec × api_Vec) (a11 : Int) : Option ((Int) ⊕ ((Unit) ⊕ (Int))) :=
  cond (decide (a11 < 24)) ((frame_axes a11).bind fun r17 => cond ((r17.1.X == p0.1.X) && ((r17.1.Y == p0.1.Y) && ((r17.1.Z == p0.1.Z) && ((r17.2.1.X == p0.2.1.X) && ((r17.2.1.Y == p0.2.1.Y) && ((r17.2.1.Z == p0.2.1.Z) && ((r17.2.2.X == p0.2.2.X) && ((r17.2.2.Y == p0.2.2.Y) && ((r17.2.2.Z == p0.2.2.Z) && true))))))))) (some (.inr (.inr a11))) (some (.inl (IntKind.wrap .u8 (a11 + 1))))) (some (.inr (.inl ())))

/-- gambrel/frame.named -/
noncomputable def frame_named (p0 : api_Vec × api_Vec × api_Vec) : Option Int :=
  (loop (frame_named_L1 p0) 0 : Option ((Unit) ⊕ (Int))).bind fun m12 => (match m12 with | .inl b14 => some 0 | .inr x1 => some x1)

/-- gambrel/frame.image -/
noncomputable def frame_image (p0 : api_Frame) (p1 : api_Vec) : Option api_Vec :=
  (frame_axes p0.Turn).bind fun r1 => (frame_sum r1 p1).bind fun r3 => some ({ X := w64 (r3.X + p0.At.X), Y := w64 (r3.Y + p0.At.Y), Z := w64 (r3.Z + p0.At.Z) } : api_Vec)

noncomputable def frame_within_L1 (r3 : (api_Vec × api_Vec × api_Vec)) (a31 : Int × List api_Vec) : Option ((Int × List api_Vec) ⊕ (List api_Vec)) :=
  cond (decide (a31.1 < 3)) ((idxA 3 a31.2 a31.1).bind fun v41 => (frame_sum r3 v41).bind fun r43 => (idxA 3 a31.2 a31.1).bind fun v45 => some (.inl (w64 (a31.1 + 1), a31.2.set a31.1.toNat r43))) (some (.inr a31.2))

/-- gambrel/frame.within -/
noncomputable def frame_within (p0 : api_Frame) (p1 : api_Frame) : Option api_Frame :=
  (frame_axes p0.Turn).bind fun r1 => (frame_axes p1.Turn).bind fun r3 => (loop (frame_within_L1 r3) (0, [r1.1, r1.2.1, r1.2.2])).bind fun b34 => (arr3 b34).bind fun v47 => (frame_named v47).bind fun r49 => (frame_image p1 p0.At).bind fun r51 => some ({ Turn := r49, At := r51 } : api_Frame)

/-- gambrel/frame.Within -/
noncomputable def frame_Within (p0 : api_Frame) (p1 : api_Frame) : Option (api_Frame × Int) :=
  (frame_Check p0).bind fun r1 => cond (r1 != 0) (some (({ Turn := 0, At := ({ X := 0, Y := 0, Z := 0 } : api_Vec) } : api_Frame), r1)) ((frame_Check p1).bind fun r3 => cond (r3 != 0) (some (({ Turn := 0, At := ({ X := 0, Y := 0, Z := 0 } : api_Vec) } : api_Frame), r3)) ((frame_within p0 p1).bind fun r5 => (frame_Check r5).bind fun r7 => cond (r7 != 0) (some (({ Turn := 0, At := ({ X := 0, Y := 0, Z := 0 } : api_Vec) } : api_Frame), 16)) (some (r5, 0))))

/-- gambrel/frame.Inside -/
noncomputable def frame_Inside (p0 : api_Scope) (p1 : api_Vec) (p2 : api_Vec) (p3 : Int) : Option (api_Scope × Int) :=
  (frame_checked p0).bind fun r1 => cond (r1 != 0) (some (({ Frame := ({ Turn := 0, At := ({ X := 0, Y := 0, Z := 0 } : api_Vec) } : api_Frame), Size := ({ X := 0, Y := 0, Z := 0 } : api_Vec) } : api_Scope), r1)) ((frame_Check ({ Turn := p3, At := p1 } : api_Frame)).bind fun r3 => (cond (r3 != 0) (some true) ((frame_fine p2 0).bind fun r13 => some (!r13))).bind fun c7 => cond c7 (some (({ Frame := ({ Turn := 0, At := ({ X := 0, Y := 0, Z := 0 } : api_Vec) } : api_Frame), Size := ({ X := 0, Y := 0, Z := 0 } : api_Vec) } : api_Scope), 2)) ((frame_Within ({ Turn := p3, At := p1 } : api_Frame) p0.Frame).bind fun r15 => cond (r15.2 != 0) (some (({ Frame := ({ Turn := 0, At := ({ X := 0, Y := 0, Z := 0 } : api_Vec) } : api_Frame), Size := ({ X := 0, Y := 0, Z := 0 } : api_Vec) } : api_Scope), r15.2)) (some (({ Frame := r15.1, Size := p2 } : api_Scope), 0))))

/-- gambrel/raise.checked -/
noncomputable def raise_checked (p0 : api_Scope) : Option Int :=
  (frame_Inside p0 ({ X := 0, Y := 0, Z := 0 } : api_Vec) ({ X := 0, Y := 0, Z := 0 } : api_Vec) 0).bind fun r1 => cond (r1.2 != 0) (some 8) (some 0)

def enc_api_Scope (x : api_Scope) : List DV := [.int .u8 x.Frame.Turn, .int .i64 x.Frame.At.X, .int .i64 x.Frame.At.Y, .int .i64 x.Frame.At.Z, .int .i64 x.Size.X, .int .i64 x.Size.Y, .int .i64 x.Size.Z]

structure T_struct_3_t_5_0_0_raise where
  t_ : Int
  at_ : api_Vec
  flat_ : api_Vec
  deriving DecidableEq

def enc_T_struct_3_t_5_0_0_raise (x : T_struct_3_t_5_0_0_raise) : List DV := [.int .u8 x.t_, .int .i64 x.at_.X, .int .i64 x.at_.Y, .int .i64 x.at_.Z, .int .i64 x.flat_.X, .int .i64 x.flat_.Y, .int .i64 x.flat_.Z]

/-- gambrel/raise.face -/
noncomputable def raise_face (p0 : api_Vec) (p1 : Int) : Option (Int × api_Vec × api_Vec) :=
  (idxA 6 [({ t_ := 10, at_ := ({ X := p0.X, Y := 0, Z := 0 } : api_Vec), flat_ := ({ X := p0.Y, Y := p0.Z, Z := 0 } : api_Vec) } : T_struct_3_t_5_0_0_raise), ({ t_ := 11, at_ := ({ X := 0, Y := 0, Z := p0.Z } : api_Vec), flat_ := ({ X := p0.Y, Y := p0.Z, Z := 0 } : api_Vec) } : T_struct_3_t_5_0_0_raise), ({ t_ := 3, at_ := ({ X := 0, Y := p0.Y, Z := p0.Z } : api_Vec), flat_ := ({ X := p0.X, Y := p0.Z, Z := 0 } : api_Vec) } : T_struct_3_t_5_0_0_raise), ({ t_ := 2, at_ := ({ X := 0, Y := 0, Z := 0 } : api_Vec), flat_ := ({ X := p0.X, Y := p0.Z, Z := 0 } : api_Vec) } : T_struct_3_t_5_0_0_raise), ({ t_ := 0, at_ := ({ X := 0, Y := 0, Z := p0.Z } : api_Vec), flat_ := ({ X := p0.X, Y := p0.Y, Z := 0 } : api_Vec) } : T_struct_3_t_5_0_0_raise), ({ t_ := 1, at_ := ({ X := 0, Y := p0.Y, Z := 0 } : api_Vec), flat_ := ({ X := p0.X, Y := p0.Y, Z := 0 } : api_Vec) } : T_struct_3_t_5_0_0_raise)] p1).bind fun v1 => (idxA 6 [({ t_ := 10, at_ := ({ X := p0.X, Y := 0, Z := 0 } : api_Vec), flat_ := ({ X := p0.Y, Y := p0.Z, Z := 0 } : api_Vec) } : T_struct_3_t_5_0_0_raise), ({ t_ := 11, at_ := ({ X := 0, Y := 0, Z := p0.Z } : api_Vec), flat_ := ({ X := p0.Y, Y := p0.Z, Z := 0 } : api_Vec) } : T_struct_3_t_5_0_0_raise), ({ t_ := 3, at_ := ({ X := 0, Y := p0.Y, Z := p0.Z } : api_Vec), flat_ := ({ X := p0.X, Y := p0.Z, Z := 0 } : api_Vec) } : T_struct_3_t_5_0_0_raise), ({ t_ := 2, at_ := ({ X := 0, Y := 0, Z := 0 } : api_Vec), flat_ := ({ X := p0.X, Y := p0.Z, Z := 0 } : api_Vec) } : T_struct_3_t_5_0_0_raise), ({ t_ := 0, at_ := ({ X := 0, Y := 0, Z := p0.Z } : api_Vec), flat_ := ({ X := p0.X, Y := p0.Y, Z := 0 } : api_Vec) } : T_struct_3_t_5_0_0_raise), ({ t_ := 1, at_ := ({ X := 0, Y := p0.Y, Z := 0 } : api_Vec), flat_ := ({ X := p0.X, Y := p0.Y, Z := 0 } : api_Vec) } : T_struct_3_t_5_0_0_raise)] p1).bind fun v3 => (idxA 6 [({ t_ := 10, at_ := ({ X := p0.X, Y := 0, Z := 0 } : api_Vec), flat_ := ({ X := p0.Y, Y := p0.Z, Z := 0 } : api_Vec) } : T_struct_3_t_5_0_0_raise), ({ t_ := 11, at_ := ({ X := 0, Y := 0, Z := p0.Z } : api_Vec), flat_ := ({ X := p0.Y, Y := p0.Z, Z := 0 } : api_Vec) } : T_struct_3_t_5_0_0_raise), ({ t_ := 3, at_ := ({ X := 0, Y := p0.Y, Z := p0.Z } : api_Vec), flat_ := ({ X := p0.X, Y := p0.Z, Z := 0 } : api_Vec) } : T_struct_3_t_5_0_0_raise), ({ t_ := 2, at_ := ({ X := 0, Y := 0, Z := 0 } : api_Vec), flat_ := ({ X := p0.X, Y := p0.Z, Z := 0 } : api_Vec) } : T_struct_3_t_5_0_0_raise), ({ t_ := 0, at_ := ({ X := 0, Y := 0, Z := p0.Z } : api_Vec), flat_ := ({ X := p0.X, Y := p0.Y, Z := 0 } : api_Vec) } : T_struct_3_t_5_0_0_raise), ({ t_ := 1, at_ := ({ X := 0, Y := p0.Y, Z := 0 } : api_Vec), flat_ := ({ X := p0.X, Y := p0.Y, Z := 0 } : api_Vec) } : T_struct_3_t_5_0_0_raise)] p1).bind fun v5 => some (v1.t_, v3.at_, v5.flat_)

/-- gambrel/raise.Faces$1 -/
noncomputable def raise_Faces_1_e1 (p0 : Int) (p1 : Int) (p2 : Int) (p3 : Int) (p4 : Int) (p5 : Int) (p6 : Int) (p7 : Int) (p8 : List api_Scope) : Option (Int × Int × Int × Int × Int × Int × Int × Int × List api_Scope) :=
  (raise_face ({ X := p5, Y := p6, Z := p7 } : api_Vec) p0).bind fun r101 => (frame_Inside ({ Frame := ({ Turn := p1, At := ({ X := p2, Y := p3, Z := p4 } : api_Vec) } : api_Frame), Size := ({ X := p5, Y := p6, Z := p7 } : api_Vec) } : api_Scope) r101.2.1 r101.2.2 r101.1).bind fun r103 => (idxA 6 p8 p0).bind fun v105 => some (r103.2, p1, p2, p3, p4, p5, p6, p7, p8.set p0.toNat r103.1)

noncomputable def raise_Faces_L1 (a13 : Int × List api_Scope × Int × Int × Int × Int × Int × Int × Int) : Option ((Int × List api_Scope × Int × Int × Int × Int × Int × Int × Int) ⊕ ((List api_Scope) ⊕ ((api_Scope × api_Scope × api_Scope × api_Scope × api_Scope × api_Scope) × Int))) :=
  cond (decide (a13.1 < 6)) ((raise_Faces_1_e1 a13.1 a13.2.2.1 a13.2.2.2.1 a13.2.2.2.2.1 a13.2.2.2.2.2.1 a13.2.2.2.2.2.2.1 a13.2.2.2.2.2.2.2.1 a13.2.2.2.2.2.2.2.2 a13.2.1).bind fun e19 => cond (e19.1 != 0) (some (.inr (.inr ((({ Frame := ({ Turn := 0, At := ({ X := 0, Y := 0, Z := 0 } : api_Vec) } : api_Frame), Size := ({ X := 0, Y := 0, Z := 0 } : api_Vec) } : api_Scope), ({ Frame := ({ Turn := 0, At := ({ X := 0, Y := 0, Z := 0 } : api_Vec) } : api_Frame), Size := ({ X := 0, Y := 0, Z := 0 } : api_Vec) } : api_Scope), ({ Frame := ({ Turn := 0, At := ({ X := 0, Y := 0, Z := 0 } : api_Vec) } : api_Frame), Size := ({ X := 0, Y := 0, Z := 0 } : api_Vec) } : api_Scope), ({ Frame := ({ Turn := 0, At := ({ X := 0, Y := 0, Z := 0 } : api_Vec) } : api_Frame), Size := ({ X := 0, Y := 0, Z := 0 } : api_Vec) } : api_Scope), ({ Frame := ({ Turn := 0, At := ({ X := 0, Y := 0, Z := 0 } : api_Vec) } : api_Frame), Size := ({ X := 0, Y := 0, Z := 0 } : api_Vec) } : api_Scope), ({ Frame := ({ Turn := 0, At := ({ X := 0, Y := 0, Z := 0 } : api_Vec) } : api_Frame), Size := ({ X := 0, Y := 0, Z := 0 } : api_Vec) } : api_Scope)), e19.1)))) (some (.inl (w64 (a13.1 + 1), e19.2.2.2.2.2.2.2.2, e19.2.1, e19.2.2.1, e19.2.2.2.1, e19.2.2.2.2.1, e19.2.2.2.2.2.1, e19.2.2.2.2.2.2.1, e19.2.2.2.2.2.2.2.1)))) (some (.inr (.inl a13.2.1)))

/-- gambrel/raise.Faces -/
noncomputable def raise_Faces (p0 : api_Scope) : Option ((api_Scope × api_Scope × api_Scope × api_Scope × api_Scope × api_Scope) × Int) :=
  (raise_checked p0).bind fun r1 => cond (r1 != 0) (some ((({ Frame := ({ Turn := 0, At := ({ X := 0, Y := 0, Z := 0 } : api_Vec) } : api_Frame), Size := ({ X := 0, Y := 0, Z := 0 } : api_Vec) } : api_Scope), ({ Frame := ({ Turn := 0, At := ({ X := 0, Y := 0, Z := 0 } : api_Vec) } : api_Frame), Size := ({ X := 0, Y := 0, Z := 0 } : api_Vec) } : api_Scope), ({ Frame := ({ Turn := 0, At := ({ X := 0, Y := 0, Z := 0 } : api_Vec) } : api_Frame), Size := ({ X := 0, Y := 0, Z := 0 } : api_Vec) } : api_Scope), ({ Frame := ({ Turn := 0, At := ({ X := 0, Y := 0, Z := 0 } : api_Vec) } : api_Frame), Size := ({ X := 0, Y := 0, Z := 0 } : api_Vec) } : api_Scope), ({ Frame := ({ Turn := 0, At := ({ X := 0, Y := 0, Z := 0 } : api_Vec) } : api_Frame), Size := ({ X := 0, Y := 0, Z := 0 } : api_Vec) } : api_Scope), ({ Frame := ({ Turn := 0, At := ({ X := 0, Y := 0, Z := 0 } : api_Vec) } : api_Frame), Size := ({ X := 0, Y := 0, Z := 0 } : api_Vec) } : api_Scope)), r1)) ((loop raise_Faces_L1 (0, [({ Frame := ({ Turn := 0, At := ({ X := 0, Y := 0, Z := 0 } : api_Vec) } : api_Frame), Size := ({ X := 0, Y := 0, Z := 0 } : api_Vec) } : api_Scope), ({ Frame := ({ Turn := 0, At := ({ X := 0, Y := 0, Z := 0 } : api_Vec) } : api_Frame), Size := ({ X := 0, Y := 0, Z := 0 } : api_Vec) } : api_Scope), ({ Frame := ({ Turn := 0, At := ({ X := 0, Y := 0, Z := 0 } : api_Vec) } : api_Frame), Size := ({ X := 0, Y := 0, Z := 0 } : api_Vec) } : api_Scope), ({ Frame := ({ Turn := 0, At := ({ X := 0, Y := 0, Z := 0 } : api_Vec) } : api_Frame), Size := ({ X := 0, Y := 0, Z := 0 } : api_Vec) } : api_Scope), ({ Frame := ({ Turn := 0, At := ({ X := 0, Y := 0, Z := 0 } : api_Vec) } : api_Frame), Size := ({ X := 0, Y := 0, Z := 0 } : api_Vec) } : api_Scope), ({ Frame := ({ Turn := 0, At := ({ X := 0, Y := 0, Z := 0 } : api_Vec) } : api_Frame), Size := ({ X := 0, Y := 0, Z := 0 } : api_Vec) } : api_Scope)], p0.Frame.Turn, p0.Frame.At.X, p0.Frame.At.Y, p0.Frame.At.Z, p0.Size.X, p0.Size.Y, p0.Size.Z) : Option ((List api_Scope) ⊕ ((api_Scope × api_Scope × api_Scope × api_Scope × api_Scope × api_Scope) × Int))).bind fun m14 => (match m14 with | .inl b16 => (arr6 b16).bind fun v21 => some (v21, 0) | .inr x1 => some x1))

/-- gambrel/gambrelref16.In -/
noncomputable def r16_In (p0 : api_Vec) (p1 : Int) : Option Bool :=
  (cond (decide (p0.X ≥ p1)) (some (decide (p0.Y ≥ p1))) (some false)).bind fun c1 => (cond c1 (some (decide (p0.Z ≥ p1))) (some false)).bind fun c8 => (cond c8 (some (decide (p0.X ≤ 1000000))) (some false)).bind fun c15 => (cond c15 (some (decide (p0.Y ≤ 1000000))) (some false)).bind fun c21 => (cond c21 (some (decide (p0.Z ≤ 1000000))) (some false)).bind fun c27 => some c27

/-- gambrel/gambrelref16.Check -/
noncomputable def r16_Check (p0 : api_Frame) : Option Int :=
  (cond (decide (p0.Turn ≥ 24)) (some true) ((r16_In p0.At (-1000000)).bind fun r10 => some (!r10))).bind fun c3 => cond c3 (some 8) (some 0)

/-- gambrel/gambrelref16.Scoped -/
noncomputable def r16_Scoped (p0 : api_Scope) : Option Int :=
  (r16_Check p0.Frame).bind fun r1 => (cond (r1 != 0) (some true) ((r16_In p0.Size 0).bind fun r12 => some (!r12))).bind fun c5 => cond c5 (some 8) (some 0)

/-- gambrel/gambrelref16.Direction -/
noncomputable def r16_Direction (p0 : Int) : Option api_Vec :=
  (cond ((Int.tmod p0 2) == 1) (some (-1)) (some 1)).bind fun b3 => cond (decide (p0 < 2)) (some ({ X := b3, Y := 0, Z := 0 } : api_Vec)) (cond (decide (p0 < 4)) (some ({ X := 0, Y := b3, Z := 0 } : api_Vec)) (some ({ X := 0, Y := 0, Z := b3 } : api_Vec)))

/-- gambrel/gambrelref16.Cross -/
noncomputable def r16_Cross (p0 : api_Vec) (p1 : api_Vec) : Option api_Vec :=
  some ({ X := w64 ((w64 (p0.Y * p1.Z)) - (w64 (p0.Z * p1.Y))), Y := w64 ((w64 (p0.Z * p1.X)) - (w64 (p0.X * p1.Z))), Z := w64 ((w64 (p0.X * p1.Y)) - (w64 (p0.Y * p1.X))) } : api_Vec)

/-- gambrel/gambrelref20.axis -/
noncomputable def r20_axis (p0 : api_Vec) : Option (Int × Bool) :=
  cond (p0.X != 0) (some (0, decide (p0.X > 0))) (cond (p0.Y != 0) (some (1, decide (p0.Y > 0))) (some (2, decide (p0.Z > 0))))

/-- gambrel/gambrelref16.Coord -/
noncomputable def r16_Coord (p0 : api_Vec) (p1 : Int) : Option Int :=
  cond (p1 == 0) (some p0.X) (cond (p1 == 1) (some p0.Y) (some p0.Z))

/-- gambrel/gambrelref16.Set -/
noncomputable def r16_Set (p0 : api_Vec) (p1 : Int) (p2 : Int) : Option api_Vec :=
  cond (p1 == 0) (some ({ X := p2, Y := p0.Y, Z := p0.Z } : api_Vec)) (cond (p1 == 1) (some ({ X := p0.X, Y := p2, Z := p0.Z } : api_Vec)) (some ({ X := p0.X, Y := p0.Y, Z := p2 } : api_Vec)))

noncomputable def r16_Images_L1 (p0 : Int) (a10 : Int × List Int) : Option ((Int × List Int) ⊕ (List Int)) :=
  cond (decide (a10.1 < 6)) ((cond ((w64 (Int.tdiv a10.1 2)) != (w64 (Int.tdiv (w64 (Int.tdiv p0 4)) 2))) ((app 8 a10.2 [a10.1]).bind fun z19 => some z19) (some a10.2)).bind fun b18 => some (.inl (w64 (a10.1 + 1), b18))) (some (.inr a10.2))

/-- gambrel/gambrelref16.Images -/
noncomputable def r16_Images (p0 : Int) : Option (api_Vec × api_Vec × api_Vec) :=
  (loop (r16_Images_L1 p0) (0, [])).bind fun b13 => (idx b13 (Int.tmod p0 4)).bind fun v21 => (r16_Direction (w64 (Int.tdiv p0 4))).bind fun r23 => (r16_Direction v21).bind fun r25 => (r16_Direction (w64 (Int.tdiv p0 4))).bind fun r27 => (r16_Direction v21).bind fun r29 => (r16_Cross r27 r29).bind fun r31 => some (r23, r25, r31)

noncomputable def r16_Turned_L1 (p0 : api_Vec × api_Vec × api_Vec) (a11 : Int) : Option ((Int) ⊕ ((Unit) ⊕ (Int))) :=
  cond (decide (a11 < 24)) ((r16_Images a11).bind fun r17 => cond ((r17.1.X == p0.1.X) && ((r17.1.Y == p0.1.Y) && ((r17.1.Z == p0.1.Z) && ((r17.2.1.X == p0.2.1.X) && ((r17.2.1.Y == p0.2.1.Y) && ((r17.2.1.Z == p0.2.1.Z) && ((r17.2.2.X == p0.2.2.X) && ((r17.2.2.Y == p0.2.2.Y) && ((r17.2.2.Z == p0.2.2.Z) && true))))))))) (some (.inr (.inr a11))) (some (.inl (w64 (a11 + 1))))) (some (.inr (.inl ())))

/-- gambrel/gambrelref16.Turned -/
noncomputable def r16_Turned (p0 : api_Vec × api_Vec × api_Vec) : Option Int :=
  (loop (r16_Turned_L1 p0) 0 : Option ((Unit) ⊕ (Int))).bind fun m12 => (match m12 with | .inl b14 => some (-1) | .inr x1 => some x1)

/-- gambrel/gambrelref16.Times -/
noncomputable def r16_Times (p0 : Int) (p1 : api_Vec) : Option api_Vec :=
  some ({ X := w64 (p0 * p1.X), Y := w64 (p0 * p1.Y), Z := w64 (p0 * p1.Z) } : api_Vec)

/-- gambrel/gambrelref16.Plus -/
noncomputable def r16_Plus (p0 : api_Vec) (p1 : api_Vec) : Option api_Vec :=
  some ({ X := w64 (p0.X + p1.X), Y := w64 (p0.Y + p1.Y), Z := w64 (p0.Z + p1.Z) } : api_Vec)

/-- gambrel/gambrelref16.Sum -/
noncomputable def r16_Sum (p0 : api_Vec × api_Vec × api_Vec) (p1 : api_Vec) : Option api_Vec :=
  (r16_Times p1.X p0.1).bind fun r1 => (r16_Times p1.Y p0.2.1).bind fun r3 => (r16_Times p1.Z p0.2.2).bind fun r5 => (r16_Plus r3 r5).bind fun r7 => (r16_Plus r1 r7).bind fun r9 => some r9

/-- gambrel/gambrelref16.Image -/
noncomputable def r16_Image (p0 : api_Frame) (p1 : api_Vec) : Option api_Vec :=
  (r16_Images (w64 p0.Turn)).bind fun r1 => (r16_Sum r1 p1).bind fun r3 => (r16_Plus r3 p0.At).bind fun r5 => some r5

noncomputable def r16_Within_L1 (p1 : api_Frame) (a49 : Int × List api_Vec) : Option ((Int × List api_Vec) ⊕ (List api_Vec)) :=
  cond (decide (a49.1 < 3)) ((r16_Images (w64 p1.Turn)).bind fun r61 => (idxA 3 a49.2 a49.1).bind fun v63 => (r16_Sum r61 v63).bind fun r65 => (idxA 3 a49.2 a49.1).bind fun v67 => some (.inl (w64 (a49.1 + 1), a49.2.set a49.1.toNat r65))) (some (.inr a49.2))

/-- gambrel/gambrelref16.Within -/
noncomputable def r16_Within (p0 : api_Frame) (p1 : api_Frame) : Option (api_Frame × Int) :=
  (r16_Check p0).bind fun r1 => cond (r1 != 0) ((r16_Check p0).bind fun r5 => some (({ Turn := 0, At := ({ X := 0, Y := 0, Z := 0 } : api_Vec) } : api_Frame), r5)) ((r16_Check p1).bind fun r7 => cond (r7 != 0) ((r16_Check p1).bind fun r11 => some (({ Turn := 0, At := ({ X := 0, Y := 0, Z := 0 } : api_Vec) } : api_Frame), r11)) ((r16_Images (w64 p0.Turn)).bind fun r13 => (loop (r16_Within_L1 p1) (0, [r13.1, r13.2.1, r13.2.2])).bind fun b52 => (arr3 b52).bind fun v69 => (r16_Turned v69).bind fun r71 => (r16_Image p1 p0.At).bind fun r73 => (r16_Check ({ Turn := IntKind.wrap .u8 r71, At := r73 } : api_Frame)).bind fun r75 => cond (r75 != 0) (some (({ Turn := 0, At := ({ X := 0, Y := 0, Z := 0 } : api_Vec) } : api_Frame), 16)) (some (({ Turn := IntKind.wrap .u8 r71, At := r73 } : api_Frame), 0))))

/-- gambrel/gambrelref16.Inside -/
noncomputable def r16_Inside (p0 : api_Scope) (p1 : api_Vec) (p2 : api_Vec) (p3 : Int) : Option (api_Scope × Int) :=
  (r16_Scoped p0).bind fun r1 => cond (r1 != 0) ((r16_Scoped p0).bind fun r5 => some (({ Frame := ({ Turn := 0, At := ({ X := 0, Y := 0, Z := 0 } : api_Vec) } : api_Frame), Size := ({ X := 0, Y := 0, Z := 0 } : api_Vec) } : api_Scope), r5)) ((cond (decide (p3 ≥ 24)) (some true) ((r16_In p1 (-1000000)).bind fun r15 => some (!r15))).bind fun c9 => (cond c9 (some true) ((r16_In p2 0).bind fun r25 => some (!r25))).bind fun c19 => cond c19 (some (({ Frame := ({ Turn := 0, At := ({ X := 0, Y := 0, Z := 0 } : api_Vec) } : api_Frame), Size := ({ X := 0, Y := 0, Z := 0 } : api_Vec) } : api_Scope), 2)) ((r16_Within ({ Turn := p3, At := p1 } : api_Frame) p0.Frame).bind fun r27 => cond (r27.2 != 0) (some (({ Frame := ({ Turn := 0, At := ({ X := 0, Y := 0, Z := 0 } : api_Vec) } : api_Frame), Size := ({ X := 0, Y := 0, Z := 0 } : api_Vec) } : api_Scope), r27.2)) (some (({ Frame := r27.1, Size := p2 } : api_Scope), 0))))

noncomputable def r20_Faces_L1 (p0 : api_Scope) (a173 : Int × List api_Scope) : Option ((Int × List api_Scope) ⊕ ((List api_Scope) ⊕ ((api_Scope × api_Scope × api_Scope × api_Scope × api_Scope × api_Scope) × Int))) :=
  cond (decide (a173.1 < 6)) ((r16_Direction 0).bind fun r218 => (cond (decide (a173.1 < 2)) ((r16_Direction 2).bind fun r225 => some (r225.X, r225.Y, r225.Z)) (some (r218.X, r218.Y, r218.Z))).bind fun b224 => (r16_Direction a173.1).bind fun r227 => (r16_Cross r227 ({ X := b224.1, Y := b224.2.1, Z := b224.2.2 } : api_Vec)).bind fun r229 => (r20_axis r227).bind fun r231 => (cond r231.2 ((r16_Coord p0.Size r231.1).bind fun r240 => (r16_Set ({ X := 0, Y := 0, Z := 0 } : api_Vec) r231.1 r240).bind fun r242 => some (r242.X, r242.Y, r242.Z)) (some (0, 0, 0))).bind fun b239 => (r20_axis r229).bind fun r244 => (cond (!r244.2) ((r16_Coord p0.Size r244.1).bind fun r253 => (r16_Set ({ X := b239.1, Y := b239.2.1, Z := b239.2.2 } : api_Vec) r244.1 r253).bind fun r255 => some (r255.X, r255.Y, r255.Z)) (some (b239.1, b239.2.1, b239.2.2))).bind fun b252 => (r20_axis ({ X := b224.1, Y := b224.2.1, Z := b224.2.2 } : api_Vec)).bind fun r257 => (r16_Coord p0.Size r257.1).bind fun r259 => (r16_Coord p0.Size r244.1).bind fun r261 => (r16_Turned (({ X := b224.1, Y := b224.2.1, Z := b224.2.2 } : api_Vec), r229, r227)).bind fun r263 => (r16_Inside p0 ({ X := b252.1, Y := b252.2.1, Z := b252.2.2 } : api_Vec) ({ X := r259, Y := r261, Z := 0 } : api_Vec) (IntKind.wrap .u8 r263)).bind fun r265 => cond (r265.2 != 0) (some (.inr (.inr ((({ Frame := ({ Turn := 0, At := ({ X := 0, Y := 0, Z := 0 } : api_Vec) } : api_Frame), Size := ({ X := 0, Y := 0, Z := 0 } : api_Vec) } : api_Scope), ({ Frame := ({ Turn := 0, At := ({ X := 0, Y := 0, Z := 0 } : api_Vec) } : api_Frame), Size := ({ X := 0, Y := 0, Z := 0 } : api_Vec) } : api_Scope), ({ Frame := ({ Turn := 0, At := ({ X := 0, Y := 0, Z := 0 } : api_Vec) } : api_Frame), Size := ({ X := 0, Y := 0, Z := 0 } : api_Vec) } : api_Scope), ({ Frame := ({ Turn := 0, At := ({ X := 0, Y := 0, Z := 0 } : api_Vec) } : api_Frame), Size := ({ X := 0, Y := 0, Z := 0 } : api_Vec) } : api_Scope), ({ Frame := ({ Turn := 0, At := ({ X := 0, Y := 0, Z := 0 } : api_Vec) } : api_Frame), Size := ({ X := 0, Y := 0, Z := 0 } : api_Vec) } : api_Scope), ({ Frame := ({ Turn := 0, At := ({ X := 0, Y := 0, Z := 0 } : api_Vec) } : api_Frame), Size := ({ X := 0, Y := 0, Z := 0 } : api_Vec) } : api_Scope)), r265.2)))) ((idxA 6 a173.2 a173.1).bind fun v267 => some (.inl (w64 (a173.1 + 1), a173.2.set a173.1.toNat r265.1)))) (some (.inr (.inl a173.2)))

/-- gambrel/gambrelref20.Faces -/
noncomputable def r20_Faces (p0 : api_Scope) : Option ((api_Scope × api_Scope × api_Scope × api_Scope × api_Scope × api_Scope) × Int) :=
  (r16_Scoped p0).bind fun r1 => cond (r1 != 0) (some ((({ Frame := ({ Turn := 0, At := ({ X := 0, Y := 0, Z := 0 } : api_Vec) } : api_Frame), Size := ({ X := 0, Y := 0, Z := 0 } : api_Vec) } : api_Scope), ({ Frame := ({ Turn := 0, At := ({ X := 0, Y := 0, Z := 0 } : api_Vec) } : api_Frame), Size := ({ X := 0, Y := 0, Z := 0 } : api_Vec) } : api_Scope), ({ Frame := ({ Turn := 0, At := ({ X := 0, Y := 0, Z := 0 } : api_Vec) } : api_Frame), Size := ({ X := 0, Y := 0, Z := 0 } : api_Vec) } : api_Scope), ({ Frame := ({ Turn := 0, At := ({ X := 0, Y := 0, Z := 0 } : api_Vec) } : api_Frame), Size := ({ X := 0, Y := 0, Z := 0 } : api_Vec) } : api_Scope), ({ Frame := ({ Turn := 0, At := ({ X := 0, Y := 0, Z := 0 } : api_Vec) } : api_Frame), Size := ({ X := 0, Y := 0, Z := 0 } : api_Vec) } : api_Scope), ({ Frame := ({ Turn := 0, At := ({ X := 0, Y := 0, Z := 0 } : api_Vec) } : api_Frame), Size := ({ X := 0, Y := 0, Z := 0 } : api_Vec) } : api_Scope)), 8)) ((loop (r20_Faces_L1 p0) (0, [({ Frame := ({ Turn := 0, At := ({ X := 0, Y := 0, Z := 0 } : api_Vec) } : api_Frame), Size := ({ X := 0, Y := 0, Z := 0 } : api_Vec) } : api_Scope), ({ Frame := ({ Turn := 0, At := ({ X := 0, Y := 0, Z := 0 } : api_Vec) } : api_Frame), Size := ({ X := 0, Y := 0, Z := 0 } : api_Vec) } : api_Scope), ({ Frame := ({ Turn := 0, At := ({ X := 0, Y := 0, Z := 0 } : api_Vec) } : api_Frame), Size := ({ X := 0, Y := 0, Z := 0 } : api_Vec) } : api_Scope), ({ Frame := ({ Turn := 0, At := ({ X := 0, Y := 0, Z := 0 } : api_Vec) } : api_Frame), Size := ({ X := 0, Y := 0, Z := 0 } : api_Vec) } : api_Scope), ({ Frame := ({ Turn := 0, At := ({ X := 0, Y := 0, Z := 0 } : api_Vec) } : api_Frame), Size := ({ X := 0, Y := 0, Z := 0 } : api_Vec) } : api_Scope), ({ Frame := ({ Turn := 0, At := ({ X := 0, Y := 0, Z := 0 } : api_Vec) } : api_Frame), Size := ({ X := 0, Y := 0, Z := 0 } : api_Vec) } : api_Scope)]) : Option ((List api_Scope) ⊕ ((api_Scope × api_Scope × api_Scope × api_Scope × api_Scope × api_Scope) × Int))).bind fun m174 => (match m174 with | .inl b176 => (arr6 b176).bind fun v269 => some (v269, 0) | .inr x1 => some x1))

/-- gambrel/raise.Raise -/
noncomputable def raise_Raise (p0 : api_Scope) (p1 : Int) : Option (api_Scope × Int) :=
  (raise_checked p0).bind fun r1 => cond (r1 != 0) (some (({ Frame := ({ Turn := 0, At := ({ X := 0, Y := 0, Z := 0 } : api_Vec) } : api_Frame), Size := ({ X := 0, Y := 0, Z := 0 } : api_Vec) } : api_Scope), r1)) ((cond (decide (p1 < 0)) (some true) (some (decide (p1 > 1000000)))).bind fun c3 => cond c3 (some (({ Frame := ({ Turn := 0, At := ({ X := 0, Y := 0, Z := 0 } : api_Vec) } : api_Frame), Size := ({ X := 0, Y := 0, Z := 0 } : api_Vec) } : api_Scope), 2)) (some (({ Frame := p0.Frame, Size := ({ X := p0.Size.X, Y := p0.Size.Y, Z := p1 } : api_Vec) } : api_Scope), 0)))

/-- gambrel/gambrelref20.Raise -/
noncomputable def r20_Raise (p0 : api_Scope) (p1 : Int) : Option (api_Scope × Int) :=
  (r16_Scoped p0).bind fun r1 => cond (r1 != 0) (some (({ Frame := ({ Turn := 0, At := ({ X := 0, Y := 0, Z := 0 } : api_Vec) } : api_Frame), Size := ({ X := 0, Y := 0, Z := 0 } : api_Vec) } : api_Scope), 8)) ((cond (decide (p1 < 0)) (some true) (some (decide (p1 > 1000000)))).bind fun c3 => cond c3 (some (({ Frame := ({ Turn := 0, At := ({ X := 0, Y := 0, Z := 0 } : api_Vec) } : api_Frame), Size := ({ X := 0, Y := 0, Z := 0 } : api_Vec) } : api_Scope), 2)) (some (({ Frame := p0.Frame, Size := ({ X := p0.Size.X, Y := p0.Size.Y, Z := p1 } : api_Vec) } : api_Scope), 0)))

/-- gambrel/raise.Inset -/
noncomputable def raise_Inset (p0 : api_Scope) (p1 : Int) : Option (api_Scope × Int) :=
  (raise_checked p0).bind fun r1 => cond (r1 != 0) (some (({ Frame := ({ Turn := 0, At := ({ X := 0, Y := 0, Z := 0 } : api_Vec) } : api_Frame), Size := ({ X := 0, Y := 0, Z := 0 } : api_Vec) } : api_Scope), r1)) ((cond (decide (p1 < 0)) (some true) (some (decide (p1 > 1000000)))).bind fun c3 => cond c3 (some (({ Frame := ({ Turn := 0, At := ({ X := 0, Y := 0, Z := 0 } : api_Vec) } : api_Frame), Size := ({ X := 0, Y := 0, Z := 0 } : api_Vec) } : api_Scope), 2)) (cond (decide ((min (w64 (p0.Size.X - (w64 (2 * p1)))) (w64 (p0.Size.Y - (w64 (2 * p1))))) < 0)) (some (({ Frame := ({ Turn := 0, At := ({ X := 0, Y := 0, Z := 0 } : api_Vec) } : api_Frame), Size := ({ X := 0, Y := 0, Z := 0 } : api_Vec) } : api_Scope), 16)) ((frame_Inside p0 ({ X := p1, Y := p1, Z := 0 } : api_Vec) ({ X := w64 (p0.Size.X - (w64 (2 * p1))), Y := w64 (p0.Size.Y - (w64 (2 * p1))), Z := p0.Size.Z } : api_Vec) 0).bind fun r8 => some (r8.1, r8.2))))

/-- gambrel/gambrelref20.Inset -/
noncomputable def r20_Inset (p0 : api_Scope) (p1 : Int) : Option (api_Scope × Int) :=
  (r16_Scoped p0).bind fun r1 => cond (r1 != 0) (some (({ Frame := ({ Turn := 0, At := ({ X := 0, Y := 0, Z := 0 } : api_Vec) } : api_Frame), Size := ({ X := 0, Y := 0, Z := 0 } : api_Vec) } : api_Scope), 8)) ((cond (decide (p1 < 0)) (some true) (some (decide (p1 > 1000000)))).bind fun c3 => cond c3 (some (({ Frame := ({ Turn := 0, At := ({ X := 0, Y := 0, Z := 0 } : api_Vec) } : api_Frame), Size := ({ X := 0, Y := 0, Z := 0 } : api_Vec) } : api_Scope), 2)) ((cond (decide (p0.Size.X < (w64 (2 * p1)))) (some true) (some (decide (p0.Size.Y < (w64 (2 * p1)))))).bind fun c8 => cond c8 (some (({ Frame := ({ Turn := 0, At := ({ X := 0, Y := 0, Z := 0 } : api_Vec) } : api_Frame), Size := ({ X := 0, Y := 0, Z := 0 } : api_Vec) } : api_Scope), 16)) ((r16_Inside p0 ({ X := p1, Y := p1, Z := 0 } : api_Vec) ({ X := w64 (p0.Size.X - (w64 (2 * p1))), Y := w64 (p0.Size.Y - (w64 (2 * p1))), Z := p0.Size.Z } : api_Vec) 0).bind fun r17 => some (r17.1, r17.2))))

/-- gambrel/gambrellaw20.RaiseFaces -/
noncomputable def l20_RaiseFaces (p0 : api_Scope) (p1 : Int) : Option Bool :=
  (raise_Faces p0).bind fun r1 => (r20_Faces p0).bind fun r3 => (raise_Raise p0 p1).bind fun r5 => (r20_Raise p0 p1).bind fun r7 => (raise_Inset p0 p1).bind fun r9 => (r20_Inset p0 p1).bind fun r11 => (cond ((r1.1.1.Frame.Turn == r3.1.1.Frame.Turn) && ((r1.1.1.Frame.At.X == r3.1.1.Frame.At.X) && ((r1.1.1.Frame.At.Y == r3.1.1.Frame.At.Y) && ((r1.1.1.Frame.At.Z == r3.1.1.Frame.At.Z) && ((r1.1.1.Size.X == r3.1.1.Size.X) && ((r1.1.1.Size.Y == r3.1.1.Size.Y) && ((r1.1.1.Size.Z == r3.1.1.Size.Z) && ((r1.1.2.1.Frame.Turn == r3.1.2.1.Frame.Turn) && ((r1.1.2.1.Frame.At.X == r3.1.2.1.Frame.At.X) && ((r1.1.2.1.Frame.At.Y == r3.1.2.1.Frame.At.Y) && ((r1.1.2.1.Frame.At.Z == r3.1.2.1.Frame.At.Z) && ((r1.1.2.1.Size.X == r3.1.2.1.Size.X) && ((r1.1.2.1.Size.Y == r3.1.2.1.Size.Y) && ((r1.1.2.1.Size.Z == r3.1.2.1.Size.Z) && ((r1.1.2.2.1.Frame.Turn == r3.1.2.2.1.Frame.Turn) && ((r1.1.2.2.1.Frame.At.X == r3.1.2.2.1.Frame.At.X) && ((r1.1.2.2.1.Frame.At.Y == r3.1.2.2.1.Frame.At.Y) && ((r1.1.2.2.1.Frame.At.Z == r3.1.2.2.1.Frame.At.Z) && ((r1.1.2.2.1.Size.X == r3.1.2.2.1.Size.X) && ((r1.1.2.2.1.Size.Y == r3.1.2.2.1.Size.Y) && ((r1.1.2.2.1.Size.Z == r3.1.2.2.1.Size.Z) && ((r1.1.2.2.2.1.Frame.Turn == r3.1.2.2.2.1.Frame.Turn) && ((r1.1.2.2.2.1.Frame.At.X == r3.1.2.2.2.1.Frame.At.X) && ((r1.1.2.2.2.1.Frame.At.Y == r3.1.2.2.2.1.Frame.At.Y) && ((r1.1.2.2.2.1.Frame.At.Z == r3.1.2.2.2.1.Frame.At.Z) && ((r1.1.2.2.2.1.Size.X == r3.1.2.2.2.1.Size.X) && ((r1.1.2.2.2.1.Size.Y == r3.1.2.2.2.1.Size.Y) && ((r1.1.2.2.2.1.Size.Z == r3.1.2.2.2.1.Size.Z) && ((r1.1.2.2.2.2.1.Frame.Turn == r3.1.2.2.2.2.1.Frame.Turn) && ((r1.1.2.2.2.2.1.Frame.At.X == r3.1.2.2.2.2.1.Frame.At.X) && ((r1.1.2.2.2.2.1.Frame.At.Y == r3.1.2.2.2.2.1.Frame.At.Y) && ((r1.1.2.2.2.2.1.Frame.At.Z == r3.1.2.2.2.2.1.Frame.At.Z) && ((r1.1.2.2.2.2.1.Size.X == r3.1.2.2.2.2.1.Size.X) && ((r1.1.2.2.2.2.1.Size.Y == r3.1.2.2.2.2.1.Size.Y) && ((r1.1.2.2.2.2.1.Size.Z == r3.1.2.2.2.2.1.Size.Z) && ((r1.1.2.2.2.2.2.Frame.Turn == r3.1.2.2.2.2.2.Frame.Turn) && ((r1.1.2.2.2.2.2.Frame.At.X == r3.1.2.2.2.2.2.Frame.At.X) && ((r1.1.2.2.2.2.2.Frame.At.Y == r3.1.2.2.2.2.2.Frame.At.Y) && ((r1.1.2.2.2.2.2.Frame.At.Z == r3.1.2.2.2.2.2.Frame.At.Z) && ((r1.1.2.2.2.2.2.Size.X == r3.1.2.2.2.2.2.Size.X) && ((r1.1.2.2.2.2.2.Size.Y == r3.1.2.2.2.2.2.Size.Y) && ((r1.1.2.2.2.2.2.Size.Z == r3.1.2.2.2.2.2.Size.Z) && true)))))))))))))))))))))))))))))))))))))))))) (some (r1.2 == r3.2)) (some false)).bind fun c13 => (cond c13 (some ((r5.1.Frame.Turn == r7.1.Frame.Turn) && ((r5.1.Frame.At.X == r7.1.Frame.At.X) && ((r5.1.Frame.At.Y == r7.1.Frame.At.Y) && ((r5.1.Frame.At.Z == r7.1.Frame.At.Z) && ((r5.1.Size.X == r7.1.Size.X) && ((r5.1.Size.Y == r7.1.Size.Y) && ((r5.1.Size.Z == r7.1.Size.Z) && true)))))))) (some false)).bind fun c19 => (cond c19 (some (r5.2 == r7.2)) (some false)).bind fun c25 => (cond c25 (some ((r9.1.Frame.Turn == r11.1.Frame.Turn) && ((r9.1.Frame.At.X == r11.1.Frame.At.X) && ((r9.1.Frame.At.Y == r11.1.Frame.At.Y) && ((r9.1.Frame.At.Z == r11.1.Frame.At.Z) && ((r9.1.Size.X == r11.1.Size.X) && ((r9.1.Size.Y == r11.1.Size.Y) && ((r9.1.Size.Z == r11.1.Size.Z) && true)))))))) (some false)).bind fun c31 => (cond c31 (some (r9.2 == r11.2)) (some false)).bind fun c37 => some c37
end Go.Sh
