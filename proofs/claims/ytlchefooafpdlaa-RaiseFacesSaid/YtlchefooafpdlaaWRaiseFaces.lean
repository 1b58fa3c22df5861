/- THE WALKS, lifted by program. -/
import Derived.Test.YtlchefooafpdlaaPraise
import Derived.Test.YtlchefooafpdlaaTabraise
namespace Go.Proofs.Ytlchefooafpdlaa
open Go Go.Am Go.Sh
set_option maxRecDepth 100000 in
set_option maxHeartbeats 8000000 in
theorem frame_fine_ok (p0 : api_Vec) (p1 : Int) (r : Bool) (h0 : frame_fine p0 p1 = some r) : Pure Try.prog tab 41 [.agg [.int .i64 p0.X, .int .i64 p0.Y, .int .i64 p0.Z], .int .i64 p1] (.bool r) := by
  unfold frame_fine at h0
  refine pure_of_run Try.func41 rfl (by kernel_rfl) (by kernel_rfl) rfl ?_
  refine rk_seq ?_
  refine rk_region ?_
  refine ok_new (.ref 0 3 0 0) (.dat 3 [[.int .i64 p0.X, .int .i64 p0.Y, .int .i64 p0.Z]]) rfl rfl ?_
  refine ok_as rfl rfl ?_
  refine ok_nil ?_
  refine rk_seq ?_
  refine rk_region ?_
  refine ok_v (.ref 0 3 0 0) rfl rfl ?_
  refine ok_v (.d (.int .i64 p0.X)) rfl rfl ?_
  refine ok_v (.ref 0 3 0 1) rfl rfl ?_
  refine ok_v (.d (.int .i64 p0.Y)) rfl rfl ?_
  refine ok_v (.ref 0 3 0 2) rfl rfl ?_
  refine ok_v (.d (.int .i64 p0.Z)) rfl rfl ?_
  refine ok_min (r := min (min p0.X p0.Y) p0.Z) rfl rfl (by simp only [minI_min]; rfl) ?_
  refine ok_mv rfl rfl ?_
  refine ok_v (.d (.bool (decide ((min (min p0.X p0.Y) p0.Z) ≥ p1)))) rfl rfl ?_
  obtain ⟨c1, h2, h0⟩ := bindE h0
  refine ok_cutQ 10 (fun A st => ∃ (j3 j4 j5 j6 j7 j8 j9 j10 j11 : V), st = A [(23, .d (.bool c1)), (22, j11), (21, j10), (20, j9), (19, j8), (18, j7), (17, j6), (16, j5), (15, j4), (14, j3)]) ?_ ?_
  · refine ok_mvB rfl rfl h2 (fun h2 => ?_) (fun h2 => ?_)
    · refine ok_v (.ref 0 3 0 0) rfl rfl ?_
      refine ok_v (.d (.int .i64 p0.X)) rfl rfl ?_
      refine ok_v (.ref 0 3 0 1) rfl rfl ?_
      refine ok_v (.d (.int .i64 p0.Y)) rfl rfl ?_
      refine ok_v (.ref 0 3 0 2) rfl rfl ?_
      refine ok_v (.d (.int .i64 p0.Z)) rfl rfl ?_
      refine ok_max (r := max (max p0.X p0.Y) p0.Z) rfl rfl (by simp only [minI_max]; rfl) ?_
      refine ok_v (.d (.bool (decide ((max (max p0.X p0.Y) p0.Z) ≤ 1000000)))) rfl rfl ?_
      refine ok_v (.d (.bool (decide ((max (max p0.X p0.Y) p0.Z) ≤ 1000000)))) rfl rfl ?_
      refine ok_nil ?_
      obtain rfl := someE h2
      exact ⟨_, _, _, _, _, _, _, _, _, rfl⟩
    · refine ok_sg rfl ?_
      refine ok_sg rfl ?_
      refine ok_sg rfl ?_
      refine ok_sg rfl ?_
      refine ok_sg rfl ?_
      refine ok_sg rfl ?_
      refine ok_sg rfl ?_
      refine ok_sg rfl ?_
      refine ok_v (.d (.bool false)) rfl rfl ?_
      refine ok_nil ?_
      obtain rfl := someE h2
      exact ⟨_, _, _, _, _, _, _, _, _, rfl⟩
  · rintro _ ⟨j3, j4, j5, j6, j7, j8, j9, j10, j11, rfl⟩
    refine ok_as rfl rfl ?_
    refine ok_nil ?_
    refine rk_ret ?_
    obtain rfl := someE h0
    exact finD (.inr rfl) (v := .d (.bool c1)) rfl rfl (.refl _)

set_option maxRecDepth 100000 in
set_option maxHeartbeats 8000000 in
theorem frame_Check_ok (p0 : api_Frame) (r : Int) (h0 : frame_Check p0 = some r) : Pure Try.prog tab 40 [.agg [.int .u8 p0.Turn, .int .i64 p0.At.X, .int .i64 p0.At.Y, .int .i64 p0.At.Z]] (.int .i64 r) := by
  unfold frame_Check at h0
  refine pure_of_run Try.func40 rfl (by kernel_rfl) (by kernel_rfl) rfl ?_
  refine rk_seq ?_
  refine rk_region ?_
  refine ok_new (.ref 0 4 0 0) (.dat 4 [[.int .u8 p0.Turn, .int .i64 p0.At.X, .int .i64 p0.At.Y, .int .i64 p0.At.Z]]) rfl rfl ?_
  refine ok_as rfl rfl ?_
  refine ok_nil ?_
  refine rk_seq ?_
  refine rk_seq ?_
  refine rk_region ?_
  refine ok_v (.ref 0 4 0 0) rfl rfl ?_
  refine ok_v (.d (.int .u8 p0.Turn)) rfl rfl ?_
  refine ok_v (.d (.bool (decide (p0.Turn ≥ 24)))) rfl rfl ?_
  obtain ⟨c3, h4, h0⟩ := bindE h0
  refine ok_cutQ 6 (fun A st => ∃ (j5 j6 j7 j8 j9 : V), st = A [(11, .d (.bool c3)), (10, j9), (9, j8), (8, j7), (7, j6), (6, j5)]) ?_ ?_
  · refine ok_mvB rfl rfl h4 (fun h4 => ?_) (fun h4 => ?_)
    · refine ok_sg rfl ?_
      refine ok_sg rfl ?_
      refine ok_sg rfl ?_
      refine ok_sg rfl ?_
      refine ok_v (.d (.bool true)) rfl rfl ?_
      refine ok_nil ?_
      obtain rfl := someE h4
      exact ⟨_, _, _, _, _, rfl⟩
    · refine ok_v (.ref 0 4 0 1) rfl rfl ?_
      refine ok_v (.d (.agg [.int .i64 p0.At.X, .int .i64 p0.At.Y, .int .i64 p0.At.Z])) rfl rfl ?_
      obtain ⟨r10, h11, h4⟩ := bindE h4
      refine ok_pc [.d (.agg [.int .i64 p0.At.X, .int .i64 p0.At.Y, .int .i64 p0.At.Z]), .d (.int .i64 (-1000000))] (frame_fine_ok p0.At (-1000000) r10 h11) rfl rfl rfl (.inl rfl) ?_
      refine ok_v (.d (.bool (!r10))) rfl rfl ?_
      refine ok_v (.d (.bool (!r10))) rfl rfl ?_
      refine ok_nil ?_
      obtain rfl := someE h4
      exact ⟨_, _, _, _, _, rfl⟩
  · rintro _ ⟨j5, j6, j7, j8, j9, rfl⟩
    refine ok_nil ?_
    refine rk_condH rfl h0 (fun _ h0 => ?_) (fun _ h0 => ?_)
    · refine rk_seq ?_
      refine rk_region ?_
      refine ok_as rfl rfl ?_
      refine ok_nil ?_
      refine rk_ret ?_
      obtain rfl := someE h0
      exact finD (.inr rfl) (v := .d (.int .i64 8)) rfl rfl (.refl _)
    · refine rk_skip ?_
      refine rk_seq ?_
      refine rk_region ?_
      refine ok_as rfl rfl ?_
      refine ok_nil ?_
      refine rk_ret ?_
      obtain rfl := someE h0
      exact finD (.inr rfl) (v := .d (.int .i64 0)) rfl rfl (.refl _)

set_option maxRecDepth 100000 in
set_option maxHeartbeats 8000000 in
theorem frame_checked_ok (p0 : api_Scope) (r : Int) (h0 : frame_checked p0 = some r) : Pure Try.prog tab 39 [.agg [.int .u8 p0.Frame.Turn, .int .i64 p0.Frame.At.X, .int .i64 p0.Frame.At.Y, .int .i64 p0.Frame.At.Z, .int .i64 p0.Size.X, .int .i64 p0.Size.Y, .int .i64 p0.Size.Z]] (.int .i64 r) := by
  unfold frame_checked at h0
  refine pure_of_run Try.func39 rfl (by kernel_rfl) (by kernel_rfl) rfl ?_
  refine rk_seq ?_
  refine rk_region ?_
  refine ok_new (.ref 0 7 0 0) (.dat 7 [[.int .u8 p0.Frame.Turn, .int .i64 p0.Frame.At.X, .int .i64 p0.Frame.At.Y, .int .i64 p0.Frame.At.Z, .int .i64 p0.Size.X, .int .i64 p0.Size.Y, .int .i64 p0.Size.Z]]) rfl rfl ?_
  refine ok_as rfl rfl ?_
  refine ok_nil ?_
  refine rk_seq ?_
  refine rk_seq ?_
  refine rk_region ?_
  refine ok_v (.ref 0 7 0 0) rfl rfl ?_
  refine ok_v (.d (.agg [.int .u8 p0.Frame.Turn, .int .i64 p0.Frame.At.X, .int .i64 p0.Frame.At.Y, .int .i64 p0.Frame.At.Z])) rfl rfl ?_
  obtain ⟨r1, h2, h0⟩ := bindE h0
  refine ok_pc [.d (.agg [.int .u8 p0.Frame.Turn, .int .i64 p0.Frame.At.X, .int .i64 p0.Frame.At.Y, .int .i64 p0.Frame.At.Z])] (frame_Check_ok p0.Frame r1 h2) rfl rfl rfl (.inl rfl) ?_
  refine ok_v (.d (.bool (r1 != 0))) rfl rfl ?_
  obtain ⟨c5, h6, h0⟩ := bindE h0
  refine ok_cutQ 6 (fun A st => ∃ (j7 j8 j9 j10 j11 : V), st = A [(12, .d (.bool c5)), (11, j11), (10, j10), (9, j9), (8, j8), (7, j7)]) ?_ ?_
  · refine ok_mvB rfl rfl h6 (fun h6 => ?_) (fun h6 => ?_)
    · refine ok_sg rfl ?_
      refine ok_sg rfl ?_
      refine ok_sg rfl ?_
      refine ok_sg rfl ?_
      refine ok_v (.d (.bool true)) rfl rfl ?_
      refine ok_nil ?_
      obtain rfl := someE h6
      exact ⟨_, _, _, _, _, rfl⟩
    · refine ok_v (.ref 0 7 0 4) rfl rfl ?_
      refine ok_v (.d (.agg [.int .i64 p0.Size.X, .int .i64 p0.Size.Y, .int .i64 p0.Size.Z])) rfl rfl ?_
      obtain ⟨r12, h13, h6⟩ := bindE h6
      refine ok_pc [.d (.agg [.int .i64 p0.Size.X, .int .i64 p0.Size.Y, .int .i64 p0.Size.Z]), .d (.int .i64 0)] (frame_fine_ok p0.Size 0 r12 h13) rfl rfl rfl (.inl rfl) ?_
      refine ok_v (.d (.bool (!r12))) rfl rfl ?_
      refine ok_v (.d (.bool (!r12))) rfl rfl ?_
      refine ok_nil ?_
      obtain rfl := someE h6
      exact ⟨_, _, _, _, _, rfl⟩
  · rintro _ ⟨j7, j8, j9, j10, j11, rfl⟩
    refine ok_nil ?_
    refine rk_condH rfl h0 (fun _ h0 => ?_) (fun _ h0 => ?_)
    · refine rk_seq ?_
      refine rk_region ?_
      refine ok_as rfl rfl ?_
      refine ok_nil ?_
      refine rk_ret ?_
      obtain rfl := someE h0
      exact finD (.inr rfl) (v := .d (.int .i64 8)) rfl rfl (.refl _)
    · refine rk_skip ?_
      refine rk_seq ?_
      refine rk_region ?_
      refine ok_as rfl rfl ?_
      refine ok_nil ?_
      refine rk_ret ?_
      obtain rfl := someE h0
      exact finD (.inr rfl) (v := .d (.int .i64 0)) rfl rfl (.refl _)

set_option maxRecDepth 100000 in
set_option maxHeartbeats 8000000 in
theorem frame_direction_ok (p0 : Int) (r : api_Vec) (h0 : frame_direction p0 = some r) : Pure Try.prog tab 90 [.int .u8 p0] (.agg [.int .i64 r.X, .int .i64 r.Y, .int .i64 r.Z]) := by
  unfold frame_direction at h0
  refine pure_of_run Try.func90 rfl (by kernel_rfl) (by kernel_rfl) rfl ?_
  refine rk_seq ?_
  refine rk_region ?_
  refine ok_alloc rfl rfl ?_
  refine ok_nil ?_
  refine rk_seq ?_
  refine rk_region ?_
  refine ok_mv rfl rfl ?_
  refine ok_v (.d (.int .u8 (Int.tmod p0 2))) rfl rfl ?_
  refine ok_v (.d (.int .i64 (w64 (Int.tmod p0 2)))) rfl rfl ?_
  refine ok_v (.d (.int .i64 (w64 (2 * (w64 (Int.tmod p0 2)))))) rfl rfl ?_
  refine ok_v (.d (.int .i64 (w64 (1 - (w64 (2 * (w64 (Int.tmod p0 2)))))))) rfl rfl ?_
  refine ok_as rfl rfl ?_
  refine ok_nil ?_
  refine rk_seq ?_
  refine rk_seq ?_
  refine rk_region ?_
  refine ok_mv rfl rfl ?_
  refine ok_v (.d (.int .u8 (IntKind.wrap .u8 (Int.tdiv p0 2)))) rfl rfl ?_
  refine ok_nil ?_
  refine rk_block ?_
  refine rk_seq ?_
  refine rk_region ?_
  refine ok_v (.d (.bool ((IntKind.wrap .u8 (Int.tdiv p0 2)) == 0))) rfl rfl ?_
  refine ok_as rfl rfl ?_
  refine ok_nil ?_
  refine rk_condH rfl h0 (fun _ h0 => ?_) (fun _ h0 => ?_)
  · refine rk_seq ?_
    refine rk_region ?_
    refine ok_mv rfl rfl ?_
    refine ok_v (.d (.agg [.int .i64 (w64 (1 - (w64 (2 * (w64 (Int.tmod p0 2)))))), .int .i64 0, .int .i64 0])) rfl rfl ?_
    refine ok_sto 0 (.dat 3 [[.int .i64 (w64 (1 - (w64 (2 * (w64 (Int.tmod p0 2)))))), .int .i64 0, .int .i64 0]]) rfl rfl ?_
    refine ok_nil ?_
    refine rk_ret ?_
    obtain rfl := someE h0
    exact finD (.inr rfl) (v := .d (.agg [.int .i64 (w64 (1 - (w64 (2 * (w64 (Int.tmod p0 2)))))), .int .i64 0, .int .i64 0])) rfl rfl (.refl _)
  · refine rk_seq ?_
    refine rk_region ?_
    refine ok_v (.d (.bool ((IntKind.wrap .u8 (Int.tdiv p0 2)) == 1))) rfl rfl ?_
    refine ok_as rfl rfl ?_
    refine ok_nil ?_
    refine rk_condH rfl h0 (fun _ h0 => ?_) (fun _ h0 => ?_)
    · refine rk_seq ?_
      refine rk_region ?_
      refine ok_mv rfl rfl ?_
      refine ok_v (.d (.agg [.int .i64 0, .int .i64 (w64 (1 - (w64 (2 * (w64 (Int.tmod p0 2)))))), .int .i64 0])) rfl rfl ?_
      refine ok_sto 0 (.dat 3 [[.int .i64 0, .int .i64 (w64 (1 - (w64 (2 * (w64 (Int.tmod p0 2)))))), .int .i64 0]]) rfl rfl ?_
      refine ok_nil ?_
      refine rk_ret ?_
      obtain rfl := someE h0
      exact finD (.inr rfl) (v := .d (.agg [.int .i64 0, .int .i64 (w64 (1 - (w64 (2 * (w64 (Int.tmod p0 2)))))), .int .i64 0])) rfl rfl (.refl _)
    · refine rk_skip ?_
      refine rk_nil ?_
      refine blk_nor ?_
      refine rk_seq ?_
      refine rk_region ?_
      refine ok_mv rfl rfl ?_
      refine ok_v (.d (.agg [.int .i64 0, .int .i64 0, .int .i64 (w64 (1 - (w64 (2 * (w64 (Int.tmod p0 2))))))])) rfl rfl ?_
      refine ok_sto 0 (.dat 3 [[.int .i64 0, .int .i64 0, .int .i64 (w64 (1 - (w64 (2 * (w64 (Int.tmod p0 2))))))]]) rfl rfl ?_
      refine ok_nil ?_
      refine rk_ret ?_
      obtain rfl := someE h0
      exact finD (.inr rfl) (v := .d (.agg [.int .i64 0, .int .i64 0, .int .i64 (w64 (1 - (w64 (2 * (w64 (Int.tmod p0 2))))))])) rfl rfl (.refl _)

set_option maxRecDepth 100000 in
set_option maxHeartbeats 8000000 in
theorem frame_cross_ok (p0 : api_Vec) (p1 : api_Vec) (r : api_Vec) (h0 : frame_cross p0 p1 = some r) : Pure Try.prog tab 91 [.agg [.int .i64 p0.X, .int .i64 p0.Y, .int .i64 p0.Z], .agg [.int .i64 p1.X, .int .i64 p1.Y, .int .i64 p1.Z]] (.agg [.int .i64 r.X, .int .i64 r.Y, .int .i64 r.Z]) := by
  unfold frame_cross at h0
  refine pure_of_run Try.func91 rfl (by kernel_rfl) (by kernel_rfl) rfl ?_
  refine rk_seq ?_
  refine rk_region ?_
  refine ok_new (.ref 0 3 0 0) (.dat 3 [[.int .i64 p0.X, .int .i64 p0.Y, .int .i64 p0.Z]]) rfl rfl ?_
  refine ok_new (.ref 1 3 0 0) (.dat 3 [[.int .i64 p1.X, .int .i64 p1.Y, .int .i64 p1.Z]]) rfl rfl ?_
  refine ok_alloc rfl rfl ?_
  refine ok_nil ?_
  refine rk_seq ?_
  refine rk_region ?_
  refine ok_v (.ref 0 3 0 1) rfl rfl ?_
  refine ok_v (.d (.int .i64 p0.Y)) rfl rfl ?_
  refine ok_v (.ref 1 3 0 2) rfl rfl ?_
  refine ok_v (.d (.int .i64 p1.Z)) rfl rfl ?_
  refine ok_v (.d (.int .i64 (w64 (p0.Y * p1.Z)))) rfl rfl ?_
  refine ok_v (.ref 0 3 0 2) rfl rfl ?_
  refine ok_v (.d (.int .i64 p0.Z)) rfl rfl ?_
  refine ok_v (.ref 1 3 0 1) rfl rfl ?_
  refine ok_v (.d (.int .i64 p1.Y)) rfl rfl ?_
  refine ok_v (.d (.int .i64 (w64 (p0.Z * p1.Y)))) rfl rfl ?_
  refine ok_v (.d (.int .i64 (w64 ((w64 (p0.Y * p1.Z)) - (w64 (p0.Z * p1.Y)))))) rfl rfl ?_
  refine ok_v (.ref 0 3 0 2) rfl rfl ?_
  refine ok_v (.d (.int .i64 p0.Z)) rfl rfl ?_
  refine ok_v (.ref 1 3 0 0) rfl rfl ?_
  refine ok_v (.d (.int .i64 p1.X)) rfl rfl ?_
  refine ok_v (.d (.int .i64 (w64 (p0.Z * p1.X)))) rfl rfl ?_
  refine ok_v (.ref 0 3 0 0) rfl rfl ?_
  refine ok_v (.d (.int .i64 p0.X)) rfl rfl ?_
  refine ok_v (.ref 1 3 0 2) rfl rfl ?_
  refine ok_v (.d (.int .i64 p1.Z)) rfl rfl ?_
  refine ok_v (.d (.int .i64 (w64 (p0.X * p1.Z)))) rfl rfl ?_
  refine ok_v (.d (.int .i64 (w64 ((w64 (p0.Z * p1.X)) - (w64 (p0.X * p1.Z)))))) rfl rfl ?_
  refine ok_v (.ref 0 3 0 0) rfl rfl ?_
  refine ok_v (.d (.int .i64 p0.X)) rfl rfl ?_
  refine ok_v (.ref 1 3 0 1) rfl rfl ?_
  refine ok_v (.d (.int .i64 p1.Y)) rfl rfl ?_
  refine ok_v (.d (.int .i64 (w64 (p0.X * p1.Y)))) rfl rfl ?_
  refine ok_v (.ref 0 3 0 1) rfl rfl ?_
  refine ok_v (.d (.int .i64 p0.Y)) rfl rfl ?_
  refine ok_v (.ref 1 3 0 0) rfl rfl ?_
  refine ok_v (.d (.int .i64 p1.X)) rfl rfl ?_
  refine ok_v (.d (.int .i64 (w64 (p0.Y * p1.X)))) rfl rfl ?_
  refine ok_v (.d (.int .i64 (w64 ((w64 (p0.X * p1.Y)) - (w64 (p0.Y * p1.X)))))) rfl rfl ?_
  refine ok_v (.d (.agg [.int .i64 (w64 ((w64 (p0.Y * p1.Z)) - (w64 (p0.Z * p1.Y)))), .int .i64 (w64 ((w64 (p0.Z * p1.X)) - (w64 (p0.X * p1.Z)))), .int .i64 (w64 ((w64 (p0.X * p1.Y)) - (w64 (p0.Y * p1.X))))])) rfl rfl ?_
  refine ok_sto 2 (.dat 3 [[.int .i64 (w64 ((w64 (p0.Y * p1.Z)) - (w64 (p0.Z * p1.Y)))), .int .i64 (w64 ((w64 (p0.Z * p1.X)) - (w64 (p0.X * p1.Z)))), .int .i64 (w64 ((w64 (p0.X * p1.Y)) - (w64 (p0.Y * p1.X))))]]) rfl rfl ?_
  refine ok_nil ?_
  refine rk_ret ?_
  obtain rfl := someE h0
  exact finD (.inr rfl) (v := .d (.agg [.int .i64 (w64 ((w64 (p0.Y * p1.Z)) - (w64 (p0.Z * p1.Y)))), .int .i64 (w64 ((w64 (p0.Z * p1.X)) - (w64 (p0.X * p1.Z)))), .int .i64 (w64 ((w64 (p0.X * p1.Y)) - (w64 (p0.Y * p1.X))))])) rfl rfl (.refl _)

set_option maxRecDepth 100000 in
set_option maxHeartbeats 8000000 in
theorem frame_axes_ok (p0 : Int) (r : (api_Vec × api_Vec × api_Vec)) (h0 : frame_axes p0 = some r) : Pure Try.prog tab 75 [.int .u8 p0] (.agg [.int .i64 r.1.X, .int .i64 r.1.Y, .int .i64 r.1.Z, .int .i64 r.2.1.X, .int .i64 r.2.1.Y, .int .i64 r.2.1.Z, .int .i64 r.2.2.X, .int .i64 r.2.2.Y, .int .i64 r.2.2.Z]) := by
  unfold frame_axes at h0
  refine pure_of_run Try.func75 rfl (by kernel_rfl) (by kernel_rfl) rfl ?_
  refine rk_seq ?_
  refine rk_region ?_
  refine ok_alloc rfl rfl ?_
  refine ok_nil ?_
  refine rk_seq ?_
  refine rk_region ?_
  refine ok_mv rfl rfl ?_
  refine ok_v (.d (.int .u8 (IntKind.wrap .u8 (Int.tdiv p0 4)))) rfl rfl ?_
  refine ok_as rfl rfl ?_
  refine ok_nil ?_
  refine rk_seq ?_
  refine rk_region ?_
  refine ok_mv rfl rfl ?_
  refine ok_v (.d (.int .u8 (Int.tmod p0 4))) rfl rfl ?_
  refine ok_as rfl rfl ?_
  refine ok_nil ?_
  refine rk_seq ?_
  refine rk_seq ?_
  refine rk_region ?_
  refine ok_mv rfl rfl ?_
  refine ok_mv rfl rfl ?_
  refine ok_v (.d (.int .u8 (IntKind.wrap .u8 (Int.tdiv (IntKind.wrap .u8 (Int.tdiv p0 4)) 2)))) rfl rfl ?_
  refine ok_v (.d (.int .u8 (IntKind.wrap .u8 ((IntKind.wrap .u8 (Int.tdiv (IntKind.wrap .u8 (Int.tdiv p0 4)) 2)) * 2)))) rfl rfl ?_
  refine ok_v (.d (.bool (decide ((Int.tmod p0 4) ≥ (IntKind.wrap .u8 ((IntKind.wrap .u8 (Int.tdiv (IntKind.wrap .u8 (Int.tdiv p0 4)) 2)) * 2)))))) rfl rfl ?_
  refine ok_nil ?_
  obtain ⟨m2, h1, h0⟩ := bindE h0
  refine rk_cut (fun b3 => b3 = m2) (fun (b3 : Int) => ⟨[(2, .ref 0 9 0 0), (3, .d (.int .u8 (IntKind.wrap .u8 (Int.tdiv p0 4)))), (4, .d (.int .u8 b3))], [(0, .dat 9 [[.int .i64 0, .int .i64 0, .int .i64 0, .int .i64 0, .int .i64 0, .int .i64 0, .int .i64 0, .int .i64 0, .int .i64 0]])], 1⟩) (by simp) ?_ ?_
  · refine rk_condH rfl h1 (fun _ h1 => ?_) (fun _ h1 => ?_)
    · refine rk_region ?_
      refine ok_mv rfl rfl ?_
      refine ok_v (.d (.int .u8 (IntKind.wrap .u8 ((Int.tmod p0 4) + 2)))) rfl rfl ?_
      refine ok_as rfl rfl ?_
      refine ok_nil ?_
      refine rk_nil ?_
      obtain rfl := someE h1
      exact ⟨_, rfl, wkE [(0, 0)] [] [] rfl ⟨⟨_, rfl, .ref rfl (by decide) (ltd rfl)⟩, ⟨_, rfl, .d (.refl _)⟩, ⟨_, rfl, .d (.refl _)⟩, trivial⟩ ⟨⟨ltd rfl, .inr ⟨by decide, _, rfl, .dat _ _⟩⟩, trivial⟩⟩
    · refine rk_skip ?_
      refine rk_nil ?_
      obtain rfl := someE h1
      exact ⟨_, rfl, wkE [(0, 0)] [] [] rfl ⟨⟨_, rfl, .ref rfl (by decide) (ltd rfl)⟩, ⟨_, rfl, .d (.refl _)⟩, ⟨_, rfl, .d (.refl _)⟩, trivial⟩ ⟨⟨ltd rfl, .inr ⟨by decide, _, rfl, .dat _ _⟩⟩, trivial⟩⟩
  · intro b3 hb
    subst hb
    refine rk_seq ?_
    refine rk_region ?_
    refine ok_mv rfl rfl ?_
    obtain ⟨r4, h5, h0⟩ := bindE h0
    refine ok_pc [.d (.int .u8 (IntKind.wrap .u8 (Int.tdiv p0 4)))] (frame_direction_ok (IntKind.wrap .u8 (Int.tdiv p0 4)) r4 h5) rfl rfl rfl (.inl rfl) ?_
    refine ok_mv rfl rfl ?_
    obtain ⟨r6, h7, h0⟩ := bindE h0
    refine ok_pc [.d (.int .u8 b3)] (frame_direction_ok b3 r6 h7) rfl rfl rfl (.inl rfl) ?_
    refine ok_alloc rfl rfl ?_
    refine ok_alloc rfl rfl ?_
    refine ok_sto 1 (.dat 3 [[.int .i64 r4.X, .int .i64 r4.Y, .int .i64 r4.Z]]) rfl rfl ?_
    refine ok_sto 2 (.dat 3 [[.int .i64 r6.X, .int .i64 r6.Y, .int .i64 r6.Z]]) rfl rfl ?_
    refine ok_nil ?_
    refine rk_seq ?_
    refine rk_regionD [(some [0], [0]), (some [], []), (some [], []), (some [2], []), (some [1], []), (some [2], []), (some [1], [])] (by kernel_rfl) ?_
    refine ok_v (.d (.agg [.int .i64 r4.X, .int .i64 r4.Y, .int .i64 r4.Z])) rfl rfl ?_
    refine ok_v (.d (.agg [.int .i64 r6.X, .int .i64 r6.Y, .int .i64 r6.Z])) rfl rfl ?_
    refine ok_v (.d (.agg [.int .i64 r4.X, .int .i64 r4.Y, .int .i64 r4.Z])) rfl rfl ?_
    refine ok_v (.d (.agg [.int .i64 r6.X, .int .i64 r6.Y, .int .i64 r6.Z])) rfl rfl ?_
    obtain ⟨r8, h9, h0⟩ := bindE h0
    refine ok_pc [.d (.agg [.int .i64 r4.X, .int .i64 r4.Y, .int .i64 r4.Z]), .d (.agg [.int .i64 r6.X, .int .i64 r6.Y, .int .i64 r6.Z])] (frame_cross_ok r4 r6 r8 h9) rfl rfl rfl (.inl rfl) ?_
    refine ok_v (.d (.agg [.int .i64 r4.X, .int .i64 r4.Y, .int .i64 r4.Z, .int .i64 r6.X, .int .i64 r6.Y, .int .i64 r6.Z, .int .i64 r8.X, .int .i64 r8.Y, .int .i64 r8.Z])) rfl rfl ?_
    refine ok_sto 0 (.dat 9 [[.int .i64 r4.X, .int .i64 r4.Y, .int .i64 r4.Z, .int .i64 r6.X, .int .i64 r6.Y, .int .i64 r6.Z, .int .i64 r8.X, .int .i64 r8.Y, .int .i64 r8.Z]]) rfl rfl ?_
    refine ok_nil ?_
    refine rk_ret ?_
    obtain rfl := someE h0
    exact finD (.inr rfl) (v := .d (.agg [.int .i64 r4.X, .int .i64 r4.Y, .int .i64 r4.Z, .int .i64 r6.X, .int .i64 r6.Y, .int .i64 r6.Z, .int .i64 r8.X, .int .i64 r8.Y, .int .i64 r8.Z])) rfl rfl (.refl _)

set_option maxRecDepth 100000 in
set_option maxHeartbeats 8000000 in
theorem frame_sum_ok (p0 : api_Vec × api_Vec × api_Vec) (p1 : api_Vec) (r : api_Vec) (h0 : frame_sum p0 p1 = some r) : Pure Try.prog tab 76 [.agg [.int .i64 p0.1.X, .int .i64 p0.1.Y, .int .i64 p0.1.Z, .int .i64 p0.2.1.X, .int .i64 p0.2.1.Y, .int .i64 p0.2.1.Z, .int .i64 p0.2.2.X, .int .i64 p0.2.2.Y, .int .i64 p0.2.2.Z], .agg [.int .i64 p1.X, .int .i64 p1.Y, .int .i64 p1.Z]] (.agg [.int .i64 r.X, .int .i64 r.Y, .int .i64 r.Z]) := by
  unfold frame_sum at h0
  refine pure_of_run Try.func76 rfl (by kernel_rfl) (by kernel_rfl) rfl ?_
  refine rk_seq ?_
  refine rk_region ?_
  refine ok_new (.ref 0 9 0 0) (.dat 9 [[.int .i64 p0.1.X, .int .i64 p0.1.Y, .int .i64 p0.1.Z, .int .i64 p0.2.1.X, .int .i64 p0.2.1.Y, .int .i64 p0.2.1.Z, .int .i64 p0.2.2.X, .int .i64 p0.2.2.Y, .int .i64 p0.2.2.Z]]) rfl rfl ?_
  refine ok_new (.ref 1 3 0 0) (.dat 3 [[.int .i64 p1.X, .int .i64 p1.Y, .int .i64 p1.Z]]) rfl rfl ?_
  refine ok_alloc rfl rfl ?_
  refine ok_nil ?_
  refine rk_seq ?_
  refine rk_region ?_
  refine ok_v (.ref 1 3 0 0) rfl rfl ?_
  refine ok_v (.d (.int .i64 p1.X)) rfl rfl ?_
  refine ok_v (.ref 0 9 0 0) rfl rfl ?_
  refine ok_v (.ref 0 9 0 0) rfl rfl ?_
  refine ok_v (.d (.int .i64 p0.1.X)) rfl rfl ?_
  refine ok_v (.d (.int .i64 (w64 (p1.X * p0.1.X)))) rfl rfl ?_
  refine ok_v (.ref 1 3 0 1) rfl rfl ?_
  refine ok_v (.d (.int .i64 p1.Y)) rfl rfl ?_
  refine ok_v (.ref 0 9 0 3) rfl rfl ?_
  refine ok_v (.ref 0 9 0 3) rfl rfl ?_
  refine ok_v (.d (.int .i64 p0.2.1.X)) rfl rfl ?_
  refine ok_v (.d (.int .i64 (w64 (p1.Y * p0.2.1.X)))) rfl rfl ?_
  refine ok_v (.d (.int .i64 (w64 ((w64 (p1.X * p0.1.X)) + (w64 (p1.Y * p0.2.1.X)))))) rfl rfl ?_
  refine ok_v (.ref 1 3 0 2) rfl rfl ?_
  refine ok_v (.d (.int .i64 p1.Z)) rfl rfl ?_
  refine ok_v (.ref 0 9 0 6) rfl rfl ?_
  refine ok_v (.ref 0 9 0 6) rfl rfl ?_
  refine ok_v (.d (.int .i64 p0.2.2.X)) rfl rfl ?_
  refine ok_v (.d (.int .i64 (w64 (p1.Z * p0.2.2.X)))) rfl rfl ?_
  refine ok_v (.d (.int .i64 (w64 ((w64 ((w64 (p1.X * p0.1.X)) + (w64 (p1.Y * p0.2.1.X)))) + (w64 (p1.Z * p0.2.2.X)))))) rfl rfl ?_
  refine ok_v (.ref 1 3 0 0) rfl rfl ?_
  refine ok_v (.d (.int .i64 p1.X)) rfl rfl ?_
  refine ok_v (.ref 0 9 0 0) rfl rfl ?_
  refine ok_v (.ref 0 9 0 1) rfl rfl ?_
  refine ok_v (.d (.int .i64 p0.1.Y)) rfl rfl ?_
  refine ok_v (.d (.int .i64 (w64 (p1.X * p0.1.Y)))) rfl rfl ?_
  refine ok_v (.ref 1 3 0 1) rfl rfl ?_
  refine ok_v (.d (.int .i64 p1.Y)) rfl rfl ?_
  refine ok_v (.ref 0 9 0 3) rfl rfl ?_
  refine ok_v (.ref 0 9 0 4) rfl rfl ?_
  refine ok_v (.d (.int .i64 p0.2.1.Y)) rfl rfl ?_
  refine ok_v (.d (.int .i64 (w64 (p1.Y * p0.2.1.Y)))) rfl rfl ?_
  refine ok_v (.d (.int .i64 (w64 ((w64 (p1.X * p0.1.Y)) + (w64 (p1.Y * p0.2.1.Y)))))) rfl rfl ?_
  refine ok_v (.ref 1 3 0 2) rfl rfl ?_
  refine ok_v (.d (.int .i64 p1.Z)) rfl rfl ?_
  refine ok_v (.ref 0 9 0 6) rfl rfl ?_
  refine ok_v (.ref 0 9 0 7) rfl rfl ?_
  refine ok_v (.d (.int .i64 p0.2.2.Y)) rfl rfl ?_
  refine ok_v (.d (.int .i64 (w64 (p1.Z * p0.2.2.Y)))) rfl rfl ?_
  refine ok_v (.d (.int .i64 (w64 ((w64 ((w64 (p1.X * p0.1.Y)) + (w64 (p1.Y * p0.2.1.Y)))) + (w64 (p1.Z * p0.2.2.Y)))))) rfl rfl ?_
  refine ok_v (.ref 1 3 0 0) rfl rfl ?_
  refine ok_v (.d (.int .i64 p1.X)) rfl rfl ?_
  refine ok_v (.ref 0 9 0 0) rfl rfl ?_
  refine ok_v (.ref 0 9 0 2) rfl rfl ?_
  refine ok_v (.d (.int .i64 p0.1.Z)) rfl rfl ?_
  refine ok_v (.d (.int .i64 (w64 (p1.X * p0.1.Z)))) rfl rfl ?_
  refine ok_v (.ref 1 3 0 1) rfl rfl ?_
  refine ok_v (.d (.int .i64 p1.Y)) rfl rfl ?_
  refine ok_v (.ref 0 9 0 3) rfl rfl ?_
  refine ok_v (.ref 0 9 0 5) rfl rfl ?_
  refine ok_v (.d (.int .i64 p0.2.1.Z)) rfl rfl ?_
  refine ok_v (.d (.int .i64 (w64 (p1.Y * p0.2.1.Z)))) rfl rfl ?_
  refine ok_v (.d (.int .i64 (w64 ((w64 (p1.X * p0.1.Z)) + (w64 (p1.Y * p0.2.1.Z)))))) rfl rfl ?_
  refine ok_v (.ref 1 3 0 2) rfl rfl ?_
  refine ok_v (.d (.int .i64 p1.Z)) rfl rfl ?_
  refine ok_v (.ref 0 9 0 6) rfl rfl ?_
  refine ok_v (.ref 0 9 0 8) rfl rfl ?_
  refine ok_v (.d (.int .i64 p0.2.2.Z)) rfl rfl ?_
  refine ok_v (.d (.int .i64 (w64 (p1.Z * p0.2.2.Z)))) rfl rfl ?_
  refine ok_v (.d (.int .i64 (w64 ((w64 ((w64 (p1.X * p0.1.Z)) + (w64 (p1.Y * p0.2.1.Z)))) + (w64 (p1.Z * p0.2.2.Z)))))) rfl rfl ?_
  refine ok_v (.d (.agg [.int .i64 (w64 ((w64 ((w64 (p1.X * p0.1.X)) + (w64 (p1.Y * p0.2.1.X)))) + (w64 (p1.Z * p0.2.2.X)))), .int .i64 (w64 ((w64 ((w64 (p1.X * p0.1.Y)) + (w64 (p1.Y * p0.2.1.Y)))) + (w64 (p1.Z * p0.2.2.Y)))), .int .i64 (w64 ((w64 ((w64 (p1.X * p0.1.Z)) + (w64 (p1.Y * p0.2.1.Z)))) + (w64 (p1.Z * p0.2.2.Z))))])) rfl rfl ?_
  refine ok_sto 2 (.dat 3 [[.int .i64 (w64 ((w64 ((w64 (p1.X * p0.1.X)) + (w64 (p1.Y * p0.2.1.X)))) + (w64 (p1.Z * p0.2.2.X)))), .int .i64 (w64 ((w64 ((w64 (p1.X * p0.1.Y)) + (w64 (p1.Y * p0.2.1.Y)))) + (w64 (p1.Z * p0.2.2.Y)))), .int .i64 (w64 ((w64 ((w64 (p1.X * p0.1.Z)) + (w64 (p1.Y * p0.2.1.Z)))) + (w64 (p1.Z * p0.2.2.Z))))]]) rfl rfl ?_
  refine ok_nil ?_
  refine rk_ret ?_
  obtain rfl := someE h0
  exact finD (.inr rfl) (v := .d (.agg [.int .i64 (w64 ((w64 ((w64 (p1.X * p0.1.X)) + (w64 (p1.Y * p0.2.1.X)))) + (w64 (p1.Z * p0.2.2.X)))), .int .i64 (w64 ((w64 ((w64 (p1.X * p0.1.Y)) + (w64 (p1.Y * p0.2.1.Y)))) + (w64 (p1.Z * p0.2.2.Y)))), .int .i64 (w64 ((w64 ((w64 (p1.X * p0.1.Z)) + (w64 (p1.Y * p0.2.1.Z)))) + (w64 (p1.Z * p0.2.2.Z))))])) rfl rfl (.refl _)

set_option maxRecDepth 100000 in
set_option maxHeartbeats 8000000 in
theorem frame_named_ok (p0 : api_Vec × api_Vec × api_Vec) (r : Int) (h0 : frame_named p0 = some r) : Pure Try.prog tab 77 [.agg [.int .i64 p0.1.X, .int .i64 p0.1.Y, .int .i64 p0.1.Z, .int .i64 p0.2.1.X, .int .i64 p0.2.1.Y, .int .i64 p0.2.1.Z, .int .i64 p0.2.2.X, .int .i64 p0.2.2.Y, .int .i64 p0.2.2.Z]] (.int .u8 r) := by
  unfold frame_named at h0
  refine pure_of_run Try.func77 rfl (by kernel_rfl) (by kernel_rfl) rfl ?_
  refine rk_seq ?_
  refine rk_region ?_
  refine ok_new (.ref 0 9 0 0) (.dat 9 [[.int .i64 p0.1.X, .int .i64 p0.1.Y, .int .i64 p0.1.Z, .int .i64 p0.2.1.X, .int .i64 p0.2.1.Y, .int .i64 p0.2.1.Z, .int .i64 p0.2.2.X, .int .i64 p0.2.2.Y, .int .i64 p0.2.2.Z]]) rfl rfl ?_
  refine ok_as rfl rfl ?_
  refine ok_nil ?_
  refine rk_seq ?_
  refine rk_seq ?_
  refine rk_region ?_
  refine ok_mv rfl rfl ?_
  refine ok_nil ?_
  obtain ⟨m12, h13, h0⟩ := bindE h0
  refine rk_blockcut (fun b14 => .inl b14 = m12) (fun (b14 : Unit) => ⟨[], [], 0⟩) (by simp) ?_ ?_
  · refine rk_loopF (frame_named_L1 p0) (fun (a11 : Int) => ⟨[(1, .ref 0 9 0 0), (4, .d (.int .u8 a11))], [(0, .dat 9 [[.int .i64 p0.1.X, .int .i64 p0.1.Y, .int .i64 p0.1.Z, .int .i64 p0.2.1.X, .int .i64 p0.2.1.Y, .int .i64 p0.2.1.Z, .int .i64 p0.2.2.X, .int .i64 p0.2.2.Y, .int .i64 p0.2.2.Z]])], 1⟩) 0 m12 h13 (wkE [(0, 0)] [] [] rfl ⟨⟨_, rfl, .ref rfl (by decide) (ltd rfl)⟩, ⟨_, rfl, .d (.refl _)⟩, trivial⟩ ⟨⟨ltd rfl, .inr ⟨by decide, _, rfl, .dat _ _⟩⟩, trivial⟩) ?_
    intro a11 y9 h10
    unfold frame_named_L1 at h10
    refine rk_seq ?_
    refine rk_region ?_
    refine ok_v (.d (.bool (decide (a11 < 24)))) rfl rfl ?_
    refine ok_nil ?_
    refine rk_seq ?_
    refine rk_condH rfl h10 (fun _ h10 => ?_) (fun _ h10 => ?_)
    · refine rk_skip ?_
      refine rk_seq ?_
      refine rk_block ?_
      refine rk_seq ?_
      refine rk_region ?_
      refine ok_mv rfl rfl ?_
      refine ok_as rfl rfl ?_
      refine ok_nil ?_
      refine rk_seq ?_
      refine rk_regionD [(some [], []), (some [0], []), (some [], []), (some [], [])] (by kernel_rfl) ?_
      refine ok_mv rfl rfl ?_
      obtain ⟨r17, h18, h10⟩ := bindE h10
      refine ok_pc [.d (.int .u8 a11)] (frame_axes_ok a11 r17 h18) rfl rfl rfl (.inl rfl) ?_
      refine ok_v (.d (.agg [.int .i64 p0.1.X, .int .i64 p0.1.Y, .int .i64 p0.1.Z, .int .i64 p0.2.1.X, .int .i64 p0.2.1.Y, .int .i64 p0.2.1.Z, .int .i64 p0.2.2.X, .int .i64 p0.2.2.Y, .int .i64 p0.2.2.Z])) rfl rfl ?_
      refine ok_v (.d (.bool ((r17.1.X == p0.1.X) && ((r17.1.Y == p0.1.Y) && ((r17.1.Z == p0.1.Z) && ((r17.2.1.X == p0.2.1.X) && ((r17.2.1.Y == p0.2.1.Y) && ((r17.2.1.Z == p0.2.1.Z) && ((r17.2.2.X == p0.2.2.X) && ((r17.2.2.Y == p0.2.2.Y) && ((r17.2.2.Z == p0.2.2.Z) && true))))))))))) rfl rfl ?_
      refine ok_nil ?_
      refine rk_condH rfl h10 (fun _ h10 => ?_) (fun _ h10 => ?_)
      · refine rk_seq ?_
        refine rk_region ?_
        refine ok_mv rfl rfl ?_
        refine ok_as rfl rfl ?_
        refine ok_nil ?_
        refine rk_ret ?_
        refine ⟨_, (Option.some.inj h10).symm, fun hm => ?_⟩
        subst hm
        obtain rfl := someE h0
        exact finD (.inr rfl) (v := .d (.int .u8 a11)) rfl rfl (.refl _)
      · refine rk_skip ?_
        refine rk_nil ?_
        refine blk_nor ?_
        refine rk_region ?_
        refine ok_v (.d (.int .u8 (IntKind.wrap .u8 (a11 + 1)))) rfl rfl ?_
        refine ok_mv rfl rfl ?_
        refine ok_nil ?_
        refine rk_nil ?_
        exact ⟨_, (Option.some.inj h10).symm, wkE [(0, 0)] [] [] rfl ⟨⟨_, rfl, .ref rfl (by decide) (ltd rfl)⟩, ⟨_, rfl, .d (.refl _)⟩, trivial⟩ ⟨⟨ltd rfl, .inr ⟨by decide, _, rfl, .dat _ _⟩⟩, trivial⟩⟩
    · refine rk_exit ?_
      refine ⟨_, (Option.some.inj h10).symm, fun hm => ?_⟩
      subst hm
      exact ⟨_, rfl, wkE [] [] [] rfl trivial trivial⟩
  · intro b14 hb
    subst hb
    refine rk_seq ?_
    refine rk_region ?_
    refine ok_as rfl rfl ?_
    refine ok_nil ?_
    refine rk_ret ?_
    obtain rfl := someE h0
    exact finD (.inr rfl) (v := .d (.int .u8 0)) rfl rfl (.refl _)

set_option maxRecDepth 100000 in
set_option maxHeartbeats 8000000 in
theorem frame_image_ok (p0 : api_Frame) (p1 : api_Vec) (r : api_Vec) (h0 : frame_image p0 p1 = some r) : Pure Try.prog tab 78 [.agg [.int .u8 p0.Turn, .int .i64 p0.At.X, .int .i64 p0.At.Y, .int .i64 p0.At.Z], .agg [.int .i64 p1.X, .int .i64 p1.Y, .int .i64 p1.Z]] (.agg [.int .i64 r.X, .int .i64 r.Y, .int .i64 r.Z]) := by
  unfold frame_image at h0
  refine pure_of_run Try.func78 rfl (by kernel_rfl) (by kernel_rfl) rfl ?_
  refine rk_seq ?_
  refine rk_region ?_
  refine ok_new (.ref 0 4 0 0) (.dat 4 [[.int .u8 p0.Turn, .int .i64 p0.At.X, .int .i64 p0.At.Y, .int .i64 p0.At.Z]]) rfl rfl ?_
  refine ok_new (.ref 1 3 0 0) (.dat 3 [[.int .i64 p1.X, .int .i64 p1.Y, .int .i64 p1.Z]]) rfl rfl ?_
  refine ok_alloc rfl rfl ?_
  refine ok_nil ?_
  refine rk_seq ?_
  refine rk_regionD [(some [1], [1]), (some [], []), (some [1], []), (some [], []), (some [0], []), (some [], [])] (by kernel_rfl) ?_
  refine ok_v (.ref 0 4 0 0) rfl rfl ?_
  refine ok_v (.d (.int .u8 p0.Turn)) rfl rfl ?_
  obtain ⟨r1, h2, h0⟩ := bindE h0
  refine ok_pc [.d (.int .u8 p0.Turn)] (frame_axes_ok p0.Turn r1 h2) rfl rfl rfl (.inl rfl) ?_
  refine ok_v (.d (.agg [.int .i64 p1.X, .int .i64 p1.Y, .int .i64 p1.Z])) rfl rfl ?_
  obtain ⟨r3, h4, h0⟩ := bindE h0
  refine ok_pc [.d (.agg [.int .i64 r1.1.X, .int .i64 r1.1.Y, .int .i64 r1.1.Z, .int .i64 r1.2.1.X, .int .i64 r1.2.1.Y, .int .i64 r1.2.1.Z, .int .i64 r1.2.2.X, .int .i64 r1.2.2.Y, .int .i64 r1.2.2.Z]), .d (.agg [.int .i64 p1.X, .int .i64 p1.Y, .int .i64 p1.Z])] (frame_sum_ok r1 p1 r3 h4) rfl rfl rfl (.inl rfl) ?_
  refine ok_sto 1 (.dat 3 [[.int .i64 r3.X, .int .i64 r3.Y, .int .i64 r3.Z]]) rfl rfl ?_
  refine ok_nil ?_
  refine rk_seq ?_
  refine rk_region ?_
  refine ok_v (.ref 1 3 0 0) rfl rfl ?_
  refine ok_v (.d (.int .i64 r3.X)) rfl rfl ?_
  refine ok_v (.ref 0 4 0 1) rfl rfl ?_
  refine ok_v (.ref 0 4 0 1) rfl rfl ?_
  refine ok_v (.d (.int .i64 p0.At.X)) rfl rfl ?_
  refine ok_v (.d (.int .i64 (w64 (r3.X + p0.At.X)))) rfl rfl ?_
  refine ok_v (.ref 1 3 0 1) rfl rfl ?_
  refine ok_v (.d (.int .i64 r3.Y)) rfl rfl ?_
  refine ok_v (.ref 0 4 0 1) rfl rfl ?_
  refine ok_v (.ref 0 4 0 2) rfl rfl ?_
  refine ok_v (.d (.int .i64 p0.At.Y)) rfl rfl ?_
  refine ok_v (.d (.int .i64 (w64 (r3.Y + p0.At.Y)))) rfl rfl ?_
  refine ok_v (.ref 1 3 0 2) rfl rfl ?_
  refine ok_v (.d (.int .i64 r3.Z)) rfl rfl ?_
  refine ok_v (.ref 0 4 0 1) rfl rfl ?_
  refine ok_v (.ref 0 4 0 3) rfl rfl ?_
  refine ok_v (.d (.int .i64 p0.At.Z)) rfl rfl ?_
  refine ok_v (.d (.int .i64 (w64 (r3.Z + p0.At.Z)))) rfl rfl ?_
  refine ok_v (.d (.agg [.int .i64 (w64 (r3.X + p0.At.X)), .int .i64 (w64 (r3.Y + p0.At.Y)), .int .i64 (w64 (r3.Z + p0.At.Z))])) rfl rfl ?_
  refine ok_sto 2 (.dat 3 [[.int .i64 (w64 (r3.X + p0.At.X)), .int .i64 (w64 (r3.Y + p0.At.Y)), .int .i64 (w64 (r3.Z + p0.At.Z))]]) rfl rfl ?_
  refine ok_nil ?_
  refine rk_ret ?_
  obtain rfl := someE h0
  exact finD (.inr rfl) (v := .d (.agg [.int .i64 (w64 (r3.X + p0.At.X)), .int .i64 (w64 (r3.Y + p0.At.Y)), .int .i64 (w64 (r3.Z + p0.At.Z))])) rfl rfl (.refl _)

set_option maxRecDepth 100000 in
set_option maxHeartbeats 8000000 in
theorem frame_within_ok (p0 : api_Frame) (p1 : api_Frame) (r : api_Frame) (h0 : frame_within p0 p1 = some r) : Pure Try.prog tab 58 [.agg [.int .u8 p0.Turn, .int .i64 p0.At.X, .int .i64 p0.At.Y, .int .i64 p0.At.Z], .agg [.int .u8 p1.Turn, .int .i64 p1.At.X, .int .i64 p1.At.Y, .int .i64 p1.At.Z]] (.agg [.int .u8 r.Turn, .int .i64 r.At.X, .int .i64 r.At.Y, .int .i64 r.At.Z]) := by
  unfold frame_within at h0
  refine pure_of_run Try.func58 rfl (by kernel_rfl) (by kernel_rfl) rfl ?_
  refine rk_seq ?_
  refine rk_region ?_
  refine ok_new (.ref 0 4 0 0) (.dat 4 [[.int .u8 p0.Turn, .int .i64 p0.At.X, .int .i64 p0.At.Y, .int .i64 p0.At.Z]]) rfl rfl ?_
  refine ok_new (.ref 1 4 0 0) (.dat 4 [[.int .u8 p1.Turn, .int .i64 p1.At.X, .int .i64 p1.At.Y, .int .i64 p1.At.Z]]) rfl rfl ?_
  refine ok_alloc rfl rfl ?_
  refine ok_nil ?_
  refine rk_seq ?_
  refine rk_regionD [(some [4], [4]), (some [3], [3]), (some [], [4]), (some [], [3]), (some [], []), (some [1], []), (some [], []), (some [], []), (some [0], []), (some [], [])] (by kernel_rfl) ?_
  refine ok_v (.ref 0 4 0 0) rfl rfl ?_
  refine ok_v (.d (.int .u8 p0.Turn)) rfl rfl ?_
  obtain ⟨r1, h2, h0⟩ := bindE h0
  refine ok_pc [.d (.int .u8 p0.Turn)] (frame_axes_ok p0.Turn r1 h2) rfl rfl rfl (.inl rfl) ?_
  refine ok_v (.ref 1 4 0 0) rfl rfl ?_
  refine ok_v (.d (.int .u8 p1.Turn)) rfl rfl ?_
  obtain ⟨r3, h4, h0⟩ := bindE h0
  refine ok_pc [.d (.int .u8 p1.Turn)] (frame_axes_ok p1.Turn r3 h4) rfl rfl rfl (.inl rfl) ?_
  refine ok_alloc rfl rfl ?_
  refine ok_alloc rfl rfl ?_
  refine ok_sto 3 (.dat 9 [[r1.1, r1.2.1, r1.2.2].flatMap enc_api_Vec]) rfl rfl ?_
  refine ok_sto 4 (.dat 9 [[.int .i64 r3.1.X, .int .i64 r3.1.Y, .int .i64 r3.1.Z, .int .i64 r3.2.1.X, .int .i64 r3.2.1.Y, .int .i64 r3.2.1.Z, .int .i64 r3.2.2.X, .int .i64 r3.2.2.Y, .int .i64 r3.2.2.Z]]) rfl rfl ?_
  refine ok_nil ?_
  refine rk_seq ?_
  refine rk_seq ?_
  refine rk_region ?_
  refine ok_mv rfl rfl ?_
  refine ok_nil ?_
  obtain ⟨m32, h33, h0⟩ := bindE h0
  refine rk_blockcut (fun b34 => b34 = m32) (fun (b34 : List api_Vec) => ⟨[(2, .ref 0 4 0 0), (3, .ref 1 4 0 0), (4, .ref 2 4 0 0), (5, .ref 3 9 0 0)], [(0, .dat 4 [[.int .u8 p0.Turn, .int .i64 p0.At.X, .int .i64 p0.At.Y, .int .i64 p0.At.Z]]), (1, .dat 4 [[.int .u8 p1.Turn, .int .i64 p1.At.X, .int .i64 p1.At.Y, .int .i64 p1.At.Z]]), (2, .dat 4 [[.int .u8 0, .int .i64 0, .int .i64 0, .int .i64 0]]), (3, .dat 9 [b34.flatMap enc_api_Vec])], 4⟩) (by simp) ?_ ?_
  · refine rk_loopF (frame_within_L1 r3) (fun (a31 : Int × List api_Vec) => ⟨[(2, .ref 0 4 0 0), (3, .ref 1 4 0 0), (4, .ref 2 4 0 0), (5, .ref 3 9 0 0), (6, .ref 4 9 0 0), (14, .d (.int .i64 a31.1))], [(0, .dat 4 [[.int .u8 p0.Turn, .int .i64 p0.At.X, .int .i64 p0.At.Y, .int .i64 p0.At.Z]]), (1, .dat 4 [[.int .u8 p1.Turn, .int .i64 p1.At.X, .int .i64 p1.At.Y, .int .i64 p1.At.Z]]), (2, .dat 4 [[.int .u8 0, .int .i64 0, .int .i64 0, .int .i64 0]]), (3, .dat 9 [a31.2.flatMap enc_api_Vec]), (4, .dat 9 [[.int .i64 r3.1.X, .int .i64 r3.1.Y, .int .i64 r3.1.Z, .int .i64 r3.2.1.X, .int .i64 r3.2.1.Y, .int .i64 r3.2.1.Z, .int .i64 r3.2.2.X, .int .i64 r3.2.2.Y, .int .i64 r3.2.2.Z]])], 5⟩) (0, [r1.1, r1.2.1, r1.2.2]) m32 h33 (wkE [(0, 0), (1, 1), (2, 2), (3, 3), (4, 4)] [] [] rfl ⟨⟨_, rfl, .ref rfl (by decide) (ltd rfl)⟩, ⟨_, rfl, .ref rfl (by decide) (ltd rfl)⟩, ⟨_, rfl, .ref rfl (by decide) (ltd rfl)⟩, ⟨_, rfl, .ref rfl (by decide) (ltd rfl)⟩, ⟨_, rfl, .ref rfl (by decide) (ltd rfl)⟩, ⟨_, rfl, .d (.refl _)⟩, trivial⟩ ⟨⟨ltd rfl, .inr ⟨by decide, _, rfl, .dat _ _⟩⟩, ⟨ltd rfl, .inr ⟨by decide, _, rfl, .dat _ _⟩⟩, ⟨ltd rfl, .inr ⟨by decide, _, rfl, .dat _ _⟩⟩, ⟨ltd rfl, .inr ⟨by decide, _, rfl, .dat _ _⟩⟩, ⟨ltd rfl, .inr ⟨by decide, _, rfl, .dat _ _⟩⟩, trivial⟩) ?_
    intro a31 y29 h30
    unfold frame_within_L1 at h30
    refine rk_seq ?_
    refine rk_region ?_
    refine ok_v (.d (.bool (decide (a31.1 < 3)))) rfl rfl ?_
    refine ok_nil ?_
    refine rk_seq ?_
    refine rk_condH rfl h30 (fun _ h30 => ?_) (fun _ h30 => ?_)
    · refine rk_skip ?_
      refine rk_seq ?_
      refine rk_block ?_
      refine rk_seq ?_
      refine rk_region ?_
      refine ok_mv rfl rfl ?_
      refine ok_as rfl rfl ?_
      refine ok_nil ?_
      refine rk_regionD [(some [3], [3]), (some [], []), (some [], []), (some [3], []), (some [], []), (some [], []), (some [4], []), (some [], [])] (by kernel_rfl) ?_
      refine ok_mv rfl rfl ?_
      refine ok_v (.d (.agg [.int .i64 r3.1.X, .int .i64 r3.1.Y, .int .i64 r3.1.Z, .int .i64 r3.2.1.X, .int .i64 r3.2.1.Y, .int .i64 r3.2.1.Z, .int .i64 r3.2.2.X, .int .i64 r3.2.2.Y, .int .i64 r3.2.2.Z])) rfl rfl ?_
      refine ok_mv rfl rfl ?_
      obtain ⟨v41, h42, h30⟩ := bindE h30
      refine ok_iaA h42 rfl rfl rfl rfl rfl ?_
      refine ok_ldA (enc := enc_api_Vec) (.d (.agg [.int .i64 v41.X, .int .i64 v41.Y, .int .i64 v41.Z])) h42 (fun _ => rfl) rfl rfl rfl rfl rfl rfl ?_
      obtain ⟨r43, h44, h30⟩ := bindE h30
      refine ok_pc [.d (.agg [.int .i64 r3.1.X, .int .i64 r3.1.Y, .int .i64 r3.1.Z, .int .i64 r3.2.1.X, .int .i64 r3.2.1.Y, .int .i64 r3.2.1.Z, .int .i64 r3.2.2.X, .int .i64 r3.2.2.Y, .int .i64 r3.2.2.Z]), .d (.agg [.int .i64 v41.X, .int .i64 v41.Y, .int .i64 v41.Z])] (frame_sum_ok r3 v41 r43 h44) rfl rfl rfl (.inl rfl) ?_
      obtain ⟨v45, h46, h30⟩ := bindE h30
      refine ok_iaA h46 rfl rfl rfl rfl rfl ?_
      refine ok_stA (enc := enc_api_Vec) r43 h46 (fun _ => rfl) rfl rfl rfl rfl rfl rfl rfl rfl ?_
      refine ok_nil ?_
      refine rk_nil ?_
      refine blk_nor ?_
      refine rk_region ?_
      refine ok_v (.d (.int .i64 (w64 (a31.1 + 1)))) rfl rfl ?_
      refine ok_mv rfl rfl ?_
      refine ok_nil ?_
      refine rk_nil ?_
      exact ⟨_, (Option.some.inj h30).symm, wkE [(0, 0), (1, 1), (2, 2), (3, 3), (4, 4)] [] [] rfl ⟨⟨_, rfl, .ref rfl (by decide) (ltd rfl)⟩, ⟨_, rfl, .ref rfl (by decide) (ltd rfl)⟩, ⟨_, rfl, .ref rfl (by decide) (ltd rfl)⟩, ⟨_, rfl, .ref rfl (by decide) (ltd rfl)⟩, ⟨_, rfl, .ref rfl (by decide) (ltd rfl)⟩, ⟨_, rfl, .d (.refl _)⟩, trivial⟩ ⟨⟨ltd rfl, .inr ⟨by decide, _, rfl, .dat _ _⟩⟩, ⟨ltd rfl, .inr ⟨by decide, _, rfl, .dat _ _⟩⟩, ⟨ltd rfl, .inr ⟨by decide, _, rfl, .dat _ _⟩⟩, ⟨ltd rfl, .inr ⟨by decide, _, rfl, .dat _ _⟩⟩, ⟨ltd rfl, .inr ⟨by decide, _, rfl, .dat _ _⟩⟩, trivial⟩⟩
    · refine rk_exit ?_
      refine ⟨_, (Option.some.inj h30).symm, fun hm => ?_⟩
      subst hm
      exact ⟨_, rfl, wkE [(0, 0), (1, 1), (2, 2), (3, 3)] [] [] rfl ⟨⟨_, rfl, .ref rfl (by decide) (ltd rfl)⟩, ⟨_, rfl, .ref rfl (by decide) (ltd rfl)⟩, ⟨_, rfl, .ref rfl (by decide) (ltd rfl)⟩, ⟨_, rfl, .ref rfl (by decide) (ltd rfl)⟩, trivial⟩ ⟨⟨ltd rfl, .inr ⟨by decide, _, rfl, .dat _ _⟩⟩, ⟨ltd rfl, .inr ⟨by decide, _, rfl, .dat _ _⟩⟩, ⟨ltd rfl, .inr ⟨by decide, _, rfl, .dat _ _⟩⟩, ⟨ltd rfl, .inr ⟨by decide, _, rfl, .dat _ _⟩⟩, trivial⟩⟩
  · intro b34 hb
    subst hb
    refine rk_seq ?_
    refine rk_regionD [(some [2], [2]), (some [], []), (some [], []), (some [0], []), (some [], []), (some [1], []), (some [], []), (some [3], [])] (by kernel_rfl) ?_
    obtain ⟨v47, h48, h0⟩ := bindE h0
    refine ok_ldW (enc := enc_api_Vec) (.d (.agg [.int .i64 v47.1.X, .int .i64 v47.1.Y, .int .i64 v47.1.Z, .int .i64 v47.2.1.X, .int .i64 v47.2.1.Y, .int .i64 v47.2.1.Z, .int .i64 v47.2.2.X, .int .i64 v47.2.2.Y, .int .i64 v47.2.2.Z])) (arr3_flat h48) rfl rfl rfl rfl rfl rfl ?_
    obtain ⟨r49, h50, h0⟩ := bindE h0
    refine ok_pc [.d (.agg [.int .i64 v47.1.X, .int .i64 v47.1.Y, .int .i64 v47.1.Z, .int .i64 v47.2.1.X, .int .i64 v47.2.1.Y, .int .i64 v47.2.1.Z, .int .i64 v47.2.2.X, .int .i64 v47.2.2.Y, .int .i64 v47.2.2.Z])] (frame_named_ok v47 r49 h50) rfl rfl rfl (.inl rfl) ?_
    refine ok_v (.d (.agg [.int .u8 p1.Turn, .int .i64 p1.At.X, .int .i64 p1.At.Y, .int .i64 p1.At.Z])) rfl rfl ?_
    refine ok_v (.ref 0 4 0 1) rfl rfl ?_
    refine ok_v (.d (.agg [.int .i64 p0.At.X, .int .i64 p0.At.Y, .int .i64 p0.At.Z])) rfl rfl ?_
    obtain ⟨r51, h52, h0⟩ := bindE h0
    refine ok_pc [.d (.agg [.int .u8 p1.Turn, .int .i64 p1.At.X, .int .i64 p1.At.Y, .int .i64 p1.At.Z]), .d (.agg [.int .i64 p0.At.X, .int .i64 p0.At.Y, .int .i64 p0.At.Z])] (frame_image_ok p1 p0.At r51 h52) rfl rfl rfl (.inl rfl) ?_
    refine ok_v (.d (.agg [.int .u8 r49, .int .i64 r51.X, .int .i64 r51.Y, .int .i64 r51.Z])) rfl rfl ?_
    refine ok_sto 2 (.dat 4 [[.int .u8 r49, .int .i64 r51.X, .int .i64 r51.Y, .int .i64 r51.Z]]) rfl rfl ?_
    refine ok_nil ?_
    refine rk_ret ?_
    obtain rfl := someE h0
    exact finD (.inr rfl) (v := .d (.agg [.int .u8 r49, .int .i64 r51.X, .int .i64 r51.Y, .int .i64 r51.Z])) rfl rfl (.refl _)

set_option maxRecDepth 100000 in
set_option maxHeartbeats 8000000 in
theorem frame_Within_ok (p0 : api_Frame) (p1 : api_Frame) (r : api_Frame × Int) (h0 : frame_Within p0 p1 = some r) : Pure Try.prog tab 42 [.agg [.int .u8 p0.Turn, .int .i64 p0.At.X, .int .i64 p0.At.Y, .int .i64 p0.At.Z], .agg [.int .u8 p1.Turn, .int .i64 p1.At.X, .int .i64 p1.At.Y, .int .i64 p1.At.Z]] (.tup [.agg [.int .u8 r.1.Turn, .int .i64 r.1.At.X, .int .i64 r.1.At.Y, .int .i64 r.1.At.Z], .int .i64 r.2]) := by
  unfold frame_Within at h0
  refine pure_of_run Try.func42 rfl (by kernel_rfl) (by kernel_rfl) rfl ?_
  refine rk_seq ?_
  refine rk_region ?_
  refine ok_new (.ref 0 4 0 0) (.dat 4 [[.int .u8 p0.Turn, .int .i64 p0.At.X, .int .i64 p0.At.Y, .int .i64 p0.At.Z]]) rfl rfl ?_
  refine ok_new (.ref 1 4 0 0) (.dat 4 [[.int .u8 p1.Turn, .int .i64 p1.At.X, .int .i64 p1.At.Y, .int .i64 p1.At.Z]]) rfl rfl ?_
  refine ok_alloc rfl rfl ?_
  refine ok_as rfl rfl ?_
  refine ok_nil ?_
  refine rk_seq ?_
  refine rk_seq ?_
  refine rk_region ?_
  refine ok_v (.d (.agg [.int .u8 p0.Turn, .int .i64 p0.At.X, .int .i64 p0.At.Y, .int .i64 p0.At.Z])) rfl rfl ?_
  obtain ⟨r1, h2, h0⟩ := bindE h0
  refine ok_pc [.d (.agg [.int .u8 p0.Turn, .int .i64 p0.At.X, .int .i64 p0.At.Y, .int .i64 p0.At.Z])] (frame_Check_ok p0 r1 h2) rfl rfl rfl (.inl rfl) ?_
  refine ok_as rfl rfl ?_
  refine ok_nil ?_
  refine rk_seq ?_
  refine rk_region ?_
  refine ok_mv rfl rfl ?_
  refine ok_v (.d (.bool (r1 != 0))) rfl rfl ?_
  refine ok_nil ?_
  refine rk_condH rfl h0 (fun _ h0 => ?_) (fun _ h0 => ?_)
  · refine rk_seq ?_
    refine rk_region ?_
    refine ok_v (.d (.agg [.int .u8 0, .int .i64 0, .int .i64 0, .int .i64 0])) rfl rfl ?_
    refine ok_mv rfl rfl ?_
    refine ok_sto 2 (.dat 4 [[.int .u8 0, .int .i64 0, .int .i64 0, .int .i64 0]]) rfl rfl ?_
    refine ok_as rfl rfl ?_
    refine ok_nil ?_
    refine rk_ret ?_
    obtain rfl := someE h0
    exact finD (.inr rfl) (v := .d (.tup [.agg [.int .u8 0, .int .i64 0, .int .i64 0, .int .i64 0], .int .i64 r1])) rfl rfl (.refl _)
  · refine rk_skip ?_
    refine rk_seq ?_
    refine rk_seq ?_
    refine rk_region ?_
    refine ok_v (.d (.agg [.int .u8 p1.Turn, .int .i64 p1.At.X, .int .i64 p1.At.Y, .int .i64 p1.At.Z])) rfl rfl ?_
    obtain ⟨r3, h4, h0⟩ := bindE h0
    refine ok_pc [.d (.agg [.int .u8 p1.Turn, .int .i64 p1.At.X, .int .i64 p1.At.Y, .int .i64 p1.At.Z])] (frame_Check_ok p1 r3 h4) rfl rfl rfl (.inl rfl) ?_
    refine ok_as rfl rfl ?_
    refine ok_nil ?_
    refine rk_seq ?_
    refine rk_region ?_
    refine ok_mv rfl rfl ?_
    refine ok_v (.d (.bool (r3 != 0))) rfl rfl ?_
    refine ok_nil ?_
    refine rk_condH rfl h0 (fun _ h0 => ?_) (fun _ h0 => ?_)
    · refine rk_seq ?_
      refine rk_region ?_
      refine ok_v (.d (.agg [.int .u8 0, .int .i64 0, .int .i64 0, .int .i64 0])) rfl rfl ?_
      refine ok_mv rfl rfl ?_
      refine ok_sto 2 (.dat 4 [[.int .u8 0, .int .i64 0, .int .i64 0, .int .i64 0]]) rfl rfl ?_
      refine ok_as rfl rfl ?_
      refine ok_nil ?_
      refine rk_ret ?_
      obtain rfl := someE h0
      exact finD (.inr rfl) (v := .d (.tup [.agg [.int .u8 0, .int .i64 0, .int .i64 0, .int .i64 0], .int .i64 r3])) rfl rfl (.refl _)
    · refine rk_skip ?_
      refine rk_seq ?_
      refine rk_region ?_
      refine ok_v (.d (.agg [.int .u8 p0.Turn, .int .i64 p0.At.X, .int .i64 p0.At.Y, .int .i64 p0.At.Z])) rfl rfl ?_
      refine ok_v (.d (.agg [.int .u8 p1.Turn, .int .i64 p1.At.X, .int .i64 p1.At.Y, .int .i64 p1.At.Z])) rfl rfl ?_
      obtain ⟨r5, h6, h0⟩ := bindE h0
      refine ok_pc [.d (.agg [.int .u8 p0.Turn, .int .i64 p0.At.X, .int .i64 p0.At.Y, .int .i64 p0.At.Z]), .d (.agg [.int .u8 p1.Turn, .int .i64 p1.At.X, .int .i64 p1.At.Y, .int .i64 p1.At.Z])] (frame_within_ok p0 p1 r5 h6) rfl rfl rfl (.inl rfl) ?_
      refine ok_alloc rfl rfl ?_
      refine ok_sto 3 (.dat 4 [[.int .u8 r5.Turn, .int .i64 r5.At.X, .int .i64 r5.At.Y, .int .i64 r5.At.Z]]) rfl rfl ?_
      refine ok_nil ?_
      refine rk_seq ?_
      refine rk_seq ?_
      refine rk_region ?_
      refine ok_v (.d (.agg [.int .u8 r5.Turn, .int .i64 r5.At.X, .int .i64 r5.At.Y, .int .i64 r5.At.Z])) rfl rfl ?_
      obtain ⟨r7, h8, h0⟩ := bindE h0
      refine ok_pc [.d (.agg [.int .u8 r5.Turn, .int .i64 r5.At.X, .int .i64 r5.At.Y, .int .i64 r5.At.Z])] (frame_Check_ok r5 r7 h8) rfl rfl rfl (.inl rfl) ?_
      refine ok_v (.d (.bool (r7 != 0))) rfl rfl ?_
      refine ok_nil ?_
      refine rk_condH rfl h0 (fun _ h0 => ?_) (fun _ h0 => ?_)
      · refine rk_seq ?_
        refine rk_region ?_
        refine ok_v (.d (.agg [.int .u8 0, .int .i64 0, .int .i64 0, .int .i64 0])) rfl rfl ?_
        refine ok_sto 2 (.dat 4 [[.int .u8 0, .int .i64 0, .int .i64 0, .int .i64 0]]) rfl rfl ?_
        refine ok_as rfl rfl ?_
        refine ok_nil ?_
        refine rk_ret ?_
        obtain rfl := someE h0
        exact finD (.inr rfl) (v := .d (.tup [.agg [.int .u8 0, .int .i64 0, .int .i64 0, .int .i64 0], .int .i64 16])) rfl rfl (.refl _)
      · refine rk_skip ?_
        refine rk_seq ?_
        refine rk_region ?_
        refine ok_v (.d (.agg [.int .u8 r5.Turn, .int .i64 r5.At.X, .int .i64 r5.At.Y, .int .i64 r5.At.Z])) rfl rfl ?_
        refine ok_sto 2 (.dat 4 [[.int .u8 r5.Turn, .int .i64 r5.At.X, .int .i64 r5.At.Y, .int .i64 r5.At.Z]]) rfl rfl ?_
        refine ok_as rfl rfl ?_
        refine ok_nil ?_
        refine rk_ret ?_
        obtain rfl := someE h0
        exact finD (.inr rfl) (v := .d (.tup [.agg [.int .u8 r5.Turn, .int .i64 r5.At.X, .int .i64 r5.At.Y, .int .i64 r5.At.Z], .int .i64 0])) rfl rfl (.refl _)

set_option maxRecDepth 100000 in
set_option maxHeartbeats 8000000 in
theorem frame_Inside_ok (p0 : api_Scope) (p1 : api_Vec) (p2 : api_Vec) (p3 : Int) (r : api_Scope × Int) (h0 : frame_Inside p0 p1 p2 p3 = some r) : Pure Try.prog tab 21 [.agg [.int .u8 p0.Frame.Turn, .int .i64 p0.Frame.At.X, .int .i64 p0.Frame.At.Y, .int .i64 p0.Frame.At.Z, .int .i64 p0.Size.X, .int .i64 p0.Size.Y, .int .i64 p0.Size.Z], .agg [.int .i64 p1.X, .int .i64 p1.Y, .int .i64 p1.Z], .agg [.int .i64 p2.X, .int .i64 p2.Y, .int .i64 p2.Z], .int .u8 p3] (.tup [.agg [.int .u8 r.1.Frame.Turn, .int .i64 r.1.Frame.At.X, .int .i64 r.1.Frame.At.Y, .int .i64 r.1.Frame.At.Z, .int .i64 r.1.Size.X, .int .i64 r.1.Size.Y, .int .i64 r.1.Size.Z], .int .i64 r.2]) := by
  unfold frame_Inside at h0
  refine pure_of_run Try.func21 rfl (by kernel_rfl) (by kernel_rfl) rfl ?_
  refine rk_seq ?_
  refine rk_region ?_
  refine ok_new (.ref 0 7 0 0) (.dat 7 [[.int .u8 p0.Frame.Turn, .int .i64 p0.Frame.At.X, .int .i64 p0.Frame.At.Y, .int .i64 p0.Frame.At.Z, .int .i64 p0.Size.X, .int .i64 p0.Size.Y, .int .i64 p0.Size.Z]]) rfl rfl ?_
  refine ok_new (.ref 1 3 0 0) (.dat 3 [[.int .i64 p1.X, .int .i64 p1.Y, .int .i64 p1.Z]]) rfl rfl ?_
  refine ok_new (.ref 2 3 0 0) (.dat 3 [[.int .i64 p2.X, .int .i64 p2.Y, .int .i64 p2.Z]]) rfl rfl ?_
  refine ok_alloc rfl rfl ?_
  refine ok_as rfl rfl ?_
  refine ok_nil ?_
  refine rk_seq ?_
  refine rk_seq ?_
  refine rk_region ?_
  refine ok_v (.d (.agg [.int .u8 p0.Frame.Turn, .int .i64 p0.Frame.At.X, .int .i64 p0.Frame.At.Y, .int .i64 p0.Frame.At.Z, .int .i64 p0.Size.X, .int .i64 p0.Size.Y, .int .i64 p0.Size.Z])) rfl rfl ?_
  obtain ⟨r1, h2, h0⟩ := bindE h0
  refine ok_pc [.d (.agg [.int .u8 p0.Frame.Turn, .int .i64 p0.Frame.At.X, .int .i64 p0.Frame.At.Y, .int .i64 p0.Frame.At.Z, .int .i64 p0.Size.X, .int .i64 p0.Size.Y, .int .i64 p0.Size.Z])] (frame_checked_ok p0 r1 h2) rfl rfl rfl (.inl rfl) ?_
  refine ok_as rfl rfl ?_
  refine ok_nil ?_
  refine rk_seq ?_
  refine rk_region ?_
  refine ok_mv rfl rfl ?_
  refine ok_v (.d (.bool (r1 != 0))) rfl rfl ?_
  refine ok_nil ?_
  refine rk_condH rfl h0 (fun _ h0 => ?_) (fun _ h0 => ?_)
  · refine rk_seq ?_
    refine rk_region ?_
    refine ok_v (.d (.agg [.int .u8 0, .int .i64 0, .int .i64 0, .int .i64 0, .int .i64 0, .int .i64 0, .int .i64 0])) rfl rfl ?_
    refine ok_mv rfl rfl ?_
    refine ok_sto 3 (.dat 7 [[.int .u8 0, .int .i64 0, .int .i64 0, .int .i64 0, .int .i64 0, .int .i64 0, .int .i64 0]]) rfl rfl ?_
    refine ok_as rfl rfl ?_
    refine ok_nil ?_
    refine rk_ret ?_
    obtain rfl := someE h0
    exact finD (.inr rfl) (v := .d (.tup [.agg [.int .u8 0, .int .i64 0, .int .i64 0, .int .i64 0, .int .i64 0, .int .i64 0, .int .i64 0], .int .i64 r1])) rfl rfl (.refl _)
  · refine rk_skip ?_
    refine rk_seq ?_
    refine rk_region ?_
    refine ok_mv rfl rfl ?_
    refine ok_v (.d (.agg [.int .i64 p1.X, .int .i64 p1.Y, .int .i64 p1.Z])) rfl rfl ?_
    refine ok_v (.d (.agg [.int .u8 p3, .int .i64 p1.X, .int .i64 p1.Y, .int .i64 p1.Z])) rfl rfl ?_
    refine ok_alloc rfl rfl ?_
    refine ok_sto 4 (.dat 4 [[.int .u8 p3, .int .i64 p1.X, .int .i64 p1.Y, .int .i64 p1.Z]]) rfl rfl ?_
    refine ok_nil ?_
    refine rk_seq ?_
    refine rk_seq ?_
    refine rk_region ?_
    refine ok_v (.d (.agg [.int .u8 p3, .int .i64 p1.X, .int .i64 p1.Y, .int .i64 p1.Z])) rfl rfl ?_
    obtain ⟨r3, h4, h0⟩ := bindE h0
    refine ok_pc [.d (.agg [.int .u8 p3, .int .i64 p1.X, .int .i64 p1.Y, .int .i64 p1.Z])] (frame_Check_ok ({ Turn := p3, At := p1 } : api_Frame) r3 h4) rfl rfl rfl (.inl rfl) ?_
    refine ok_v (.d (.bool (r3 != 0))) rfl rfl ?_
    obtain ⟨c7, h8, h0⟩ := bindE h0
    refine ok_cutQ 5 (fun A st => ∃ (j9 j10 j11 j12 : V), st = A [(29, .d (.bool c7)), (28, j12), (27, j11), (26, j10), (25, j9)]) ?_ ?_
    · refine ok_mvB rfl rfl h8 (fun h8 => ?_) (fun h8 => ?_)
      · refine ok_sg rfl ?_
        refine ok_sg rfl ?_
        refine ok_sg rfl ?_
        refine ok_v (.d (.bool true)) rfl rfl ?_
        refine ok_nil ?_
        obtain rfl := someE h8
        exact ⟨_, _, _, _, rfl⟩
      · refine ok_v (.d (.agg [.int .i64 p2.X, .int .i64 p2.Y, .int .i64 p2.Z])) rfl rfl ?_
        obtain ⟨r13, h14, h8⟩ := bindE h8
        refine ok_pc [.d (.agg [.int .i64 p2.X, .int .i64 p2.Y, .int .i64 p2.Z]), .d (.int .i64 0)] (frame_fine_ok p2 0 r13 h14) rfl rfl rfl (.inl rfl) ?_
        refine ok_v (.d (.bool (!r13))) rfl rfl ?_
        refine ok_v (.d (.bool (!r13))) rfl rfl ?_
        refine ok_nil ?_
        obtain rfl := someE h8
        exact ⟨_, _, _, _, rfl⟩
    · rintro _ ⟨j9, j10, j11, j12, rfl⟩
      refine ok_nil ?_
      refine rk_condH rfl h0 (fun _ h0 => ?_) (fun _ h0 => ?_)
      · refine rk_seq ?_
        refine rk_region ?_
        refine ok_v (.d (.agg [.int .u8 0, .int .i64 0, .int .i64 0, .int .i64 0, .int .i64 0, .int .i64 0, .int .i64 0])) rfl rfl ?_
        refine ok_sto 3 (.dat 7 [[.int .u8 0, .int .i64 0, .int .i64 0, .int .i64 0, .int .i64 0, .int .i64 0, .int .i64 0]]) rfl rfl ?_
        refine ok_as rfl rfl ?_
        refine ok_nil ?_
        refine rk_ret ?_
        obtain rfl := someE h0
        exact finD (.inr rfl) (v := .d (.tup [.agg [.int .u8 0, .int .i64 0, .int .i64 0, .int .i64 0, .int .i64 0, .int .i64 0, .int .i64 0], .int .i64 2])) rfl rfl (.refl _)
      · refine rk_skip ?_
        refine rk_seq ?_
        refine rk_region ?_
        refine ok_v (.d (.agg [.int .u8 p3, .int .i64 p1.X, .int .i64 p1.Y, .int .i64 p1.Z])) rfl rfl ?_
        refine ok_v (.ref 0 7 0 0) rfl rfl ?_
        refine ok_v (.d (.agg [.int .u8 p0.Frame.Turn, .int .i64 p0.Frame.At.X, .int .i64 p0.Frame.At.Y, .int .i64 p0.Frame.At.Z])) rfl rfl ?_
        obtain ⟨r15, h16, h0⟩ := bindE h0
        refine ok_pc [.d (.agg [.int .u8 p3, .int .i64 p1.X, .int .i64 p1.Y, .int .i64 p1.Z]), .d (.agg [.int .u8 p0.Frame.Turn, .int .i64 p0.Frame.At.X, .int .i64 p0.Frame.At.Y, .int .i64 p0.Frame.At.Z])] (frame_Within_ok ({ Turn := p3, At := p1 } : api_Frame) p0.Frame r15 h16) rfl rfl rfl (.inl rfl) ?_
        refine ok_mv rfl rfl ?_
        refine ok_v (.d (.agg [.int .u8 r15.1.Turn, .int .i64 r15.1.At.X, .int .i64 r15.1.At.Y, .int .i64 r15.1.At.Z])) rfl rfl ?_
        refine ok_v (.d (.int .i64 r15.2)) rfl rfl ?_
        refine ok_sto 4 (.dat 4 [[.int .u8 r15.1.Turn, .int .i64 r15.1.At.X, .int .i64 r15.1.At.Y, .int .i64 r15.1.At.Z]]) rfl rfl ?_
        refine ok_as rfl rfl ?_
        refine ok_nil ?_
        refine rk_seq ?_
        refine rk_seq ?_
        refine rk_region ?_
        refine ok_mv rfl rfl ?_
        refine ok_v (.d (.bool (r15.2 != 0))) rfl rfl ?_
        refine ok_nil ?_
        refine rk_condH rfl h0 (fun _ h0 => ?_) (fun _ h0 => ?_)
        · refine rk_seq ?_
          refine rk_region ?_
          refine ok_v (.d (.agg [.int .u8 0, .int .i64 0, .int .i64 0, .int .i64 0, .int .i64 0, .int .i64 0, .int .i64 0])) rfl rfl ?_
          refine ok_mv rfl rfl ?_
          refine ok_sto 3 (.dat 7 [[.int .u8 0, .int .i64 0, .int .i64 0, .int .i64 0, .int .i64 0, .int .i64 0, .int .i64 0]]) rfl rfl ?_
          refine ok_as rfl rfl ?_
          refine ok_nil ?_
          refine rk_ret ?_
          obtain rfl := someE h0
          exact finD (.inr rfl) (v := .d (.tup [.agg [.int .u8 0, .int .i64 0, .int .i64 0, .int .i64 0, .int .i64 0, .int .i64 0, .int .i64 0], .int .i64 r15.2])) rfl rfl (.refl _)
        · refine rk_skip ?_
          refine rk_seq ?_
          refine rk_region ?_
          refine ok_v (.d (.agg [.int .u8 r15.1.Turn, .int .i64 r15.1.At.X, .int .i64 r15.1.At.Y, .int .i64 r15.1.At.Z])) rfl rfl ?_
          refine ok_v (.d (.agg [.int .i64 p2.X, .int .i64 p2.Y, .int .i64 p2.Z])) rfl rfl ?_
          refine ok_v (.d (.agg [.int .u8 r15.1.Turn, .int .i64 r15.1.At.X, .int .i64 r15.1.At.Y, .int .i64 r15.1.At.Z, .int .i64 p2.X, .int .i64 p2.Y, .int .i64 p2.Z])) rfl rfl ?_
          refine ok_sto 3 (.dat 7 [[.int .u8 r15.1.Turn, .int .i64 r15.1.At.X, .int .i64 r15.1.At.Y, .int .i64 r15.1.At.Z, .int .i64 p2.X, .int .i64 p2.Y, .int .i64 p2.Z]]) rfl rfl ?_
          refine ok_as rfl rfl ?_
          refine ok_nil ?_
          refine rk_ret ?_
          obtain rfl := someE h0
          exact finD (.inr rfl) (v := .d (.tup [.agg [.int .u8 r15.1.Turn, .int .i64 r15.1.At.X, .int .i64 r15.1.At.Y, .int .i64 r15.1.At.Z, .int .i64 p2.X, .int .i64 p2.Y, .int .i64 p2.Z], .int .i64 0])) rfl rfl (.refl _)

set_option maxRecDepth 100000 in
set_option maxHeartbeats 8000000 in
theorem raise_checked_ok (p0 : api_Scope) (r : Int) (h0 : raise_checked p0 = some r) : Pure Try.prog tab 18 [.agg [.int .u8 p0.Frame.Turn, .int .i64 p0.Frame.At.X, .int .i64 p0.Frame.At.Y, .int .i64 p0.Frame.At.Z, .int .i64 p0.Size.X, .int .i64 p0.Size.Y, .int .i64 p0.Size.Z]] (.int .i64 r) := by
  unfold raise_checked at h0
  refine pure_of_run Try.func18 rfl (by kernel_rfl) (by kernel_rfl) rfl ?_
  refine rk_seq ?_
  refine rk_region ?_
  refine ok_new (.ref 0 7 0 0) (.dat 7 [[.int .u8 p0.Frame.Turn, .int .i64 p0.Frame.At.X, .int .i64 p0.Frame.At.Y, .int .i64 p0.Frame.At.Z, .int .i64 p0.Size.X, .int .i64 p0.Size.Y, .int .i64 p0.Size.Z]]) rfl rfl ?_
  refine ok_as rfl rfl ?_
  refine ok_nil ?_
  refine rk_seq ?_
  refine rk_seq ?_
  refine rk_region ?_
  refine ok_v (.d (.agg [.int .u8 p0.Frame.Turn, .int .i64 p0.Frame.At.X, .int .i64 p0.Frame.At.Y, .int .i64 p0.Frame.At.Z, .int .i64 p0.Size.X, .int .i64 p0.Size.Y, .int .i64 p0.Size.Z])) rfl rfl ?_
  refine ok_v (.d (.agg [.int .i64 0, .int .i64 0, .int .i64 0])) rfl rfl ?_
  refine ok_v (.d (.agg [.int .i64 0, .int .i64 0, .int .i64 0])) rfl rfl ?_
  obtain ⟨r1, h2, h0⟩ := bindE h0
  refine ok_pc [.d (.agg [.int .u8 p0.Frame.Turn, .int .i64 p0.Frame.At.X, .int .i64 p0.Frame.At.Y, .int .i64 p0.Frame.At.Z, .int .i64 p0.Size.X, .int .i64 p0.Size.Y, .int .i64 p0.Size.Z]), .d (.agg [.int .i64 0, .int .i64 0, .int .i64 0]), .d (.agg [.int .i64 0, .int .i64 0, .int .i64 0]), .d (.int .u8 0)] (frame_Inside_ok p0 ({ X := 0, Y := 0, Z := 0 } : api_Vec) ({ X := 0, Y := 0, Z := 0 } : api_Vec) 0 r1 h2) rfl rfl rfl (.inl rfl) ?_
  refine ok_mv rfl rfl ?_
  refine ok_v (.d (.agg [.int .u8 r1.1.Frame.Turn, .int .i64 r1.1.Frame.At.X, .int .i64 r1.1.Frame.At.Y, .int .i64 r1.1.Frame.At.Z, .int .i64 r1.1.Size.X, .int .i64 r1.1.Size.Y, .int .i64 r1.1.Size.Z])) rfl rfl ?_
  refine ok_v (.d (.int .i64 r1.2)) rfl rfl ?_
  refine ok_alloc rfl rfl ?_
  refine ok_sto 1 (.dat 7 [[.int .u8 r1.1.Frame.Turn, .int .i64 r1.1.Frame.At.X, .int .i64 r1.1.Frame.At.Y, .int .i64 r1.1.Frame.At.Z, .int .i64 r1.1.Size.X, .int .i64 r1.1.Size.Y, .int .i64 r1.1.Size.Z]]) rfl rfl ?_
  refine ok_as rfl rfl ?_
  refine ok_nil ?_
  refine rk_seq ?_
  refine rk_region ?_
  refine ok_mv rfl rfl ?_
  refine ok_v (.d (.bool (r1.2 != 0))) rfl rfl ?_
  refine ok_nil ?_
  refine rk_condH rfl h0 (fun _ h0 => ?_) (fun _ h0 => ?_)
  · refine rk_seq ?_
    refine rk_region ?_
    refine ok_as rfl rfl ?_
    refine ok_nil ?_
    refine rk_ret ?_
    obtain rfl := someE h0
    exact finD (.inr rfl) (v := .d (.int .i64 8)) rfl rfl (.refl _)
  · refine rk_skip ?_
    refine rk_seq ?_
    refine rk_region ?_
    refine ok_as rfl rfl ?_
    refine ok_nil ?_
    refine rk_ret ?_
    obtain rfl := someE h0
    exact finD (.inr rfl) (v := .d (.int .i64 0)) rfl rfl (.refl _)

set_option maxRecDepth 100000 in
set_option maxHeartbeats 8000000 in
theorem raise_face_ok (p0 : api_Vec) (p1 : Int) (r : Int × api_Vec × api_Vec) (h0 : raise_face p0 p1 = some r) : Pure Try.prog tab 20 [.agg [.int .i64 p0.X, .int .i64 p0.Y, .int .i64 p0.Z], .int .i64 p1] (.tup [.int .u8 r.1, .agg [.int .i64 r.2.1.X, .int .i64 r.2.1.Y, .int .i64 r.2.1.Z], .agg [.int .i64 r.2.2.X, .int .i64 r.2.2.Y, .int .i64 r.2.2.Z]]) := by
  unfold raise_face at h0
  refine pure_of_run Try.func20 rfl (by kernel_rfl) (by kernel_rfl) rfl ?_
  refine rk_seq ?_
  refine rk_region ?_
  refine ok_new (.ref 0 3 0 0) (.dat 3 [[.int .i64 p0.X, .int .i64 p0.Y, .int .i64 p0.Z]]) rfl rfl ?_
  refine ok_as rfl rfl ?_
  refine ok_alloc rfl rfl ?_
  refine ok_alloc rfl rfl ?_
  refine ok_nil ?_
  refine rk_seq ?_
  refine rk_regionD [(some [], []), (some [], []), (some [], []), (some [0], []), (some [], []), (some [0], []), (some [], []), (some [0], []), (some [], [])] (by kernel_rfl) ?_
  refine ok_v (.ref 0 3 0 0) rfl rfl ?_
  refine ok_v (.d (.int .i64 p0.X)) rfl rfl ?_
  refine ok_v (.ref 0 3 0 1) rfl rfl ?_
  refine ok_v (.d (.int .i64 p0.Y)) rfl rfl ?_
  refine ok_v (.ref 0 3 0 2) rfl rfl ?_
  refine ok_v (.d (.int .i64 p0.Z)) rfl rfl ?_
  refine ok_as rfl rfl ?_
  refine ok_as rfl rfl ?_
  refine ok_as rfl rfl ?_
  refine ok_nil ?_
  refine rk_seq ?_
  refine rk_region ?_
  refine ok_mv rfl rfl ?_
  refine ok_v (.d (.agg [.int .i64 p0.X, .int .i64 0, .int .i64 0])) rfl rfl ?_
  refine ok_mv rfl rfl ?_
  refine ok_mv rfl rfl ?_
  refine ok_v (.d (.agg [.int .i64 p0.Y, .int .i64 p0.Z, .int .i64 0])) rfl rfl ?_
  refine ok_v (.d (.agg [.int .u8 10, .int .i64 p0.X, .int .i64 0, .int .i64 0, .int .i64 p0.Y, .int .i64 p0.Z, .int .i64 0])) rfl rfl ?_
  refine ok_mv rfl rfl ?_
  refine ok_v (.d (.agg [.int .i64 0, .int .i64 0, .int .i64 p0.Z])) rfl rfl ?_
  refine ok_mv rfl rfl ?_
  refine ok_mv rfl rfl ?_
  refine ok_v (.d (.agg [.int .i64 p0.Y, .int .i64 p0.Z, .int .i64 0])) rfl rfl ?_
  refine ok_v (.d (.agg [.int .u8 11, .int .i64 0, .int .i64 0, .int .i64 p0.Z, .int .i64 p0.Y, .int .i64 p0.Z, .int .i64 0])) rfl rfl ?_
  refine ok_mv rfl rfl ?_
  refine ok_mv rfl rfl ?_
  refine ok_v (.d (.agg [.int .i64 0, .int .i64 p0.Y, .int .i64 p0.Z])) rfl rfl ?_
  refine ok_mv rfl rfl ?_
  refine ok_mv rfl rfl ?_
  refine ok_v (.d (.agg [.int .i64 p0.X, .int .i64 p0.Z, .int .i64 0])) rfl rfl ?_
  refine ok_v (.d (.agg [.int .u8 3, .int .i64 0, .int .i64 p0.Y, .int .i64 p0.Z, .int .i64 p0.X, .int .i64 p0.Z, .int .i64 0])) rfl rfl ?_
  refine ok_v (.d (.agg [.int .i64 0, .int .i64 0, .int .i64 0])) rfl rfl ?_
  refine ok_mv rfl rfl ?_
  refine ok_mv rfl rfl ?_
  refine ok_v (.d (.agg [.int .i64 p0.X, .int .i64 p0.Z, .int .i64 0])) rfl rfl ?_
  refine ok_v (.d (.agg [.int .u8 2, .int .i64 0, .int .i64 0, .int .i64 0, .int .i64 p0.X, .int .i64 p0.Z, .int .i64 0])) rfl rfl ?_
  refine ok_mv rfl rfl ?_
  refine ok_v (.d (.agg [.int .i64 0, .int .i64 0, .int .i64 p0.Z])) rfl rfl ?_
  refine ok_mv rfl rfl ?_
  refine ok_mv rfl rfl ?_
  refine ok_v (.d (.agg [.int .i64 p0.X, .int .i64 p0.Y, .int .i64 0])) rfl rfl ?_
  refine ok_v (.d (.agg [.int .u8 0, .int .i64 0, .int .i64 0, .int .i64 p0.Z, .int .i64 p0.X, .int .i64 p0.Y, .int .i64 0])) rfl rfl ?_
  refine ok_mv rfl rfl ?_
  refine ok_v (.d (.agg [.int .i64 0, .int .i64 p0.Y, .int .i64 0])) rfl rfl ?_
  refine ok_mv rfl rfl ?_
  refine ok_mv rfl rfl ?_
  refine ok_v (.d (.agg [.int .i64 p0.X, .int .i64 p0.Y, .int .i64 0])) rfl rfl ?_
  refine ok_v (.d (.agg [.int .u8 1, .int .i64 0, .int .i64 p0.Y, .int .i64 0, .int .i64 p0.X, .int .i64 p0.Y, .int .i64 0])) rfl rfl ?_
  refine ok_v (.d (.agg [.int .u8 10, .int .i64 p0.X, .int .i64 0, .int .i64 0, .int .i64 p0.Y, .int .i64 p0.Z, .int .i64 0, .int .u8 11, .int .i64 0, .int .i64 0, .int .i64 p0.Z, .int .i64 p0.Y, .int .i64 p0.Z, .int .i64 0, .int .u8 3, .int .i64 0, .int .i64 p0.Y, .int .i64 p0.Z, .int .i64 p0.X, .int .i64 p0.Z, .int .i64 0, .int .u8 2, .int .i64 0, .int .i64 0, .int .i64 0, .int .i64 p0.X, .int .i64 p0.Z, .int .i64 0, .int .u8 0, .int .i64 0, .int .i64 0, .int .i64 p0.Z, .int .i64 p0.X, .int .i64 p0.Y, .int .i64 0, .int .u8 1, .int .i64 0, .int .i64 p0.Y, .int .i64 0, .int .i64 p0.X, .int .i64 p0.Y, .int .i64 0])) rfl rfl ?_
  refine ok_alloc rfl rfl ?_
  refine ok_sto 3 (.dat 42 [[({ t_ := 10, at_ := ({ X := p0.X, Y := 0, Z := 0 } : api_Vec), flat_ := ({ X := p0.Y, Y := p0.Z, Z := 0 } : api_Vec) } : T_struct_3_t_5_0_0_raise), ({ t_ := 11, at_ := ({ X := 0, Y := 0, Z := p0.Z } : api_Vec), flat_ := ({ X := p0.Y, Y := p0.Z, Z := 0 } : api_Vec) } : T_struct_3_t_5_0_0_raise), ({ t_ := 3, at_ := ({ X := 0, Y := p0.Y, Z := p0.Z } : api_Vec), flat_ := ({ X := p0.X, Y := p0.Z, Z := 0 } : api_Vec) } : T_struct_3_t_5_0_0_raise), ({ t_ := 2, at_ := ({ X := 0, Y := 0, Z := 0 } : api_Vec), flat_ := ({ X := p0.X, Y := p0.Z, Z := 0 } : api_Vec) } : T_struct_3_t_5_0_0_raise), ({ t_ := 0, at_ := ({ X := 0, Y := 0, Z := p0.Z } : api_Vec), flat_ := ({ X := p0.X, Y := p0.Y, Z := 0 } : api_Vec) } : T_struct_3_t_5_0_0_raise), ({ t_ := 1, at_ := ({ X := 0, Y := p0.Y, Z := 0 } : api_Vec), flat_ := ({ X := p0.X, Y := p0.Y, Z := 0 } : api_Vec) } : T_struct_3_t_5_0_0_raise)].flatMap enc_T_struct_3_t_5_0_0_raise]) rfl rfl ?_
  refine ok_nil ?_
  refine rk_seq ?_
  refine rk_regionD [(some [2], [2]), (some [1], [1]), (some [], []), (some [3], []), (some [], []), (some [], []), (some [], []), (some [3], []), (some [], []), (some [], []), (some [], []), (some [3], []), (some [], []), (some [], []), (some [], [])] (by kernel_rfl) ?_
  refine ok_mv rfl rfl ?_
  obtain ⟨v1, h2, h0⟩ := bindE h0
  refine ok_iaA h2 rfl rfl rfl rfl rfl ?_
  refine ok_v (.ref 3 42 0 (p1.toNat * 7 + 0)) rfl rfl ?_
  refine ok_ldAf (enc := enc_T_struct_3_t_5_0_0_raise) (.d (.int .u8 v1.t_)) h2 (fun _ => rfl) rfl rfl rfl rfl rfl rfl ?_
  refine ok_mv rfl rfl ?_
  obtain ⟨v3, h4, h0⟩ := bindE h0
  refine ok_iaA h4 rfl rfl rfl rfl rfl ?_
  refine ok_v (.ref 3 42 0 (p1.toNat * 7 + 1)) rfl rfl ?_
  refine ok_ldAf (enc := enc_T_struct_3_t_5_0_0_raise) (.d (.agg [.int .i64 v3.at_.X, .int .i64 v3.at_.Y, .int .i64 v3.at_.Z])) h4 (fun _ => rfl) rfl rfl rfl rfl rfl rfl ?_
  refine ok_mv rfl rfl ?_
  obtain ⟨v5, h6, h0⟩ := bindE h0
  refine ok_iaA h6 rfl rfl rfl rfl rfl ?_
  refine ok_v (.ref 3 42 0 (p1.toNat * 7 + 4)) rfl rfl ?_
  refine ok_ldAf (enc := enc_T_struct_3_t_5_0_0_raise) (.d (.agg [.int .i64 v5.flat_.X, .int .i64 v5.flat_.Y, .int .i64 v5.flat_.Z])) h6 (fun _ => rfl) rfl rfl rfl rfl rfl rfl ?_
  refine ok_as rfl rfl ?_
  refine ok_sto 1 (.dat 3 [[.int .i64 v3.at_.X, .int .i64 v3.at_.Y, .int .i64 v3.at_.Z]]) rfl rfl ?_
  refine ok_sto 2 (.dat 3 [[.int .i64 v5.flat_.X, .int .i64 v5.flat_.Y, .int .i64 v5.flat_.Z]]) rfl rfl ?_
  refine ok_nil ?_
  refine rk_ret ?_
  obtain rfl := someE h0
  exact finD (.inr rfl) (v := .d (.tup [.int .u8 v1.t_, .agg [.int .i64 v3.at_.X, .int .i64 v3.at_.Y, .int .i64 v3.at_.Z], .agg [.int .i64 v5.flat_.X, .int .i64 v5.flat_.Y, .int .i64 v5.flat_.Z]])) rfl rfl (.refl _)

set_option maxRecDepth 100000 in
set_option maxHeartbeats 8000000 in
theorem raise_Faces_1_e1_eff (p0 : Int) (p1 : Int) (p2 : Int) (p3 : Int) (p4 : Int) (p5 : Int) (p6 : Int) (p7 : Int) (p8 : List api_Scope) (r : Int × Int × Int × Int × Int × Int × Int × Int × List api_Scope) (h0 : raise_Faces_1_e1  p0 p1 p2 p3 p4 p5 p6 p7 p8 = some r) : EvCall Try.prog tab 19 [.d (.int .i64 p0), .ref 0 7 0 0, .ref 1 42 0 0] [(0, .dat 7 [[.int .u8 p1, .int .i64 p2, .int .i64 p3, .int .i64 p4, .int .i64 p5, .int .i64 p6, .int .i64 p7]]), (1, .dat 42 [p8.flatMap enc_api_Scope])] 2 (.d (.int .i64 r.1)) [(0, .dat 7 [[.int .u8 r.2.1, .int .i64 r.2.2.1, .int .i64 r.2.2.2.1, .int .i64 r.2.2.2.2.1, .int .i64 r.2.2.2.2.2.1, .int .i64 r.2.2.2.2.2.2.1, .int .i64 r.2.2.2.2.2.2.2.1]]), (1, .dat 42 [r.2.2.2.2.2.2.2.2.flatMap enc_api_Scope])] 2 := by
  unfold raise_Faces_1_e1 at h0
  refine eff_of_run Try.func19 rfl (by kernel_rfl) (by kernel_rfl) rfl ?_
  refine rk_seq ?_
  refine rk_region ?_
  refine ok_as rfl rfl ?_
  refine ok_nil ?_
  refine rk_seq ?_
  refine rk_region ?_
  refine ok_v (.ref 0 7 0 4) rfl rfl ?_
  refine ok_v (.d (.agg [.int .i64 p5, .int .i64 p6, .int .i64 p7])) rfl rfl ?_
  refine ok_mv rfl rfl ?_
  obtain ⟨r101, h102, h0⟩ := bindE h0
  refine ok_pc [.d (.agg [.int .i64 p5, .int .i64 p6, .int .i64 p7]), .d (.int .i64 p0)] (raise_face_ok ({ X := p5, Y := p6, Z := p7 } : api_Vec) p0 r101 h102) rfl rfl rfl (.inl rfl) ?_
  refine ok_mv rfl rfl ?_
  refine ok_v (.d (.int .u8 r101.1)) rfl rfl ?_
  refine ok_v (.d (.agg [.int .i64 r101.2.1.X, .int .i64 r101.2.1.Y, .int .i64 r101.2.1.Z])) rfl rfl ?_
  refine ok_v (.d (.agg [.int .i64 r101.2.2.X, .int .i64 r101.2.2.Y, .int .i64 r101.2.2.Z])) rfl rfl ?_
  refine ok_alloc rfl rfl ?_
  refine ok_alloc rfl rfl ?_
  refine ok_as rfl rfl ?_
  refine ok_sto 2 (.dat 3 [[.int .i64 r101.2.1.X, .int .i64 r101.2.1.Y, .int .i64 r101.2.1.Z]]) rfl rfl ?_
  refine ok_sto 3 (.dat 3 [[.int .i64 r101.2.2.X, .int .i64 r101.2.2.Y, .int .i64 r101.2.2.Z]]) rfl rfl ?_
  refine ok_nil ?_
  refine rk_seq ?_
  refine rk_region ?_
  refine ok_mv rfl rfl ?_
  refine ok_v (.d (.agg [.int .u8 p1, .int .i64 p2, .int .i64 p3, .int .i64 p4, .int .i64 p5, .int .i64 p6, .int .i64 p7])) rfl rfl ?_
  refine ok_v (.d (.agg [.int .i64 r101.2.1.X, .int .i64 r101.2.1.Y, .int .i64 r101.2.1.Z])) rfl rfl ?_
  refine ok_v (.d (.agg [.int .i64 r101.2.2.X, .int .i64 r101.2.2.Y, .int .i64 r101.2.2.Z])) rfl rfl ?_
  refine ok_mv rfl rfl ?_
  obtain ⟨r103, h104, h0⟩ := bindE h0
  refine ok_pc [.d (.agg [.int .u8 p1, .int .i64 p2, .int .i64 p3, .int .i64 p4, .int .i64 p5, .int .i64 p6, .int .i64 p7]), .d (.agg [.int .i64 r101.2.1.X, .int .i64 r101.2.1.Y, .int .i64 r101.2.1.Z]), .d (.agg [.int .i64 r101.2.2.X, .int .i64 r101.2.2.Y, .int .i64 r101.2.2.Z]), .d (.int .u8 r101.1)] (frame_Inside_ok ({ Frame := ({ Turn := p1, At := ({ X := p2, Y := p3, Z := p4 } : api_Vec) } : api_Frame), Size := ({ X := p5, Y := p6, Z := p7 } : api_Vec) } : api_Scope) r101.2.1 r101.2.2 r101.1 r103 h104) rfl rfl rfl (.inl rfl) ?_
  refine ok_mv rfl rfl ?_
  refine ok_v (.d (.agg [.int .u8 r103.1.Frame.Turn, .int .i64 r103.1.Frame.At.X, .int .i64 r103.1.Frame.At.Y, .int .i64 r103.1.Frame.At.Z, .int .i64 r103.1.Size.X, .int .i64 r103.1.Size.Y, .int .i64 r103.1.Size.Z])) rfl rfl ?_
  refine ok_v (.d (.int .i64 r103.2)) rfl rfl ?_
  obtain ⟨v105, h106, h0⟩ := bindE h0
  refine ok_iaA h106 rfl rfl rfl rfl rfl ?_
  refine ok_stA (enc := enc_api_Scope) r103.1 h106 (fun _ => rfl) rfl rfl rfl rfl rfl rfl rfl rfl ?_
  refine ok_as rfl rfl ?_
  refine ok_nil ?_
  refine rk_seq ?_
  refine rk_region ?_
  refine ok_mv rfl rfl ?_
  refine ok_as rfl rfl ?_
  refine ok_nil ?_
  refine rk_ret ?_
  obtain rfl := someE h0
  exact ⟨.inr rfl, _, rfl, wkE [] [] [] rfl ⟨⟨_, rfl, .d (.refl _)⟩, trivial⟩ ⟨⟨ltd rfl, .inr ⟨by decide, _, rfl, .dat _ _⟩⟩, ⟨ltd rfl, .inr ⟨by decide, _, rfl, .dat _ _⟩⟩, trivial⟩⟩

set_option maxRecDepth 100000 in
set_option maxHeartbeats 8000000 in
theorem raise_Faces_ok (p0 : api_Scope) (r : (api_Scope × api_Scope × api_Scope × api_Scope × api_Scope × api_Scope) × Int) (h0 : raise_Faces p0 = some r) : Pure Try.prog tab 5 [.agg [.int .u8 p0.Frame.Turn, .int .i64 p0.Frame.At.X, .int .i64 p0.Frame.At.Y, .int .i64 p0.Frame.At.Z, .int .i64 p0.Size.X, .int .i64 p0.Size.Y, .int .i64 p0.Size.Z]] (.tup [.agg [.int .u8 r.1.1.Frame.Turn, .int .i64 r.1.1.Frame.At.X, .int .i64 r.1.1.Frame.At.Y, .int .i64 r.1.1.Frame.At.Z, .int .i64 r.1.1.Size.X, .int .i64 r.1.1.Size.Y, .int .i64 r.1.1.Size.Z, .int .u8 r.1.2.1.Frame.Turn, .int .i64 r.1.2.1.Frame.At.X, .int .i64 r.1.2.1.Frame.At.Y, .int .i64 r.1.2.1.Frame.At.Z, .int .i64 r.1.2.1.Size.X, .int .i64 r.1.2.1.Size.Y, .int .i64 r.1.2.1.Size.Z, .int .u8 r.1.2.2.1.Frame.Turn, .int .i64 r.1.2.2.1.Frame.At.X, .int .i64 r.1.2.2.1.Frame.At.Y, .int .i64 r.1.2.2.1.Frame.At.Z, .int .i64 r.1.2.2.1.Size.X, .int .i64 r.1.2.2.1.Size.Y, .int .i64 r.1.2.2.1.Size.Z, .int .u8 r.1.2.2.2.1.Frame.Turn, .int .i64 r.1.2.2.2.1.Frame.At.X, .int .i64 r.1.2.2.2.1.Frame.At.Y, .int .i64 r.1.2.2.2.1.Frame.At.Z, .int .i64 r.1.2.2.2.1.Size.X, .int .i64 r.1.2.2.2.1.Size.Y, .int .i64 r.1.2.2.2.1.Size.Z, .int .u8 r.1.2.2.2.2.1.Frame.Turn, .int .i64 r.1.2.2.2.2.1.Frame.At.X, .int .i64 r.1.2.2.2.2.1.Frame.At.Y, .int .i64 r.1.2.2.2.2.1.Frame.At.Z, .int .i64 r.1.2.2.2.2.1.Size.X, .int .i64 r.1.2.2.2.2.1.Size.Y, .int .i64 r.1.2.2.2.2.1.Size.Z, .int .u8 r.1.2.2.2.2.2.Frame.Turn, .int .i64 r.1.2.2.2.2.2.Frame.At.X, .int .i64 r.1.2.2.2.2.2.Frame.At.Y, .int .i64 r.1.2.2.2.2.2.Frame.At.Z, .int .i64 r.1.2.2.2.2.2.Size.X, .int .i64 r.1.2.2.2.2.2.Size.Y, .int .i64 r.1.2.2.2.2.2.Size.Z], .int .i64 r.2]) := by
  unfold raise_Faces at h0
  refine pure_of_run Try.func5 rfl (by kernel_rfl) (by kernel_rfl) rfl ?_
  refine rk_seq ?_
  refine rk_region ?_
  refine ok_new (.ref 0 7 0 0) (.dat 7 [[.int .u8 p0.Frame.Turn, .int .i64 p0.Frame.At.X, .int .i64 p0.Frame.At.Y, .int .i64 p0.Frame.At.Z, .int .i64 p0.Size.X, .int .i64 p0.Size.Y, .int .i64 p0.Size.Z]]) rfl rfl ?_
  refine ok_alloc rfl rfl ?_
  refine ok_as rfl rfl ?_
  refine ok_nil ?_
  refine rk_seq ?_
  refine rk_seq ?_
  refine rk_region ?_
  refine ok_v (.d (.agg [.int .u8 p0.Frame.Turn, .int .i64 p0.Frame.At.X, .int .i64 p0.Frame.At.Y, .int .i64 p0.Frame.At.Z, .int .i64 p0.Size.X, .int .i64 p0.Size.Y, .int .i64 p0.Size.Z])) rfl rfl ?_
  obtain ⟨r1, h2, h0⟩ := bindE h0
  refine ok_pc [.d (.agg [.int .u8 p0.Frame.Turn, .int .i64 p0.Frame.At.X, .int .i64 p0.Frame.At.Y, .int .i64 p0.Frame.At.Z, .int .i64 p0.Size.X, .int .i64 p0.Size.Y, .int .i64 p0.Size.Z])] (raise_checked_ok p0 r1 h2) rfl rfl rfl (.inl rfl) ?_
  refine ok_as rfl rfl ?_
  refine ok_nil ?_
  refine rk_seq ?_
  refine rk_region ?_
  refine ok_mv rfl rfl ?_
  refine ok_v (.d (.bool (r1 != 0))) rfl rfl ?_
  refine ok_nil ?_
  refine rk_condH rfl h0 (fun _ h0 => ?_) (fun _ h0 => ?_)
  · refine rk_seq ?_
    refine rk_region ?_
    refine ok_v (.d (.agg [.int .u8 0, .int .i64 0, .int .i64 0, .int .i64 0, .int .i64 0, .int .i64 0, .int .i64 0, .int .u8 0, .int .i64 0, .int .i64 0, .int .i64 0, .int .i64 0, .int .i64 0, .int .i64 0, .int .u8 0, .int .i64 0, .int .i64 0, .int .i64 0, .int .i64 0, .int .i64 0, .int .i64 0, .int .u8 0, .int .i64 0, .int .i64 0, .int .i64 0, .int .i64 0, .int .i64 0, .int .i64 0, .int .u8 0, .int .i64 0, .int .i64 0, .int .i64 0, .int .i64 0, .int .i64 0, .int .i64 0, .int .u8 0, .int .i64 0, .int .i64 0, .int .i64 0, .int .i64 0, .int .i64 0, .int .i64 0])) rfl rfl ?_
    refine ok_mv rfl rfl ?_
    refine ok_sto 1 (.dat 42 [[.int .u8 0, .int .i64 0, .int .i64 0, .int .i64 0, .int .i64 0, .int .i64 0, .int .i64 0, .int .u8 0, .int .i64 0, .int .i64 0, .int .i64 0, .int .i64 0, .int .i64 0, .int .i64 0, .int .u8 0, .int .i64 0, .int .i64 0, .int .i64 0, .int .i64 0, .int .i64 0, .int .i64 0, .int .u8 0, .int .i64 0, .int .i64 0, .int .i64 0, .int .i64 0, .int .i64 0, .int .i64 0, .int .u8 0, .int .i64 0, .int .i64 0, .int .i64 0, .int .i64 0, .int .i64 0, .int .i64 0, .int .u8 0, .int .i64 0, .int .i64 0, .int .i64 0, .int .i64 0, .int .i64 0, .int .i64 0]]) rfl rfl ?_
    refine ok_as rfl rfl ?_
    refine ok_nil ?_
    refine rk_ret ?_
    obtain rfl := someE h0
    exact finD (.inr rfl) (v := .d (.tup [.agg [.int .u8 0, .int .i64 0, .int .i64 0, .int .i64 0, .int .i64 0, .int .i64 0, .int .i64 0, .int .u8 0, .int .i64 0, .int .i64 0, .int .i64 0, .int .i64 0, .int .i64 0, .int .i64 0, .int .u8 0, .int .i64 0, .int .i64 0, .int .i64 0, .int .i64 0, .int .i64 0, .int .i64 0, .int .u8 0, .int .i64 0, .int .i64 0, .int .i64 0, .int .i64 0, .int .i64 0, .int .i64 0, .int .u8 0, .int .i64 0, .int .i64 0, .int .i64 0, .int .i64 0, .int .i64 0, .int .i64 0, .int .u8 0, .int .i64 0, .int .i64 0, .int .i64 0, .int .i64 0, .int .i64 0, .int .i64 0], .int .i64 r1])) rfl rfl (.refl _)
  · refine rk_skip ?_
    refine rk_seq ?_
    refine rk_region ?_
    refine ok_alloc rfl rfl ?_
    refine ok_nil ?_
    refine rk_seq ?_
    refine rk_region ?_
    refine ok_v (.fn 19 [.ref 0 7 0 0, .ref 2 42 0 0]) rfl rfl ?_
    refine ok_as rfl rfl ?_
    refine ok_nil ?_
    refine rk_seq ?_
    refine rk_seq ?_
    refine rk_region ?_
    refine ok_mv rfl rfl ?_
    refine ok_nil ?_
    obtain ⟨m14, h15, h0⟩ := bindE h0
    refine rk_blockcut (fun b16 => .inl b16 = m14) (fun (b16 : List api_Scope) => ⟨[(2, .ref 0 42 0 0), (5, .ref 1 42 0 0)], [(0, .dat 42 [[.int .u8 0, .int .i64 0, .int .i64 0, .int .i64 0, .int .i64 0, .int .i64 0, .int .i64 0, .int .u8 0, .int .i64 0, .int .i64 0, .int .i64 0, .int .i64 0, .int .i64 0, .int .i64 0, .int .u8 0, .int .i64 0, .int .i64 0, .int .i64 0, .int .i64 0, .int .i64 0, .int .i64 0, .int .u8 0, .int .i64 0, .int .i64 0, .int .i64 0, .int .i64 0, .int .i64 0, .int .i64 0, .int .u8 0, .int .i64 0, .int .i64 0, .int .i64 0, .int .i64 0, .int .i64 0, .int .i64 0, .int .u8 0, .int .i64 0, .int .i64 0, .int .i64 0, .int .i64 0, .int .i64 0, .int .i64 0]]), (1, .dat 42 [b16.flatMap enc_api_Scope])], 2⟩) (by simp) ?_ ?_
    · refine rk_loopF (raise_Faces_L1) (fun (a13 : Int × List api_Scope × Int × Int × Int × Int × Int × Int × Int) => ⟨[(2, .ref 0 42 0 0), (5, .ref 1 42 0 0), (6, .fn 19 [.ref 2 7 0 0, .ref 1 42 0 0]), (16, .d (.int .i64 a13.1))], [(0, .dat 42 [[.int .u8 0, .int .i64 0, .int .i64 0, .int .i64 0, .int .i64 0, .int .i64 0, .int .i64 0, .int .u8 0, .int .i64 0, .int .i64 0, .int .i64 0, .int .i64 0, .int .i64 0, .int .i64 0, .int .u8 0, .int .i64 0, .int .i64 0, .int .i64 0, .int .i64 0, .int .i64 0, .int .i64 0, .int .u8 0, .int .i64 0, .int .i64 0, .int .i64 0, .int .i64 0, .int .i64 0, .int .i64 0, .int .u8 0, .int .i64 0, .int .i64 0, .int .i64 0, .int .i64 0, .int .i64 0, .int .i64 0, .int .u8 0, .int .i64 0, .int .i64 0, .int .i64 0, .int .i64 0, .int .i64 0, .int .i64 0]]), (1, .dat 42 [a13.2.1.flatMap enc_api_Scope]), (2, .dat 7 [[.int .u8 a13.2.2.1, .int .i64 a13.2.2.2.1, .int .i64 a13.2.2.2.2.1, .int .i64 a13.2.2.2.2.2.1, .int .i64 a13.2.2.2.2.2.2.1, .int .i64 a13.2.2.2.2.2.2.2.1, .int .i64 a13.2.2.2.2.2.2.2.2]])], 3⟩) (0, [({ Frame := ({ Turn := 0, At := ({ X := 0, Y := 0, Z := 0 } : api_Vec) } : api_Frame), Size := ({ X := 0, Y := 0, Z := 0 } : api_Vec) } : api_Scope), ({ Frame := ({ Turn := 0, At := ({ X := 0, Y := 0, Z := 0 } : api_Vec) } : api_Frame), Size := ({ X := 0, Y := 0, Z := 0 } : api_Vec) } : api_Scope), ({ Frame := ({ Turn := 0, At := ({ X := 0, Y := 0, Z := 0 } : api_Vec) } : api_Frame), Size := ({ X := 0, Y := 0, Z := 0 } : api_Vec) } : api_Scope), ({ Frame := ({ Turn := 0, At := ({ X := 0, Y := 0, Z := 0 } : api_Vec) } : api_Frame), Size := ({ X := 0, Y := 0, Z := 0 } : api_Vec) } : api_Scope), ({ Frame := ({ Turn := 0, At := ({ X := 0, Y := 0, Z := 0 } : api_Vec) } : api_Frame), Size := ({ X := 0, Y := 0, Z := 0 } : api_Vec) } : api_Scope), ({ Frame := ({ Turn := 0, At := ({ X := 0, Y := 0, Z := 0 } : api_Vec) } : api_Frame), Size := ({ X := 0, Y := 0, Z := 0 } : api_Vec) } : api_Scope)], p0.Frame.Turn, p0.Frame.At.X, p0.Frame.At.Y, p0.Frame.At.Z, p0.Size.X, p0.Size.Y, p0.Size.Z) m14 h15 (wkE [(0, 1), (1, 2), (2, 0)] [] [] rfl ⟨⟨_, rfl, .ref rfl (by decide) (ltd rfl)⟩, ⟨_, rfl, .ref rfl (by decide) (ltd rfl)⟩, ⟨_, rfl, (wv_fn (.cons (.ref rfl (by decide) (ltd rfl)) (.cons (.ref rfl (by decide) (ltd rfl)) .nil)))⟩, ⟨_, rfl, .d (.refl _)⟩, trivial⟩ ⟨⟨ltd rfl, .inr ⟨by decide, _, rfl, .dat _ _⟩⟩, ⟨ltd rfl, .inr ⟨by decide, _, rfl, .dat _ _⟩⟩, ⟨ltd rfl, .inr ⟨by decide, _, rfl, .dat _ _⟩⟩, trivial⟩) ?_
      intro a13 y11 h12
      unfold raise_Faces_L1 at h12
      refine rk_seq ?_
      refine rk_region ?_
      refine ok_v (.d (.bool (decide (a13.1 < 6)))) rfl rfl ?_
      refine ok_nil ?_
      refine rk_seq ?_
      refine rk_condH rfl h12 (fun _ h12 => ?_) (fun _ h12 => ?_)
      · refine rk_skip ?_
        refine rk_seq ?_
        refine rk_block ?_
        refine rk_seq ?_
        refine rk_region ?_
        refine ok_mv rfl rfl ?_
        refine ok_as rfl rfl ?_
        refine ok_nil ?_
        refine rk_seq ?_
        refine rk_region ?_
        refine ok_mv rfl rfl ?_
        refine ok_mv rfl rfl ?_
        obtain ⟨e19, h20, h12⟩ := bindE h12
        refine ok_callF [(0, 2), (1, 1)] [(0, 2), (1, 1), (2, 0)] [.d (.int .i64 a13.1), .ref 2 7 0 0, .ref 1 42 0 0] (.d (.int .i64 e19.1)) [(1, .dat 42 [e19.2.2.2.2.2.2.2.2.flatMap enc_api_Scope]), (2, .dat 7 [[.int .u8 e19.2.1, .int .i64 e19.2.2.1, .int .i64 e19.2.2.2.1, .int .i64 e19.2.2.2.2.1, .int .i64 e19.2.2.2.2.2.1, .int .i64 e19.2.2.2.2.2.2.1, .int .i64 e19.2.2.2.2.2.2.2.1]])] [(1, .dat 42 [e19.2.2.2.2.2.2.2.2.flatMap enc_api_Scope]), (2, .dat 7 [[.int .u8 e19.2.1, .int .i64 e19.2.2.1, .int .i64 e19.2.2.2.1, .int .i64 e19.2.2.2.2.1, .int .i64 e19.2.2.2.2.2.1, .int .i64 e19.2.2.2.2.2.2.1, .int .i64 e19.2.2.2.2.2.2.2.1]]), (0, .dat 42 [[.int .u8 0, .int .i64 0, .int .i64 0, .int .i64 0, .int .i64 0, .int .i64 0, .int .i64 0, .int .u8 0, .int .i64 0, .int .i64 0, .int .i64 0, .int .i64 0, .int .i64 0, .int .i64 0, .int .u8 0, .int .i64 0, .int .i64 0, .int .i64 0, .int .i64 0, .int .i64 0, .int .i64 0, .int .u8 0, .int .i64 0, .int .i64 0, .int .i64 0, .int .i64 0, .int .i64 0, .int .i64 0, .int .u8 0, .int .i64 0, .int .i64 0, .int .i64 0, .int .i64 0, .int .i64 0, .int .i64 0, .int .u8 0, .int .i64 0, .int .i64 0, .int .i64 0, .int .i64 0, .int .i64 0, .int .i64 0]])] 3 (raise_Faces_1_e1_eff a13.1 a13.2.2.1 a13.2.2.2.1 a13.2.2.2.2.1 a13.2.2.2.2.2.1 a13.2.2.2.2.2.2.1 a13.2.2.2.2.2.2.2.1 a13.2.2.2.2.2.2.2.2 a13.2.1 e19 h20) rfl rfl rfl (wk_mk [(0, 2), (1, 1)] [] [] rfl ⟨⟨_, rfl, .d (.refl _)⟩, ⟨_, rfl, .ref rfl (by decide) (ltd rfl)⟩, ⟨_, rfl, .ref rfl (by decide) (ltd rfl)⟩, trivial⟩ ⟨⟨ltd rfl, .inr ⟨by decide, _, rfl, .dat _ _⟩⟩, ⟨ltd rfl, .inr ⟨by decide, _, rfl, .dat _ _⟩⟩, trivial⟩) (wk_mk [(0, 2), (1, 1), (2, 0)] [] [] rfl ⟨⟨_, rfl, .d (.refl _)⟩, trivial⟩ ⟨⟨ltd rfl, .inr ⟨by decide, _, rfl, .dat _ _⟩⟩, ⟨ltd rfl, .inr ⟨by decide, _, rfl, .dat _ _⟩⟩, trivial⟩) rfl ⟨.inl rfl, .inl rfl, .inr ⟨rfl, rfl⟩, trivial⟩ ?_
        refine ok_as rfl rfl ?_
        refine ok_nil ?_
        refine rk_seq ?_
        refine rk_region ?_
        refine ok_mv rfl rfl ?_
        refine ok_v (.d (.bool (e19.1 != 0))) rfl rfl ?_
        refine ok_nil ?_
        refine rk_condH rfl h12 (fun _ h12 => ?_) (fun _ h12 => ?_)
        · refine rk_seq ?_
          refine rk_region ?_
          refine ok_v (.d (.agg [.int .u8 0, .int .i64 0, .int .i64 0, .int .i64 0, .int .i64 0, .int .i64 0, .int .i64 0, .int .u8 0, .int .i64 0, .int .i64 0, .int .i64 0, .int .i64 0, .int .i64 0, .int .i64 0, .int .u8 0, .int .i64 0, .int .i64 0, .int .i64 0, .int .i64 0, .int .i64 0, .int .i64 0, .int .u8 0, .int .i64 0, .int .i64 0, .int .i64 0, .int .i64 0, .int .i64 0, .int .i64 0, .int .u8 0, .int .i64 0, .int .i64 0, .int .i64 0, .int .i64 0, .int .i64 0, .int .i64 0, .int .u8 0, .int .i64 0, .int .i64 0, .int .i64 0, .int .i64 0, .int .i64 0, .int .i64 0])) rfl rfl ?_
          refine ok_mv rfl rfl ?_
          refine ok_sto 0 (.dat 42 [[.int .u8 0, .int .i64 0, .int .i64 0, .int .i64 0, .int .i64 0, .int .i64 0, .int .i64 0, .int .u8 0, .int .i64 0, .int .i64 0, .int .i64 0, .int .i64 0, .int .i64 0, .int .i64 0, .int .u8 0, .int .i64 0, .int .i64 0, .int .i64 0, .int .i64 0, .int .i64 0, .int .i64 0, .int .u8 0, .int .i64 0, .int .i64 0, .int .i64 0, .int .i64 0, .int .i64 0, .int .i64 0, .int .u8 0, .int .i64 0, .int .i64 0, .int .i64 0, .int .i64 0, .int .i64 0, .int .i64 0, .int .u8 0, .int .i64 0, .int .i64 0, .int .i64 0, .int .i64 0, .int .i64 0, .int .i64 0]]) rfl rfl ?_
          refine ok_as rfl rfl ?_
          refine ok_nil ?_
          refine rk_ret ?_
          refine ⟨_, (Option.some.inj h12).symm, fun hm => ?_⟩
          subst hm
          obtain rfl := someE h0
          exact finD (.inr rfl) (v := .d (.tup [.agg [.int .u8 0, .int .i64 0, .int .i64 0, .int .i64 0, .int .i64 0, .int .i64 0, .int .i64 0, .int .u8 0, .int .i64 0, .int .i64 0, .int .i64 0, .int .i64 0, .int .i64 0, .int .i64 0, .int .u8 0, .int .i64 0, .int .i64 0, .int .i64 0, .int .i64 0, .int .i64 0, .int .i64 0, .int .u8 0, .int .i64 0, .int .i64 0, .int .i64 0, .int .i64 0, .int .i64 0, .int .i64 0, .int .u8 0, .int .i64 0, .int .i64 0, .int .i64 0, .int .i64 0, .int .i64 0, .int .i64 0, .int .u8 0, .int .i64 0, .int .i64 0, .int .i64 0, .int .i64 0, .int .i64 0, .int .i64 0], .int .i64 e19.1])) rfl rfl (.refl _)
        · refine rk_skip ?_
          refine rk_nil ?_
          refine blk_nor ?_
          refine rk_region ?_
          refine ok_v (.d (.int .i64 (w64 (a13.1 + 1)))) rfl rfl ?_
          refine ok_mv rfl rfl ?_
          refine ok_nil ?_
          refine rk_nil ?_
          exact ⟨_, (Option.some.inj h12).symm, wkE [(0, 0), (1, 1), (2, 2)] [] [] rfl ⟨⟨_, rfl, .ref rfl (by decide) (ltd rfl)⟩, ⟨_, rfl, .ref rfl (by decide) (ltd rfl)⟩, ⟨_, rfl, (wv_fn (.cons (.ref rfl (by decide) (ltd rfl)) (.cons (.ref rfl (by decide) (ltd rfl)) .nil)))⟩, ⟨_, rfl, .d (.refl _)⟩, trivial⟩ ⟨⟨ltd rfl, .inr ⟨by decide, _, rfl, .dat _ _⟩⟩, ⟨ltd rfl, .inr ⟨by decide, _, rfl, .dat _ _⟩⟩, ⟨ltd rfl, .inr ⟨by decide, _, rfl, .dat _ _⟩⟩, trivial⟩⟩
      · refine rk_exit ?_
        refine ⟨_, (Option.some.inj h12).symm, fun hm => ?_⟩
        subst hm
        exact ⟨_, rfl, wkE [(0, 0), (1, 1)] [] [] rfl ⟨⟨_, rfl, .ref rfl (by decide) (ltd rfl)⟩, ⟨_, rfl, .ref rfl (by decide) (ltd rfl)⟩, trivial⟩ ⟨⟨ltd rfl, .inr ⟨by decide, _, rfl, .dat _ _⟩⟩, ⟨ltd rfl, .inr ⟨by decide, _, rfl, .dat _ _⟩⟩, trivial⟩⟩
    · intro b16 hb
      subst hb
      refine rk_seq ?_
      refine rk_region ?_
      obtain ⟨v21, h22, h0⟩ := bindE h0
      refine ok_ldW (enc := enc_api_Scope) (.d (.agg [.int .u8 v21.1.Frame.Turn, .int .i64 v21.1.Frame.At.X, .int .i64 v21.1.Frame.At.Y, .int .i64 v21.1.Frame.At.Z, .int .i64 v21.1.Size.X, .int .i64 v21.1.Size.Y, .int .i64 v21.1.Size.Z, .int .u8 v21.2.1.Frame.Turn, .int .i64 v21.2.1.Frame.At.X, .int .i64 v21.2.1.Frame.At.Y, .int .i64 v21.2.1.Frame.At.Z, .int .i64 v21.2.1.Size.X, .int .i64 v21.2.1.Size.Y, .int .i64 v21.2.1.Size.Z, .int .u8 v21.2.2.1.Frame.Turn, .int .i64 v21.2.2.1.Frame.At.X, .int .i64 v21.2.2.1.Frame.At.Y, .int .i64 v21.2.2.1.Frame.At.Z, .int .i64 v21.2.2.1.Size.X, .int .i64 v21.2.2.1.Size.Y, .int .i64 v21.2.2.1.Size.Z, .int .u8 v21.2.2.2.1.Frame.Turn, .int .i64 v21.2.2.2.1.Frame.At.X, .int .i64 v21.2.2.2.1.Frame.At.Y, .int .i64 v21.2.2.2.1.Frame.At.Z, .int .i64 v21.2.2.2.1.Size.X, .int .i64 v21.2.2.2.1.Size.Y, .int .i64 v21.2.2.2.1.Size.Z, .int .u8 v21.2.2.2.2.1.Frame.Turn, .int .i64 v21.2.2.2.2.1.Frame.At.X, .int .i64 v21.2.2.2.2.1.Frame.At.Y, .int .i64 v21.2.2.2.2.1.Frame.At.Z, .int .i64 v21.2.2.2.2.1.Size.X, .int .i64 v21.2.2.2.2.1.Size.Y, .int .i64 v21.2.2.2.2.1.Size.Z, .int .u8 v21.2.2.2.2.2.Frame.Turn, .int .i64 v21.2.2.2.2.2.Frame.At.X, .int .i64 v21.2.2.2.2.2.Frame.At.Y, .int .i64 v21.2.2.2.2.2.Frame.At.Z, .int .i64 v21.2.2.2.2.2.Size.X, .int .i64 v21.2.2.2.2.2.Size.Y, .int .i64 v21.2.2.2.2.2.Size.Z])) (arr6_flat h22) rfl rfl rfl rfl rfl rfl ?_
      refine ok_sto 0 (.dat 42 [[.int .u8 v21.1.Frame.Turn, .int .i64 v21.1.Frame.At.X, .int .i64 v21.1.Frame.At.Y, .int .i64 v21.1.Frame.At.Z, .int .i64 v21.1.Size.X, .int .i64 v21.1.Size.Y, .int .i64 v21.1.Size.Z, .int .u8 v21.2.1.Frame.Turn, .int .i64 v21.2.1.Frame.At.X, .int .i64 v21.2.1.Frame.At.Y, .int .i64 v21.2.1.Frame.At.Z, .int .i64 v21.2.1.Size.X, .int .i64 v21.2.1.Size.Y, .int .i64 v21.2.1.Size.Z, .int .u8 v21.2.2.1.Frame.Turn, .int .i64 v21.2.2.1.Frame.At.X, .int .i64 v21.2.2.1.Frame.At.Y, .int .i64 v21.2.2.1.Frame.At.Z, .int .i64 v21.2.2.1.Size.X, .int .i64 v21.2.2.1.Size.Y, .int .i64 v21.2.2.1.Size.Z, .int .u8 v21.2.2.2.1.Frame.Turn, .int .i64 v21.2.2.2.1.Frame.At.X, .int .i64 v21.2.2.2.1.Frame.At.Y, .int .i64 v21.2.2.2.1.Frame.At.Z, .int .i64 v21.2.2.2.1.Size.X, .int .i64 v21.2.2.2.1.Size.Y, .int .i64 v21.2.2.2.1.Size.Z, .int .u8 v21.2.2.2.2.1.Frame.Turn, .int .i64 v21.2.2.2.2.1.Frame.At.X, .int .i64 v21.2.2.2.2.1.Frame.At.Y, .int .i64 v21.2.2.2.2.1.Frame.At.Z, .int .i64 v21.2.2.2.2.1.Size.X, .int .i64 v21.2.2.2.2.1.Size.Y, .int .i64 v21.2.2.2.2.1.Size.Z, .int .u8 v21.2.2.2.2.2.Frame.Turn, .int .i64 v21.2.2.2.2.2.Frame.At.X, .int .i64 v21.2.2.2.2.2.Frame.At.Y, .int .i64 v21.2.2.2.2.2.Frame.At.Z, .int .i64 v21.2.2.2.2.2.Size.X, .int .i64 v21.2.2.2.2.2.Size.Y, .int .i64 v21.2.2.2.2.2.Size.Z]]) rfl rfl ?_
      refine ok_as rfl rfl ?_
      refine ok_nil ?_
      refine rk_ret ?_
      obtain rfl := someE h0
      exact finD (.inr rfl) (v := .d (.tup [.agg [.int .u8 v21.1.Frame.Turn, .int .i64 v21.1.Frame.At.X, .int .i64 v21.1.Frame.At.Y, .int .i64 v21.1.Frame.At.Z, .int .i64 v21.1.Size.X, .int .i64 v21.1.Size.Y, .int .i64 v21.1.Size.Z, .int .u8 v21.2.1.Frame.Turn, .int .i64 v21.2.1.Frame.At.X, .int .i64 v21.2.1.Frame.At.Y, .int .i64 v21.2.1.Frame.At.Z, .int .i64 v21.2.1.Size.X, .int .i64 v21.2.1.Size.Y, .int .i64 v21.2.1.Size.Z, .int .u8 v21.2.2.1.Frame.Turn, .int .i64 v21.2.2.1.Frame.At.X, .int .i64 v21.2.2.1.Frame.At.Y, .int .i64 v21.2.2.1.Frame.At.Z, .int .i64 v21.2.2.1.Size.X, .int .i64 v21.2.2.1.Size.Y, .int .i64 v21.2.2.1.Size.Z, .int .u8 v21.2.2.2.1.Frame.Turn, .int .i64 v21.2.2.2.1.Frame.At.X, .int .i64 v21.2.2.2.1.Frame.At.Y, .int .i64 v21.2.2.2.1.Frame.At.Z, .int .i64 v21.2.2.2.1.Size.X, .int .i64 v21.2.2.2.1.Size.Y, .int .i64 v21.2.2.2.1.Size.Z, .int .u8 v21.2.2.2.2.1.Frame.Turn, .int .i64 v21.2.2.2.2.1.Frame.At.X, .int .i64 v21.2.2.2.2.1.Frame.At.Y, .int .i64 v21.2.2.2.2.1.Frame.At.Z, .int .i64 v21.2.2.2.2.1.Size.X, .int .i64 v21.2.2.2.2.1.Size.Y, .int .i64 v21.2.2.2.2.1.Size.Z, .int .u8 v21.2.2.2.2.2.Frame.Turn, .int .i64 v21.2.2.2.2.2.Frame.At.X, .int .i64 v21.2.2.2.2.2.Frame.At.Y, .int .i64 v21.2.2.2.2.2.Frame.At.Z, .int .i64 v21.2.2.2.2.2.Size.X, .int .i64 v21.2.2.2.2.2.Size.Y, .int .i64 v21.2.2.2.2.2.Size.Z], .int .i64 0])) rfl rfl (.refl _)

set_option maxRecDepth 100000 in
set_option maxHeartbeats 8000000 in
theorem r16_In_ok (p0 : api_Vec) (p1 : Int) (r : Bool) (h0 : r16_In p0 p1 = some r) : Pure Try.prog tab 44 [.agg [.int .i64 p0.X, .int .i64 p0.Y, .int .i64 p0.Z], .int .i64 p1] (.bool r) := by
  unfold r16_In at h0
  refine pure_of_run Try.func44 rfl (by kernel_rfl) (by kernel_rfl) rfl ?_
  refine rk_seq ?_
  refine rk_region ?_
  refine ok_new (.ref 0 3 0 0) (.dat 3 [[.int .i64 p0.X, .int .i64 p0.Y, .int .i64 p0.Z]]) rfl rfl ?_
  refine ok_as rfl rfl ?_
  refine ok_nil ?_
  refine rk_seq ?_
  refine rk_region ?_
  refine ok_v (.ref 0 3 0 0) rfl rfl ?_
  refine ok_v (.d (.int .i64 p0.X)) rfl rfl ?_
  refine ok_mv rfl rfl ?_
  refine ok_v (.d (.bool (decide (p0.X ≥ p1)))) rfl rfl ?_
  obtain ⟨c1, h2, h0⟩ := bindE h0
  refine ok_cutQ 6 (fun A st => ∃ (j3 j4 j5 j6 j7 : V), st = A [(14, .d (.bool c1)), (13, j7), (12, j6), (11, j5), (10, j4), (9, j3)]) ?_ ?_
  · refine ok_mvB rfl rfl h2 (fun h2 => ?_) (fun h2 => ?_)
    · refine ok_v (.ref 0 3 0 1) rfl rfl ?_
      refine ok_v (.d (.int .i64 p0.Y)) rfl rfl ?_
      refine ok_mv rfl rfl ?_
      refine ok_v (.d (.bool (decide (p0.Y ≥ p1)))) rfl rfl ?_
      refine ok_v (.d (.bool (decide (p0.Y ≥ p1)))) rfl rfl ?_
      refine ok_nil ?_
      obtain rfl := someE h2
      exact ⟨_, _, _, _, _, rfl⟩
    · refine ok_sg rfl ?_
      refine ok_sg rfl ?_
      refine ok_sg rfl ?_
      refine ok_sg rfl ?_
      refine ok_v (.d (.bool false)) rfl rfl ?_
      refine ok_nil ?_
      obtain rfl := someE h2
      exact ⟨_, _, _, _, _, rfl⟩
  · rintro _ ⟨j3, j4, j5, j6, j7, rfl⟩
    obtain ⟨c8, h9, h0⟩ := bindE h0
    refine ok_cutQ 6 (fun A st => ∃ (j10 j11 j12 j13 j14 : V), st = A [(20, .d (.bool c8)), (19, j14), (18, j13), (17, j12), (16, j11), (15, j10)]) ?_ ?_
    · refine ok_mvB rfl rfl h9 (fun h9 => ?_) (fun h9 => ?_)
      · refine ok_v (.ref 0 3 0 2) rfl rfl ?_
        refine ok_v (.d (.int .i64 p0.Z)) rfl rfl ?_
        refine ok_mv rfl rfl ?_
        refine ok_v (.d (.bool (decide (p0.Z ≥ p1)))) rfl rfl ?_
        refine ok_v (.d (.bool (decide (p0.Z ≥ p1)))) rfl rfl ?_
        refine ok_nil ?_
        obtain rfl := someE h9
        exact ⟨_, _, _, _, _, rfl⟩
      · refine ok_sg rfl ?_
        refine ok_sg rfl ?_
        refine ok_sg rfl ?_
        refine ok_sg rfl ?_
        refine ok_v (.d (.bool false)) rfl rfl ?_
        refine ok_nil ?_
        obtain rfl := someE h9
        exact ⟨_, _, _, _, _, rfl⟩
    · rintro _ ⟨j10, j11, j12, j13, j14, rfl⟩
      obtain ⟨c15, h16, h0⟩ := bindE h0
      refine ok_cutQ 5 (fun A st => ∃ (j17 j18 j19 j20 : V), st = A [(25, .d (.bool c15)), (24, j20), (23, j19), (22, j18), (21, j17)]) ?_ ?_
      · refine ok_mvB rfl rfl h16 (fun h16 => ?_) (fun h16 => ?_)
        · refine ok_v (.ref 0 3 0 0) rfl rfl ?_
          refine ok_v (.d (.int .i64 p0.X)) rfl rfl ?_
          refine ok_v (.d (.bool (decide (p0.X ≤ 1000000)))) rfl rfl ?_
          refine ok_v (.d (.bool (decide (p0.X ≤ 1000000)))) rfl rfl ?_
          refine ok_nil ?_
          obtain rfl := someE h16
          exact ⟨_, _, _, _, rfl⟩
        · refine ok_sg rfl ?_
          refine ok_sg rfl ?_
          refine ok_sg rfl ?_
          refine ok_v (.d (.bool false)) rfl rfl ?_
          refine ok_nil ?_
          obtain rfl := someE h16
          exact ⟨_, _, _, _, rfl⟩
      · rintro _ ⟨j17, j18, j19, j20, rfl⟩
        obtain ⟨c21, h22, h0⟩ := bindE h0
        refine ok_cutQ 5 (fun A st => ∃ (j23 j24 j25 j26 : V), st = A [(30, .d (.bool c21)), (29, j26), (28, j25), (27, j24), (26, j23)]) ?_ ?_
        · refine ok_mvB rfl rfl h22 (fun h22 => ?_) (fun h22 => ?_)
          · refine ok_v (.ref 0 3 0 1) rfl rfl ?_
            refine ok_v (.d (.int .i64 p0.Y)) rfl rfl ?_
            refine ok_v (.d (.bool (decide (p0.Y ≤ 1000000)))) rfl rfl ?_
            refine ok_v (.d (.bool (decide (p0.Y ≤ 1000000)))) rfl rfl ?_
            refine ok_nil ?_
            obtain rfl := someE h22
            exact ⟨_, _, _, _, rfl⟩
          · refine ok_sg rfl ?_
            refine ok_sg rfl ?_
            refine ok_sg rfl ?_
            refine ok_v (.d (.bool false)) rfl rfl ?_
            refine ok_nil ?_
            obtain rfl := someE h22
            exact ⟨_, _, _, _, rfl⟩
        · rintro _ ⟨j23, j24, j25, j26, rfl⟩
          obtain ⟨c27, h28, h0⟩ := bindE h0
          refine ok_cutQ 5 (fun A st => ∃ (j29 j30 j31 j32 : V), st = A [(35, .d (.bool c27)), (34, j32), (33, j31), (32, j30), (31, j29)]) ?_ ?_
          · refine ok_mvB rfl rfl h28 (fun h28 => ?_) (fun h28 => ?_)
            · refine ok_v (.ref 0 3 0 2) rfl rfl ?_
              refine ok_v (.d (.int .i64 p0.Z)) rfl rfl ?_
              refine ok_v (.d (.bool (decide (p0.Z ≤ 1000000)))) rfl rfl ?_
              refine ok_v (.d (.bool (decide (p0.Z ≤ 1000000)))) rfl rfl ?_
              refine ok_nil ?_
              obtain rfl := someE h28
              exact ⟨_, _, _, _, rfl⟩
            · refine ok_sg rfl ?_
              refine ok_sg rfl ?_
              refine ok_sg rfl ?_
              refine ok_v (.d (.bool false)) rfl rfl ?_
              refine ok_nil ?_
              obtain rfl := someE h28
              exact ⟨_, _, _, _, rfl⟩
          · rintro _ ⟨j29, j30, j31, j32, rfl⟩
            refine ok_as rfl rfl ?_
            refine ok_nil ?_
            refine rk_ret ?_
            obtain rfl := someE h0
            exact finD (.inr rfl) (v := .d (.bool c27)) rfl rfl (.refl _)

set_option maxRecDepth 100000 in
set_option maxHeartbeats 8000000 in
theorem r16_Check_ok (p0 : api_Frame) (r : Int) (h0 : r16_Check p0 = some r) : Pure Try.prog tab 43 [.agg [.int .u8 p0.Turn, .int .i64 p0.At.X, .int .i64 p0.At.Y, .int .i64 p0.At.Z]] (.int .i64 r) := by
  unfold r16_Check at h0
  refine pure_of_run Try.func43 rfl (by kernel_rfl) (by kernel_rfl) rfl ?_
  refine rk_seq ?_
  refine rk_region ?_
  refine ok_new (.ref 0 4 0 0) (.dat 4 [[.int .u8 p0.Turn, .int .i64 p0.At.X, .int .i64 p0.At.Y, .int .i64 p0.At.Z]]) rfl rfl ?_
  refine ok_as rfl rfl ?_
  refine ok_nil ?_
  refine rk_seq ?_
  refine rk_seq ?_
  refine rk_region ?_
  refine ok_v (.ref 0 4 0 0) rfl rfl ?_
  refine ok_v (.d (.int .u8 p0.Turn)) rfl rfl ?_
  refine ok_v (.d (.bool (decide (p0.Turn ≥ 24)))) rfl rfl ?_
  obtain ⟨c3, h4, h0⟩ := bindE h0
  refine ok_cutQ 6 (fun A st => ∃ (j5 j6 j7 j8 j9 : V), st = A [(11, .d (.bool c3)), (10, j9), (9, j8), (8, j7), (7, j6), (6, j5)]) ?_ ?_
  · refine ok_mvB rfl rfl h4 (fun h4 => ?_) (fun h4 => ?_)
    · refine ok_sg rfl ?_
      refine ok_sg rfl ?_
      refine ok_sg rfl ?_
      refine ok_sg rfl ?_
      refine ok_v (.d (.bool true)) rfl rfl ?_
      refine ok_nil ?_
      obtain rfl := someE h4
      exact ⟨_, _, _, _, _, rfl⟩
    · refine ok_v (.ref 0 4 0 1) rfl rfl ?_
      refine ok_v (.d (.agg [.int .i64 p0.At.X, .int .i64 p0.At.Y, .int .i64 p0.At.Z])) rfl rfl ?_
      obtain ⟨r10, h11, h4⟩ := bindE h4
      refine ok_pc [.d (.agg [.int .i64 p0.At.X, .int .i64 p0.At.Y, .int .i64 p0.At.Z]), .d (.int .i64 (-1000000))] (r16_In_ok p0.At (-1000000) r10 h11) rfl rfl rfl (.inl rfl) ?_
      refine ok_v (.d (.bool (!r10))) rfl rfl ?_
      refine ok_v (.d (.bool (!r10))) rfl rfl ?_
      refine ok_nil ?_
      obtain rfl := someE h4
      exact ⟨_, _, _, _, _, rfl⟩
  · rintro _ ⟨j5, j6, j7, j8, j9, rfl⟩
    refine ok_nil ?_
    refine rk_condH rfl h0 (fun _ h0 => ?_) (fun _ h0 => ?_)
    · refine rk_seq ?_
      refine rk_region ?_
      refine ok_as rfl rfl ?_
      refine ok_nil ?_
      refine rk_ret ?_
      obtain rfl := someE h0
      exact finD (.inr rfl) (v := .d (.int .i64 8)) rfl rfl (.refl _)
    · refine rk_skip ?_
      refine rk_seq ?_
      refine rk_region ?_
      refine ok_as rfl rfl ?_
      refine ok_nil ?_
      refine rk_ret ?_
      obtain rfl := someE h0
      exact finD (.inr rfl) (v := .d (.int .i64 0)) rfl rfl (.refl _)

set_option maxRecDepth 100000 in
set_option maxHeartbeats 8000000 in
theorem r16_Scoped_ok (p0 : api_Scope) (r : Int) (h0 : r16_Scoped p0 = some r) : Pure Try.prog tab 22 [.agg [.int .u8 p0.Frame.Turn, .int .i64 p0.Frame.At.X, .int .i64 p0.Frame.At.Y, .int .i64 p0.Frame.At.Z, .int .i64 p0.Size.X, .int .i64 p0.Size.Y, .int .i64 p0.Size.Z]] (.int .i64 r) := by
  unfold r16_Scoped at h0
  refine pure_of_run Try.func22 rfl (by kernel_rfl) (by kernel_rfl) rfl ?_
  refine rk_seq ?_
  refine rk_region ?_
  refine ok_new (.ref 0 7 0 0) (.dat 7 [[.int .u8 p0.Frame.Turn, .int .i64 p0.Frame.At.X, .int .i64 p0.Frame.At.Y, .int .i64 p0.Frame.At.Z, .int .i64 p0.Size.X, .int .i64 p0.Size.Y, .int .i64 p0.Size.Z]]) rfl rfl ?_
  refine ok_as rfl rfl ?_
  refine ok_nil ?_
  refine rk_seq ?_
  refine rk_seq ?_
  refine rk_region ?_
  refine ok_v (.ref 0 7 0 0) rfl rfl ?_
  refine ok_v (.d (.agg [.int .u8 p0.Frame.Turn, .int .i64 p0.Frame.At.X, .int .i64 p0.Frame.At.Y, .int .i64 p0.Frame.At.Z])) rfl rfl ?_
  obtain ⟨r1, h2, h0⟩ := bindE h0
  refine ok_pc [.d (.agg [.int .u8 p0.Frame.Turn, .int .i64 p0.Frame.At.X, .int .i64 p0.Frame.At.Y, .int .i64 p0.Frame.At.Z])] (r16_Check_ok p0.Frame r1 h2) rfl rfl rfl (.inl rfl) ?_
  refine ok_v (.d (.bool (r1 != 0))) rfl rfl ?_
  obtain ⟨c5, h6, h0⟩ := bindE h0
  refine ok_cutQ 6 (fun A st => ∃ (j7 j8 j9 j10 j11 : V), st = A [(12, .d (.bool c5)), (11, j11), (10, j10), (9, j9), (8, j8), (7, j7)]) ?_ ?_
  · refine ok_mvB rfl rfl h6 (fun h6 => ?_) (fun h6 => ?_)
    · refine ok_sg rfl ?_
      refine ok_sg rfl ?_
      refine ok_sg rfl ?_
      refine ok_sg rfl ?_
      refine ok_v (.d (.bool true)) rfl rfl ?_
      refine ok_nil ?_
      obtain rfl := someE h6
      exact ⟨_, _, _, _, _, rfl⟩
    · refine ok_v (.ref 0 7 0 4) rfl rfl ?_
      refine ok_v (.d (.agg [.int .i64 p0.Size.X, .int .i64 p0.Size.Y, .int .i64 p0.Size.Z])) rfl rfl ?_
      obtain ⟨r12, h13, h6⟩ := bindE h6
      refine ok_pc [.d (.agg [.int .i64 p0.Size.X, .int .i64 p0.Size.Y, .int .i64 p0.Size.Z]), .d (.int .i64 0)] (r16_In_ok p0.Size 0 r12 h13) rfl rfl rfl (.inl rfl) ?_
      refine ok_v (.d (.bool (!r12))) rfl rfl ?_
      refine ok_v (.d (.bool (!r12))) rfl rfl ?_
      refine ok_nil ?_
      obtain rfl := someE h6
      exact ⟨_, _, _, _, _, rfl⟩
  · rintro _ ⟨j7, j8, j9, j10, j11, rfl⟩
    refine ok_nil ?_
    refine rk_condH rfl h0 (fun _ h0 => ?_) (fun _ h0 => ?_)
    · refine rk_seq ?_
      refine rk_region ?_
      refine ok_as rfl rfl ?_
      refine ok_nil ?_
      refine rk_ret ?_
      obtain rfl := someE h0
      exact finD (.inr rfl) (v := .d (.int .i64 8)) rfl rfl (.refl _)
    · refine rk_skip ?_
      refine rk_seq ?_
      refine rk_region ?_
      refine ok_as rfl rfl ?_
      refine ok_nil ?_
      refine rk_ret ?_
      obtain rfl := someE h0
      exact finD (.inr rfl) (v := .d (.int .i64 0)) rfl rfl (.refl _)

set_option maxRecDepth 100000 in
set_option maxHeartbeats 8000000 in
theorem r16_Direction_ok (p0 : Int) (r : api_Vec) (h0 : r16_Direction p0 = some r) : Pure Try.prog tab 23 [.int .i64 p0] (.agg [.int .i64 r.X, .int .i64 r.Y, .int .i64 r.Z]) := by
  unfold r16_Direction at h0
  refine pure_of_run Try.func23 rfl (by kernel_rfl) (by kernel_rfl) rfl ?_
  refine rk_seq ?_
  refine rk_region ?_
  refine ok_alloc rfl rfl ?_
  refine ok_nil ?_
  refine rk_seq ?_
  refine rk_region ?_
  refine ok_as rfl rfl ?_
  refine ok_nil ?_
  refine rk_seq ?_
  refine rk_seq ?_
  refine rk_region ?_
  refine ok_mv rfl rfl ?_
  refine ok_v (.d (.int .i64 (Int.tmod p0 2))) rfl rfl ?_
  refine ok_v (.d (.bool ((Int.tmod p0 2) == 1))) rfl rfl ?_
  refine ok_nil ?_
  obtain ⟨m2, h1, h0⟩ := bindE h0
  refine rk_cut (fun b3 => b3 = m2) (fun (b3 : Int) => ⟨[(0, .d (.int .i64 p0)), (2, .ref 0 3 0 0), (3, .d (.int .i64 b3))], [(0, .dat 3 [[.int .i64 0, .int .i64 0, .int .i64 0]])], 1⟩) (by simp) ?_ ?_
  · refine rk_condH rfl h1 (fun _ h1 => ?_) (fun _ h1 => ?_)
    · refine rk_region ?_
      refine ok_as rfl rfl ?_
      refine ok_nil ?_
      refine rk_nil ?_
      obtain rfl := someE h1
      exact ⟨_, rfl, wkE [(0, 0)] [] [] rfl ⟨⟨_, rfl, .d (.refl _)⟩, ⟨_, rfl, .ref rfl (by decide) (ltd rfl)⟩, ⟨_, rfl, .d (.refl _)⟩, trivial⟩ ⟨⟨ltd rfl, .inr ⟨by decide, _, rfl, .dat _ _⟩⟩, trivial⟩⟩
    · refine rk_skip ?_
      refine rk_nil ?_
      obtain rfl := someE h1
      exact ⟨_, rfl, wkE [(0, 0)] [] [] rfl ⟨⟨_, rfl, .d (.refl _)⟩, ⟨_, rfl, .ref rfl (by decide) (ltd rfl)⟩, ⟨_, rfl, .d (.refl _)⟩, trivial⟩ ⟨⟨ltd rfl, .inr ⟨by decide, _, rfl, .dat _ _⟩⟩, trivial⟩⟩
  · intro b3 hb
    subst hb
    refine rk_seq ?_
    refine rk_seq ?_
    refine rk_region ?_
    refine ok_mv rfl rfl ?_
    refine ok_v (.d (.bool (decide (p0 < 2)))) rfl rfl ?_
    refine ok_nil ?_
    refine rk_condH rfl h0 (fun _ h0 => ?_) (fun _ h0 => ?_)
    · refine rk_seq ?_
      refine rk_region ?_
      refine ok_mv rfl rfl ?_
      refine ok_v (.d (.agg [.int .i64 b3, .int .i64 0, .int .i64 0])) rfl rfl ?_
      refine ok_sto 0 (.dat 3 [[.int .i64 b3, .int .i64 0, .int .i64 0]]) rfl rfl ?_
      refine ok_nil ?_
      refine rk_ret ?_
      obtain rfl := someE h0
      exact finD (.inr rfl) (v := .d (.agg [.int .i64 b3, .int .i64 0, .int .i64 0])) rfl rfl (.refl _)
    · refine rk_skip ?_
      refine rk_seq ?_
      refine rk_seq ?_
      refine rk_region ?_
      refine ok_mv rfl rfl ?_
      refine ok_v (.d (.bool (decide (p0 < 4)))) rfl rfl ?_
      refine ok_nil ?_
      refine rk_condH rfl h0 (fun _ h0 => ?_) (fun _ h0 => ?_)
      · refine rk_seq ?_
        refine rk_region ?_
        refine ok_mv rfl rfl ?_
        refine ok_v (.d (.agg [.int .i64 0, .int .i64 b3, .int .i64 0])) rfl rfl ?_
        refine ok_sto 0 (.dat 3 [[.int .i64 0, .int .i64 b3, .int .i64 0]]) rfl rfl ?_
        refine ok_nil ?_
        refine rk_ret ?_
        obtain rfl := someE h0
        exact finD (.inr rfl) (v := .d (.agg [.int .i64 0, .int .i64 b3, .int .i64 0])) rfl rfl (.refl _)
      · refine rk_skip ?_
        refine rk_seq ?_
        refine rk_region ?_
        refine ok_mv rfl rfl ?_
        refine ok_v (.d (.agg [.int .i64 0, .int .i64 0, .int .i64 b3])) rfl rfl ?_
        refine ok_sto 0 (.dat 3 [[.int .i64 0, .int .i64 0, .int .i64 b3]]) rfl rfl ?_
        refine ok_nil ?_
        refine rk_ret ?_
        obtain rfl := someE h0
        exact finD (.inr rfl) (v := .d (.agg [.int .i64 0, .int .i64 0, .int .i64 b3])) rfl rfl (.refl _)

set_option maxRecDepth 100000 in
set_option maxHeartbeats 8000000 in
theorem r16_Cross_ok (p0 : api_Vec) (p1 : api_Vec) (r : api_Vec) (h0 : r16_Cross p0 p1 = some r) : Pure Try.prog tab 24 [.agg [.int .i64 p0.X, .int .i64 p0.Y, .int .i64 p0.Z], .agg [.int .i64 p1.X, .int .i64 p1.Y, .int .i64 p1.Z]] (.agg [.int .i64 r.X, .int .i64 r.Y, .int .i64 r.Z]) := by
  unfold r16_Cross at h0
  refine pure_of_run Try.func24 rfl (by kernel_rfl) (by kernel_rfl) rfl ?_
  refine rk_seq ?_
  refine rk_region ?_
  refine ok_new (.ref 0 3 0 0) (.dat 3 [[.int .i64 p0.X, .int .i64 p0.Y, .int .i64 p0.Z]]) rfl rfl ?_
  refine ok_new (.ref 1 3 0 0) (.dat 3 [[.int .i64 p1.X, .int .i64 p1.Y, .int .i64 p1.Z]]) rfl rfl ?_
  refine ok_alloc rfl rfl ?_
  refine ok_nil ?_
  refine rk_seq ?_
  refine rk_region ?_
  refine ok_v (.ref 0 3 0 1) rfl rfl ?_
  refine ok_v (.d (.int .i64 p0.Y)) rfl rfl ?_
  refine ok_v (.ref 1 3 0 2) rfl rfl ?_
  refine ok_v (.d (.int .i64 p1.Z)) rfl rfl ?_
  refine ok_v (.d (.int .i64 (w64 (p0.Y * p1.Z)))) rfl rfl ?_
  refine ok_v (.ref 0 3 0 2) rfl rfl ?_
  refine ok_v (.d (.int .i64 p0.Z)) rfl rfl ?_
  refine ok_v (.ref 1 3 0 1) rfl rfl ?_
  refine ok_v (.d (.int .i64 p1.Y)) rfl rfl ?_
  refine ok_v (.d (.int .i64 (w64 (p0.Z * p1.Y)))) rfl rfl ?_
  refine ok_v (.d (.int .i64 (w64 ((w64 (p0.Y * p1.Z)) - (w64 (p0.Z * p1.Y)))))) rfl rfl ?_
  refine ok_v (.ref 0 3 0 2) rfl rfl ?_
  refine ok_v (.d (.int .i64 p0.Z)) rfl rfl ?_
  refine ok_v (.ref 1 3 0 0) rfl rfl ?_
  refine ok_v (.d (.int .i64 p1.X)) rfl rfl ?_
  refine ok_v (.d (.int .i64 (w64 (p0.Z * p1.X)))) rfl rfl ?_
  refine ok_v (.ref 0 3 0 0) rfl rfl ?_
  refine ok_v (.d (.int .i64 p0.X)) rfl rfl ?_
  refine ok_v (.ref 1 3 0 2) rfl rfl ?_
  refine ok_v (.d (.int .i64 p1.Z)) rfl rfl ?_
  refine ok_v (.d (.int .i64 (w64 (p0.X * p1.Z)))) rfl rfl ?_
  refine ok_v (.d (.int .i64 (w64 ((w64 (p0.Z * p1.X)) - (w64 (p0.X * p1.Z)))))) rfl rfl ?_
  refine ok_v (.ref 0 3 0 0) rfl rfl ?_
  refine ok_v (.d (.int .i64 p0.X)) rfl rfl ?_
  refine ok_v (.ref 1 3 0 1) rfl rfl ?_
  refine ok_v (.d (.int .i64 p1.Y)) rfl rfl ?_
  refine ok_v (.d (.int .i64 (w64 (p0.X * p1.Y)))) rfl rfl ?_
  refine ok_v (.ref 0 3 0 1) rfl rfl ?_
  refine ok_v (.d (.int .i64 p0.Y)) rfl rfl ?_
  refine ok_v (.ref 1 3 0 0) rfl rfl ?_
  refine ok_v (.d (.int .i64 p1.X)) rfl rfl ?_
  refine ok_v (.d (.int .i64 (w64 (p0.Y * p1.X)))) rfl rfl ?_
  refine ok_v (.d (.int .i64 (w64 ((w64 (p0.X * p1.Y)) - (w64 (p0.Y * p1.X)))))) rfl rfl ?_
  refine ok_v (.d (.agg [.int .i64 (w64 ((w64 (p0.Y * p1.Z)) - (w64 (p0.Z * p1.Y)))), .int .i64 (w64 ((w64 (p0.Z * p1.X)) - (w64 (p0.X * p1.Z)))), .int .i64 (w64 ((w64 (p0.X * p1.Y)) - (w64 (p0.Y * p1.X))))])) rfl rfl ?_
  refine ok_sto 2 (.dat 3 [[.int .i64 (w64 ((w64 (p0.Y * p1.Z)) - (w64 (p0.Z * p1.Y)))), .int .i64 (w64 ((w64 (p0.Z * p1.X)) - (w64 (p0.X * p1.Z)))), .int .i64 (w64 ((w64 (p0.X * p1.Y)) - (w64 (p0.Y * p1.X))))]]) rfl rfl ?_
  refine ok_nil ?_
  refine rk_ret ?_
  obtain rfl := someE h0
  exact finD (.inr rfl) (v := .d (.agg [.int .i64 (w64 ((w64 (p0.Y * p1.Z)) - (w64 (p0.Z * p1.Y)))), .int .i64 (w64 ((w64 (p0.Z * p1.X)) - (w64 (p0.X * p1.Z)))), .int .i64 (w64 ((w64 (p0.X * p1.Y)) - (w64 (p0.Y * p1.X))))])) rfl rfl (.refl _)

set_option maxRecDepth 100000 in
set_option maxHeartbeats 8000000 in
theorem r20_axis_ok (p0 : api_Vec) (r : Int × Bool) (h0 : r20_axis p0 = some r) : Pure Try.prog tab 25 [.agg [.int .i64 p0.X, .int .i64 p0.Y, .int .i64 p0.Z]] (.tup [.int .i64 r.1, .bool r.2]) := by
  unfold r20_axis at h0
  refine pure_of_run Try.func25 rfl (by kernel_rfl) (by kernel_rfl) rfl ?_
  refine rk_seq ?_
  refine rk_region ?_
  refine ok_new (.ref 0 3 0 0) (.dat 3 [[.int .i64 p0.X, .int .i64 p0.Y, .int .i64 p0.Z]]) rfl rfl ?_
  refine ok_as rfl rfl ?_
  refine ok_as rfl rfl ?_
  refine ok_nil ?_
  refine rk_seq ?_
  refine rk_seq ?_
  refine rk_region ?_
  refine ok_v (.ref 0 3 0 0) rfl rfl ?_
  refine ok_v (.d (.int .i64 p0.X)) rfl rfl ?_
  refine ok_v (.d (.bool (p0.X != 0))) rfl rfl ?_
  refine ok_nil ?_
  refine rk_condH rfl h0 (fun _ h0 => ?_) (fun _ h0 => ?_)
  · refine rk_seq ?_
    refine rk_regionD [(some [], []), (some [], []), (some [], []), (some [0], []), (some [], [])] (by kernel_rfl) ?_
    refine ok_v (.ref 0 3 0 0) rfl rfl ?_
    refine ok_v (.d (.int .i64 p0.X)) rfl rfl ?_
    refine ok_v (.d (.bool (decide (p0.X > 0)))) rfl rfl ?_
    refine ok_as rfl rfl ?_
    refine ok_as rfl rfl ?_
    refine ok_nil ?_
    refine rk_ret ?_
    obtain rfl := someE h0
    exact finD (.inr rfl) (v := .d (.tup [.int .i64 0, .bool (decide (p0.X > 0))])) rfl rfl (.refl _)
  · refine rk_skip ?_
    refine rk_seq ?_
    refine rk_seq ?_
    refine rk_region ?_
    refine ok_v (.ref 0 3 0 1) rfl rfl ?_
    refine ok_v (.d (.int .i64 p0.Y)) rfl rfl ?_
    refine ok_v (.d (.bool (p0.Y != 0))) rfl rfl ?_
    refine ok_nil ?_
    refine rk_condH rfl h0 (fun _ h0 => ?_) (fun _ h0 => ?_)
    · refine rk_seq ?_
      refine rk_regionD [(some [], []), (some [], []), (some [], []), (some [0], []), (some [], [])] (by kernel_rfl) ?_
      refine ok_v (.ref 0 3 0 1) rfl rfl ?_
      refine ok_v (.d (.int .i64 p0.Y)) rfl rfl ?_
      refine ok_v (.d (.bool (decide (p0.Y > 0)))) rfl rfl ?_
      refine ok_as rfl rfl ?_
      refine ok_as rfl rfl ?_
      refine ok_nil ?_
      refine rk_ret ?_
      obtain rfl := someE h0
      exact finD (.inr rfl) (v := .d (.tup [.int .i64 1, .bool (decide (p0.Y > 0))])) rfl rfl (.refl _)
    · refine rk_skip ?_
      refine rk_seq ?_
      refine rk_regionD [(some [], []), (some [], []), (some [], []), (some [0], []), (some [], [])] (by kernel_rfl) ?_
      refine ok_v (.ref 0 3 0 2) rfl rfl ?_
      refine ok_v (.d (.int .i64 p0.Z)) rfl rfl ?_
      refine ok_v (.d (.bool (decide (p0.Z > 0)))) rfl rfl ?_
      refine ok_as rfl rfl ?_
      refine ok_as rfl rfl ?_
      refine ok_nil ?_
      refine rk_ret ?_
      obtain rfl := someE h0
      exact finD (.inr rfl) (v := .d (.tup [.int .i64 2, .bool (decide (p0.Z > 0))])) rfl rfl (.refl _)

set_option maxRecDepth 100000 in
set_option maxHeartbeats 8000000 in
theorem r16_Coord_ok (p0 : api_Vec) (p1 : Int) (r : Int) (h0 : r16_Coord p0 p1 = some r) : Pure Try.prog tab 27 [.agg [.int .i64 p0.X, .int .i64 p0.Y, .int .i64 p0.Z], .int .i64 p1] (.int .i64 r) := by
  unfold r16_Coord at h0
  refine pure_of_run Try.func27 rfl (by kernel_rfl) (by kernel_rfl) rfl ?_
  refine rk_seq ?_
  refine rk_region ?_
  refine ok_new (.ref 0 3 0 0) (.dat 3 [[.int .i64 p0.X, .int .i64 p0.Y, .int .i64 p0.Z]]) rfl rfl ?_
  refine ok_as rfl rfl ?_
  refine ok_nil ?_
  refine rk_seq ?_
  refine rk_seq ?_
  refine rk_region ?_
  refine ok_mv rfl rfl ?_
  refine ok_v (.d (.bool (p1 == 0))) rfl rfl ?_
  refine ok_nil ?_
  refine rk_condH rfl h0 (fun _ h0 => ?_) (fun _ h0 => ?_)
  · refine rk_seq ?_
    refine rk_region ?_
    refine ok_v (.ref 0 3 0 0) rfl rfl ?_
    refine ok_v (.d (.int .i64 p0.X)) rfl rfl ?_
    refine ok_as rfl rfl ?_
    refine ok_nil ?_
    refine rk_ret ?_
    obtain rfl := someE h0
    exact finD (.inr rfl) (v := .d (.int .i64 p0.X)) rfl rfl (.refl _)
  · refine rk_skip ?_
    refine rk_seq ?_
    refine rk_seq ?_
    refine rk_region ?_
    refine ok_mv rfl rfl ?_
    refine ok_v (.d (.bool (p1 == 1))) rfl rfl ?_
    refine ok_nil ?_
    refine rk_condH rfl h0 (fun _ h0 => ?_) (fun _ h0 => ?_)
    · refine rk_seq ?_
      refine rk_region ?_
      refine ok_v (.ref 0 3 0 1) rfl rfl ?_
      refine ok_v (.d (.int .i64 p0.Y)) rfl rfl ?_
      refine ok_as rfl rfl ?_
      refine ok_nil ?_
      refine rk_ret ?_
      obtain rfl := someE h0
      exact finD (.inr rfl) (v := .d (.int .i64 p0.Y)) rfl rfl (.refl _)
    · refine rk_skip ?_
      refine rk_seq ?_
      refine rk_region ?_
      refine ok_v (.ref 0 3 0 2) rfl rfl ?_
      refine ok_v (.d (.int .i64 p0.Z)) rfl rfl ?_
      refine ok_as rfl rfl ?_
      refine ok_nil ?_
      refine rk_ret ?_
      obtain rfl := someE h0
      exact finD (.inr rfl) (v := .d (.int .i64 p0.Z)) rfl rfl (.refl _)

set_option maxRecDepth 100000 in
set_option maxHeartbeats 8000000 in
theorem r16_Set_ok (p0 : api_Vec) (p1 : Int) (p2 : Int) (r : api_Vec) (h0 : r16_Set p0 p1 p2 = some r) : Pure Try.prog tab 26 [.agg [.int .i64 p0.X, .int .i64 p0.Y, .int .i64 p0.Z], .int .i64 p1, .int .i64 p2] (.agg [.int .i64 r.X, .int .i64 r.Y, .int .i64 r.Z]) := by
  unfold r16_Set at h0
  refine pure_of_run Try.func26 rfl (by kernel_rfl) (by kernel_rfl) rfl ?_
  refine rk_seq ?_
  refine rk_region ?_
  refine ok_new (.ref 0 3 0 0) (.dat 3 [[.int .i64 p0.X, .int .i64 p0.Y, .int .i64 p0.Z]]) rfl rfl ?_
  refine ok_alloc rfl rfl ?_
  refine ok_nil ?_
  refine rk_seq ?_
  refine rk_seq ?_
  refine rk_region ?_
  refine ok_mv rfl rfl ?_
  refine ok_v (.d (.bool (p1 == 0))) rfl rfl ?_
  refine ok_nil ?_
  refine rk_condH rfl h0 (fun _ h0 => ?_) (fun _ h0 => ?_)
  · refine rk_seq ?_
    refine rk_region ?_
    refine ok_mv rfl rfl ?_
    refine ok_v (.ref 0 3 0 1) rfl rfl ?_
    refine ok_v (.d (.int .i64 p0.Y)) rfl rfl ?_
    refine ok_v (.ref 0 3 0 2) rfl rfl ?_
    refine ok_v (.d (.int .i64 p0.Z)) rfl rfl ?_
    refine ok_v (.d (.agg [.int .i64 p2, .int .i64 p0.Y, .int .i64 p0.Z])) rfl rfl ?_
    refine ok_sto 1 (.dat 3 [[.int .i64 p2, .int .i64 p0.Y, .int .i64 p0.Z]]) rfl rfl ?_
    refine ok_nil ?_
    refine rk_ret ?_
    obtain rfl := someE h0
    exact finD (.inr rfl) (v := .d (.agg [.int .i64 p2, .int .i64 p0.Y, .int .i64 p0.Z])) rfl rfl (.refl _)
  · refine rk_skip ?_
    refine rk_seq ?_
    refine rk_seq ?_
    refine rk_region ?_
    refine ok_mv rfl rfl ?_
    refine ok_v (.d (.bool (p1 == 1))) rfl rfl ?_
    refine ok_nil ?_
    refine rk_condH rfl h0 (fun _ h0 => ?_) (fun _ h0 => ?_)
    · refine rk_seq ?_
      refine rk_region ?_
      refine ok_v (.ref 0 3 0 0) rfl rfl ?_
      refine ok_v (.d (.int .i64 p0.X)) rfl rfl ?_
      refine ok_mv rfl rfl ?_
      refine ok_v (.ref 0 3 0 2) rfl rfl ?_
      refine ok_v (.d (.int .i64 p0.Z)) rfl rfl ?_
      refine ok_v (.d (.agg [.int .i64 p0.X, .int .i64 p2, .int .i64 p0.Z])) rfl rfl ?_
      refine ok_sto 1 (.dat 3 [[.int .i64 p0.X, .int .i64 p2, .int .i64 p0.Z]]) rfl rfl ?_
      refine ok_nil ?_
      refine rk_ret ?_
      obtain rfl := someE h0
      exact finD (.inr rfl) (v := .d (.agg [.int .i64 p0.X, .int .i64 p2, .int .i64 p0.Z])) rfl rfl (.refl _)
    · refine rk_skip ?_
      refine rk_seq ?_
      refine rk_region ?_
      refine ok_v (.ref 0 3 0 0) rfl rfl ?_
      refine ok_v (.d (.int .i64 p0.X)) rfl rfl ?_
      refine ok_v (.ref 0 3 0 1) rfl rfl ?_
      refine ok_v (.d (.int .i64 p0.Y)) rfl rfl ?_
      refine ok_mv rfl rfl ?_
      refine ok_v (.d (.agg [.int .i64 p0.X, .int .i64 p0.Y, .int .i64 p2])) rfl rfl ?_
      refine ok_sto 1 (.dat 3 [[.int .i64 p0.X, .int .i64 p0.Y, .int .i64 p2]]) rfl rfl ?_
      refine ok_nil ?_
      refine rk_ret ?_
      obtain rfl := someE h0
      exact finD (.inr rfl) (v := .d (.agg [.int .i64 p0.X, .int .i64 p0.Y, .int .i64 p2])) rfl rfl (.refl _)

set_option maxRecDepth 100000 in
set_option maxHeartbeats 8000000 in
theorem r16_Images_ok (p0 : Int) (r : (api_Vec × api_Vec × api_Vec)) (h0 : r16_Images p0 = some r) : Pure Try.prog tab 46 [.int .i64 p0] (.agg [.int .i64 r.1.X, .int .i64 r.1.Y, .int .i64 r.1.Z, .int .i64 r.2.1.X, .int .i64 r.2.1.Y, .int .i64 r.2.1.Z, .int .i64 r.2.2.X, .int .i64 r.2.2.Y, .int .i64 r.2.2.Z]) := by
  unfold r16_Images at h0
  refine pure_of_run Try.func46 rfl (by kernel_rfl) (by kernel_rfl) rfl ?_
  refine rk_seq ?_
  refine rk_region ?_
  refine ok_alloc rfl rfl ?_
  refine ok_nil ?_
  refine rk_seq ?_
  refine rk_region ?_
  refine ok_mv rfl rfl ?_
  refine ok_v (.d (.int .i64 (w64 (Int.tdiv p0 4)))) rfl rfl ?_
  refine ok_as rfl rfl ?_
  refine ok_nil ?_
  refine rk_seq ?_
  refine rk_region ?_
  refine ok_as rfl rfl ?_
  refine ok_nil ?_
  refine rk_seq ?_
  refine rk_seq ?_
  refine rk_region ?_
  refine ok_as rfl rfl ?_
  refine ok_nil ?_
  obtain ⟨m11, h12, h0⟩ := bindE h0
  refine rk_blockcut (fun b13 => b13 = m11) (fun (b13 : List Int) => ⟨[(0, .d (.int .i64 p0)), (2, .ref 0 9 0 0), (3, .d (.int .i64 (w64 (Int.tdiv p0 4)))), (4, .hs 1 1 0 b13.length)], [(0, .dat 9 [[.int .i64 0, .int .i64 0, .int .i64 0, .int .i64 0, .int .i64 0, .int .i64 0, .int .i64 0, .int .i64 0, .int .i64 0]]), (1, .dat 1 (b13.map (eI .i64)))], 2⟩) (by simp) ?_ ?_
  · refine rk_loopF (r16_Images_L1 p0) (fun (a10 : Int × List Int) => ⟨[(0, .d (.int .i64 p0)), (2, .ref 0 9 0 0), (3, .d (.int .i64 (w64 (Int.tdiv p0 4)))), (4, .hs 1 1 0 a10.2.length), (5, .d (.int .i64 a10.1))], [(0, .dat 9 [[.int .i64 0, .int .i64 0, .int .i64 0, .int .i64 0, .int .i64 0, .int .i64 0, .int .i64 0, .int .i64 0, .int .i64 0]]), (1, .dat 1 (a10.2.map (eI .i64)))], 2⟩) (0, []) m11 h12 (wkE [(0, 0)] [] [1] rfl ⟨⟨_, rfl, .d (.refl _)⟩, ⟨_, rfl, .ref rfl (by decide) (ltd rfl)⟩, ⟨_, rfl, .d (.refl _)⟩, ⟨_, rfl, .nil (by decide) (ltd rfl)⟩, ⟨_, rfl, .d (.refl _)⟩, trivial⟩ ⟨⟨ltd rfl, .inr ⟨by decide, _, rfl, .dat _ _⟩⟩, ⟨ltd rfl, .inl ⟨by decide, _, by decide, rfl⟩⟩, trivial⟩) ?_
    intro a10 y8 h9
    unfold r16_Images_L1 at h9
    refine rk_seq ?_
    refine rk_seq ?_
    refine rk_region ?_
    refine ok_mv rfl rfl ?_
    refine ok_v (.d (.bool (decide (a10.1 < 6)))) rfl rfl ?_
    refine ok_nil ?_
    refine rk_condH rfl h9 (fun _ h9 => ?_) (fun _ h9 => ?_)
    · refine rk_skip ?_
      refine rk_seq ?_
      obtain ⟨m17, h16, h9⟩ := bindE h9
      refine rk_blockcut (fun b18 => b18 = m17) (fun (b18 : List Int) => ⟨[(0, .d (.int .i64 p0)), (2, .ref 0 9 0 0), (3, .d (.int .i64 (w64 (Int.tdiv p0 4)))), (4, .hs 1 1 0 b18.length), (5, .d (.int .i64 a10.1))], [(0, .dat 9 [[.int .i64 0, .int .i64 0, .int .i64 0, .int .i64 0, .int .i64 0, .int .i64 0, .int .i64 0, .int .i64 0, .int .i64 0]]), (1, .dat 1 (b18.map (eI .i64)))], 2⟩) (by simp) ?_ ?_
      · refine rk_seq ?_
        refine rk_region ?_
        refine ok_mv rfl rfl ?_
        refine ok_v (.d (.int .i64 (w64 (Int.tdiv a10.1 2)))) rfl rfl ?_
        refine ok_mv rfl rfl ?_
        refine ok_v (.d (.int .i64 (w64 (Int.tdiv (w64 (Int.tdiv p0 4)) 2)))) rfl rfl ?_
        refine ok_v (.d (.bool ((w64 (Int.tdiv a10.1 2)) != (w64 (Int.tdiv (w64 (Int.tdiv p0 4)) 2))))) rfl rfl ?_
        refine ok_nil ?_
        refine rk_condH rfl h16 (fun _ h16 => ?_) (fun _ h16 => ?_)
        · refine rk_region ?_
          refine ok_mv rfl rfl ?_
          refine ok_mv rfl rfl ?_
          refine ok_new (.hs 2 1 0 [a10.1].length) (.dat 1 ([a10.1].map (eI .i64))) rfl rfl ?_
          obtain ⟨z19, h20, h16⟩ := bindE h16
          refine ok_ap (xs := a10.2) (ys := [a10.1]) (enc := (eI .i64)) (.hs 2 1 0 [a10.1].length) h20 rfl rfl rfl rfl rfl rfl rfl (conts_hs rfl rfl) rfl rfl rfl rfl ?_
          refine ok_as rfl rfl ?_
          refine ok_nil ?_
          refine rk_nil ?_
          obtain rfl := someE h16
          exact ⟨_, rfl, wkE [(0, 0), (1, 3)] [] [] rfl ⟨⟨_, rfl, .d (.refl _)⟩, ⟨_, rfl, .ref rfl (by decide) (ltd rfl)⟩, ⟨_, rfl, .d (.refl _)⟩, ⟨_, rfl, .hs rfl (by decide) (ltd rfl)⟩, ⟨_, rfl, .d (.refl _)⟩, trivial⟩ ⟨⟨ltd rfl, .inr ⟨by decide, _, rfl, .dat _ _⟩⟩, ⟨ltd rfl, .inr ⟨by decide, _, rfl, .dat _ _⟩⟩, trivial⟩⟩
        · refine rk_skip ?_
          refine rk_nil ?_
          obtain rfl := someE h16
          exact ⟨_, rfl, wkE [(0, 0), (1, 1)] [] [] rfl ⟨⟨_, rfl, .d (.refl _)⟩, ⟨_, rfl, .ref rfl (by decide) (ltd rfl)⟩, ⟨_, rfl, .d (.refl _)⟩, ⟨_, rfl, .hs rfl (by decide) (ltd rfl)⟩, ⟨_, rfl, .d (.refl _)⟩, trivial⟩ ⟨⟨ltd rfl, .inr ⟨by decide, _, rfl, .dat _ _⟩⟩, ⟨ltd rfl, .inr ⟨by decide, _, rfl, .dat _ _⟩⟩, trivial⟩⟩
      · intro b18 hb
        subst hb
        refine rk_region ?_
        refine ok_mv rfl rfl ?_
        refine ok_v (.d (.int .i64 (w64 (a10.1 + 1)))) rfl rfl ?_
        refine ok_as rfl rfl ?_
        refine ok_nil ?_
        refine rk_nil ?_
        exact ⟨_, (Option.some.inj h9).symm, wkE [(0, 0), (1, 1)] [] [] rfl ⟨⟨_, rfl, .d (.refl _)⟩, ⟨_, rfl, .ref rfl (by decide) (ltd rfl)⟩, ⟨_, rfl, .d (.refl _)⟩, ⟨_, rfl, .hs rfl (by decide) (ltd rfl)⟩, ⟨_, rfl, .d (.refl _)⟩, trivial⟩ ⟨⟨ltd rfl, .inr ⟨by decide, _, rfl, .dat _ _⟩⟩, ⟨ltd rfl, .inr ⟨by decide, _, rfl, .dat _ _⟩⟩, trivial⟩⟩
    · refine rk_exit ?_
      refine ⟨_, (Option.some.inj h9).symm, fun hm => ?_⟩
      subst hm
      exact ⟨_, rfl, wkE [(0, 0), (1, 1)] [] [] rfl ⟨⟨_, rfl, .d (.refl _)⟩, ⟨_, rfl, .ref rfl (by decide) (ltd rfl)⟩, ⟨_, rfl, .d (.refl _)⟩, ⟨_, rfl, .hs rfl (by decide) (ltd rfl)⟩, trivial⟩ ⟨⟨ltd rfl, .inr ⟨by decide, _, rfl, .dat _ _⟩⟩, ⟨ltd rfl, .inr ⟨by decide, _, rfl, .dat _ _⟩⟩, trivial⟩⟩
  · intro b13 hb
    subst hb
    refine rk_seq ?_
    refine rk_region ?_
    refine ok_mv rfl rfl ?_
    refine ok_mv rfl rfl ?_
    refine ok_v (.d (.int .i64 (Int.tmod p0 4))) rfl rfl ?_
    obtain ⟨v21, h22, h0⟩ := bindE h0
    refine ok_ih h22 rfl rfl rfl rfl rfl rfl rfl ?_
    refine ok_lh (.d (.int .i64 v21)) h22 rfl rfl rfl rfl rfl rfl ?_
    refine ok_as rfl rfl ?_
    refine ok_nil ?_
    refine rk_seq ?_
    refine rk_region ?_
    refine ok_mv rfl rfl ?_
    obtain ⟨r23, h24, h0⟩ := bindE h0
    refine ok_pc [.d (.int .i64 (w64 (Int.tdiv p0 4)))] (r16_Direction_ok (w64 (Int.tdiv p0 4)) r23 h24) rfl rfl rfl (.inl rfl) ?_
    refine ok_mv rfl rfl ?_
    obtain ⟨r25, h26, h0⟩ := bindE h0
    refine ok_pc [.d (.int .i64 v21)] (r16_Direction_ok v21 r25 h26) rfl rfl rfl (.inl rfl) ?_
    refine ok_mv rfl rfl ?_
    obtain ⟨r27, h28, h0⟩ := bindE h0
    refine ok_pc [.d (.int .i64 (w64 (Int.tdiv p0 4)))] (r16_Direction_ok (w64 (Int.tdiv p0 4)) r27 h28) rfl rfl rfl (.inl rfl) ?_
    refine ok_mv rfl rfl ?_
    obtain ⟨r29, h30, h0⟩ := bindE h0
    refine ok_pc [.d (.int .i64 v21)] (r16_Direction_ok v21 r29 h30) rfl rfl rfl (.inl rfl) ?_
    obtain ⟨r31, h32, h0⟩ := bindE h0
    refine ok_pc [.d (.agg [.int .i64 r27.X, .int .i64 r27.Y, .int .i64 r27.Z]), .d (.agg [.int .i64 r29.X, .int .i64 r29.Y, .int .i64 r29.Z])] (r16_Cross_ok r27 r29 r31 h32) rfl rfl rfl (.inl rfl) ?_
    refine ok_v (.d (.agg [.int .i64 r23.X, .int .i64 r23.Y, .int .i64 r23.Z, .int .i64 r25.X, .int .i64 r25.Y, .int .i64 r25.Z, .int .i64 r31.X, .int .i64 r31.Y, .int .i64 r31.Z])) rfl rfl ?_
    refine ok_sto 0 (.dat 9 [[.int .i64 r23.X, .int .i64 r23.Y, .int .i64 r23.Z, .int .i64 r25.X, .int .i64 r25.Y, .int .i64 r25.Z, .int .i64 r31.X, .int .i64 r31.Y, .int .i64 r31.Z]]) rfl rfl ?_
    refine ok_nil ?_
    refine rk_ret ?_
    obtain rfl := someE h0
    exact finD (.inr rfl) (v := .d (.agg [.int .i64 r23.X, .int .i64 r23.Y, .int .i64 r23.Z, .int .i64 r25.X, .int .i64 r25.Y, .int .i64 r25.Z, .int .i64 r31.X, .int .i64 r31.Y, .int .i64 r31.Z])) rfl rfl (.refl _)

set_option maxRecDepth 100000 in
set_option maxHeartbeats 8000000 in
theorem r16_Turned_ok (p0 : api_Vec × api_Vec × api_Vec) (r : Int) (h0 : r16_Turned p0 = some r) : Pure Try.prog tab 29 [.agg [.int .i64 p0.1.X, .int .i64 p0.1.Y, .int .i64 p0.1.Z, .int .i64 p0.2.1.X, .int .i64 p0.2.1.Y, .int .i64 p0.2.1.Z, .int .i64 p0.2.2.X, .int .i64 p0.2.2.Y, .int .i64 p0.2.2.Z]] (.int .i64 r) := by
  unfold r16_Turned at h0
  refine pure_of_run Try.func29 rfl (by kernel_rfl) (by kernel_rfl) rfl ?_
  refine rk_seq ?_
  refine rk_region ?_
  refine ok_new (.ref 0 9 0 0) (.dat 9 [[.int .i64 p0.1.X, .int .i64 p0.1.Y, .int .i64 p0.1.Z, .int .i64 p0.2.1.X, .int .i64 p0.2.1.Y, .int .i64 p0.2.1.Z, .int .i64 p0.2.2.X, .int .i64 p0.2.2.Y, .int .i64 p0.2.2.Z]]) rfl rfl ?_
  refine ok_as rfl rfl ?_
  refine ok_nil ?_
  refine rk_seq ?_
  refine rk_seq ?_
  refine rk_region ?_
  refine ok_as rfl rfl ?_
  refine ok_nil ?_
  obtain ⟨m12, h13, h0⟩ := bindE h0
  refine rk_blockcut (fun b14 => .inl b14 = m12) (fun (b14 : Unit) => ⟨[], [], 0⟩) (by simp) ?_ ?_
  · refine rk_loopF (r16_Turned_L1 p0) (fun (a11 : Int) => ⟨[(1, .ref 0 9 0 0), (3, .d (.int .i64 a11))], [(0, .dat 9 [[.int .i64 p0.1.X, .int .i64 p0.1.Y, .int .i64 p0.1.Z, .int .i64 p0.2.1.X, .int .i64 p0.2.1.Y, .int .i64 p0.2.1.Z, .int .i64 p0.2.2.X, .int .i64 p0.2.2.Y, .int .i64 p0.2.2.Z]])], 1⟩) 0 m12 h13 (wkE [(0, 0)] [] [] rfl ⟨⟨_, rfl, .ref rfl (by decide) (ltd rfl)⟩, ⟨_, rfl, .d (.refl _)⟩, trivial⟩ ⟨⟨ltd rfl, .inr ⟨by decide, _, rfl, .dat _ _⟩⟩, trivial⟩) ?_
    intro a11 y9 h10
    unfold r16_Turned_L1 at h10
    refine rk_seq ?_
    refine rk_seq ?_
    refine rk_region ?_
    refine ok_mv rfl rfl ?_
    refine ok_v (.d (.bool (decide (a11 < 24)))) rfl rfl ?_
    refine ok_nil ?_
    refine rk_condH rfl h10 (fun _ h10 => ?_) (fun _ h10 => ?_)
    · refine rk_skip ?_
      refine rk_seq ?_
      refine rk_block ?_
      refine rk_seq ?_
      refine rk_regionD [(some [], []), (some [0], []), (some [], []), (some [], [])] (by kernel_rfl) ?_
      refine ok_mv rfl rfl ?_
      obtain ⟨r17, h18, h10⟩ := bindE h10
      refine ok_pc [.d (.int .i64 a11)] (r16_Images_ok a11 r17 h18) rfl rfl rfl (.inl rfl) ?_
      refine ok_v (.d (.agg [.int .i64 p0.1.X, .int .i64 p0.1.Y, .int .i64 p0.1.Z, .int .i64 p0.2.1.X, .int .i64 p0.2.1.Y, .int .i64 p0.2.1.Z, .int .i64 p0.2.2.X, .int .i64 p0.2.2.Y, .int .i64 p0.2.2.Z])) rfl rfl ?_
      refine ok_v (.d (.bool ((r17.1.X == p0.1.X) && ((r17.1.Y == p0.1.Y) && ((r17.1.Z == p0.1.Z) && ((r17.2.1.X == p0.2.1.X) && ((r17.2.1.Y == p0.2.1.Y) && ((r17.2.1.Z == p0.2.1.Z) && ((r17.2.2.X == p0.2.2.X) && ((r17.2.2.Y == p0.2.2.Y) && ((r17.2.2.Z == p0.2.2.Z) && true))))))))))) rfl rfl ?_
      refine ok_nil ?_
      refine rk_condH rfl h10 (fun _ h10 => ?_) (fun _ h10 => ?_)
      · refine rk_seq ?_
        refine rk_region ?_
        refine ok_mv rfl rfl ?_
        refine ok_as rfl rfl ?_
        refine ok_nil ?_
        refine rk_ret ?_
        refine ⟨_, (Option.some.inj h10).symm, fun hm => ?_⟩
        subst hm
        obtain rfl := someE h0
        exact finD (.inr rfl) (v := .d (.int .i64 a11)) rfl rfl (.refl _)
      · refine rk_skip ?_
        refine rk_nil ?_
        refine blk_nor ?_
        refine rk_region ?_
        refine ok_mv rfl rfl ?_
        refine ok_v (.d (.int .i64 (w64 (a11 + 1)))) rfl rfl ?_
        refine ok_as rfl rfl ?_
        refine ok_nil ?_
        refine rk_nil ?_
        exact ⟨_, (Option.some.inj h10).symm, wkE [(0, 0)] [] [] rfl ⟨⟨_, rfl, .ref rfl (by decide) (ltd rfl)⟩, ⟨_, rfl, .d (.refl _)⟩, trivial⟩ ⟨⟨ltd rfl, .inr ⟨by decide, _, rfl, .dat _ _⟩⟩, trivial⟩⟩
    · refine rk_exit ?_
      refine ⟨_, (Option.some.inj h10).symm, fun hm => ?_⟩
      subst hm
      exact ⟨_, rfl, wkE [] [] [] rfl trivial trivial⟩
  · intro b14 hb
    subst hb
    refine rk_seq ?_
    refine rk_region ?_
    refine ok_as rfl rfl ?_
    refine ok_nil ?_
    refine rk_ret ?_
    obtain rfl := someE h0
    exact finD (.inr rfl) (v := .d (.int .i64 (-1))) rfl rfl (.refl _)

set_option maxRecDepth 100000 in
set_option maxHeartbeats 8000000 in
theorem r16_Times_ok (p0 : Int) (p1 : api_Vec) (r : api_Vec) (h0 : r16_Times p0 p1 = some r) : Pure Try.prog tab 80 [.int .i64 p0, .agg [.int .i64 p1.X, .int .i64 p1.Y, .int .i64 p1.Z]] (.agg [.int .i64 r.X, .int .i64 r.Y, .int .i64 r.Z]) := by
  unfold r16_Times at h0
  refine pure_of_run Try.func80 rfl (by kernel_rfl) (by kernel_rfl) rfl ?_
  refine rk_seq ?_
  refine rk_region ?_
  refine ok_new (.ref 0 3 0 0) (.dat 3 [[.int .i64 p1.X, .int .i64 p1.Y, .int .i64 p1.Z]]) rfl rfl ?_
  refine ok_alloc rfl rfl ?_
  refine ok_nil ?_
  refine rk_seq ?_
  refine rk_region ?_
  refine ok_mv rfl rfl ?_
  refine ok_v (.ref 0 3 0 0) rfl rfl ?_
  refine ok_v (.d (.int .i64 p1.X)) rfl rfl ?_
  refine ok_v (.d (.int .i64 (w64 (p0 * p1.X)))) rfl rfl ?_
  refine ok_mv rfl rfl ?_
  refine ok_v (.ref 0 3 0 1) rfl rfl ?_
  refine ok_v (.d (.int .i64 p1.Y)) rfl rfl ?_
  refine ok_v (.d (.int .i64 (w64 (p0 * p1.Y)))) rfl rfl ?_
  refine ok_mv rfl rfl ?_
  refine ok_v (.ref 0 3 0 2) rfl rfl ?_
  refine ok_v (.d (.int .i64 p1.Z)) rfl rfl ?_
  refine ok_v (.d (.int .i64 (w64 (p0 * p1.Z)))) rfl rfl ?_
  refine ok_v (.d (.agg [.int .i64 (w64 (p0 * p1.X)), .int .i64 (w64 (p0 * p1.Y)), .int .i64 (w64 (p0 * p1.Z))])) rfl rfl ?_
  refine ok_sto 1 (.dat 3 [[.int .i64 (w64 (p0 * p1.X)), .int .i64 (w64 (p0 * p1.Y)), .int .i64 (w64 (p0 * p1.Z))]]) rfl rfl ?_
  refine ok_nil ?_
  refine rk_ret ?_
  obtain rfl := someE h0
  exact finD (.inr rfl) (v := .d (.agg [.int .i64 (w64 (p0 * p1.X)), .int .i64 (w64 (p0 * p1.Y)), .int .i64 (w64 (p0 * p1.Z))])) rfl rfl (.refl _)

set_option maxRecDepth 100000 in
set_option maxHeartbeats 8000000 in
theorem r16_Plus_ok (p0 : api_Vec) (p1 : api_Vec) (r : api_Vec) (h0 : r16_Plus p0 p1 = some r) : Pure Try.prog tab 79 [.agg [.int .i64 p0.X, .int .i64 p0.Y, .int .i64 p0.Z], .agg [.int .i64 p1.X, .int .i64 p1.Y, .int .i64 p1.Z]] (.agg [.int .i64 r.X, .int .i64 r.Y, .int .i64 r.Z]) := by
  unfold r16_Plus at h0
  refine pure_of_run Try.func79 rfl (by kernel_rfl) (by kernel_rfl) rfl ?_
  refine rk_seq ?_
  refine rk_region ?_
  refine ok_new (.ref 0 3 0 0) (.dat 3 [[.int .i64 p0.X, .int .i64 p0.Y, .int .i64 p0.Z]]) rfl rfl ?_
  refine ok_new (.ref 1 3 0 0) (.dat 3 [[.int .i64 p1.X, .int .i64 p1.Y, .int .i64 p1.Z]]) rfl rfl ?_
  refine ok_alloc rfl rfl ?_
  refine ok_nil ?_
  refine rk_seq ?_
  refine rk_region ?_
  refine ok_v (.ref 0 3 0 0) rfl rfl ?_
  refine ok_v (.d (.int .i64 p0.X)) rfl rfl ?_
  refine ok_v (.ref 1 3 0 0) rfl rfl ?_
  refine ok_v (.d (.int .i64 p1.X)) rfl rfl ?_
  refine ok_v (.d (.int .i64 (w64 (p0.X + p1.X)))) rfl rfl ?_
  refine ok_v (.ref 0 3 0 1) rfl rfl ?_
  refine ok_v (.d (.int .i64 p0.Y)) rfl rfl ?_
  refine ok_v (.ref 1 3 0 1) rfl rfl ?_
  refine ok_v (.d (.int .i64 p1.Y)) rfl rfl ?_
  refine ok_v (.d (.int .i64 (w64 (p0.Y + p1.Y)))) rfl rfl ?_
  refine ok_v (.ref 0 3 0 2) rfl rfl ?_
  refine ok_v (.d (.int .i64 p0.Z)) rfl rfl ?_
  refine ok_v (.ref 1 3 0 2) rfl rfl ?_
  refine ok_v (.d (.int .i64 p1.Z)) rfl rfl ?_
  refine ok_v (.d (.int .i64 (w64 (p0.Z + p1.Z)))) rfl rfl ?_
  refine ok_v (.d (.agg [.int .i64 (w64 (p0.X + p1.X)), .int .i64 (w64 (p0.Y + p1.Y)), .int .i64 (w64 (p0.Z + p1.Z))])) rfl rfl ?_
  refine ok_sto 2 (.dat 3 [[.int .i64 (w64 (p0.X + p1.X)), .int .i64 (w64 (p0.Y + p1.Y)), .int .i64 (w64 (p0.Z + p1.Z))]]) rfl rfl ?_
  refine ok_nil ?_
  refine rk_ret ?_
  obtain rfl := someE h0
  exact finD (.inr rfl) (v := .d (.agg [.int .i64 (w64 (p0.X + p1.X)), .int .i64 (w64 (p0.Y + p1.Y)), .int .i64 (w64 (p0.Z + p1.Z))])) rfl rfl (.refl _)

set_option maxRecDepth 100000 in
set_option maxHeartbeats 8000000 in
theorem r16_Sum_ok (p0 : api_Vec × api_Vec × api_Vec) (p1 : api_Vec) (r : api_Vec) (h0 : r16_Sum p0 p1 = some r) : Pure Try.prog tab 59 [.agg [.int .i64 p0.1.X, .int .i64 p0.1.Y, .int .i64 p0.1.Z, .int .i64 p0.2.1.X, .int .i64 p0.2.1.Y, .int .i64 p0.2.1.Z, .int .i64 p0.2.2.X, .int .i64 p0.2.2.Y, .int .i64 p0.2.2.Z], .agg [.int .i64 p1.X, .int .i64 p1.Y, .int .i64 p1.Z]] (.agg [.int .i64 r.X, .int .i64 r.Y, .int .i64 r.Z]) := by
  unfold r16_Sum at h0
  refine pure_of_run Try.func59 rfl (by kernel_rfl) (by kernel_rfl) rfl ?_
  refine rk_seq ?_
  refine rk_region ?_
  refine ok_new (.ref 0 9 0 0) (.dat 9 [[.int .i64 p0.1.X, .int .i64 p0.1.Y, .int .i64 p0.1.Z, .int .i64 p0.2.1.X, .int .i64 p0.2.1.Y, .int .i64 p0.2.1.Z, .int .i64 p0.2.2.X, .int .i64 p0.2.2.Y, .int .i64 p0.2.2.Z]]) rfl rfl ?_
  refine ok_new (.ref 1 3 0 0) (.dat 3 [[.int .i64 p1.X, .int .i64 p1.Y, .int .i64 p1.Z]]) rfl rfl ?_
  refine ok_alloc rfl rfl ?_
  refine ok_nil ?_
  refine rk_seq ?_
  refine rk_regionD [(some [2], [2]), (some [], []), (some [], []), (some [], []), (some [0], []), (some [], []), (some [1], []), (some [], []), (some [], []), (some [0], []), (some [], []), (some [1], []), (some [], []), (some [], []), (some [0], []), (some [], []), (some [1], []), (some [], [])] (by kernel_rfl) ?_
  refine ok_v (.ref 1 3 0 0) rfl rfl ?_
  refine ok_v (.d (.int .i64 p1.X)) rfl rfl ?_
  refine ok_v (.ref 0 9 0 0) rfl rfl ?_
  refine ok_v (.d (.agg [.int .i64 p0.1.X, .int .i64 p0.1.Y, .int .i64 p0.1.Z])) rfl rfl ?_
  obtain ⟨r1, h2, h0⟩ := bindE h0
  refine ok_pc [.d (.int .i64 p1.X), .d (.agg [.int .i64 p0.1.X, .int .i64 p0.1.Y, .int .i64 p0.1.Z])] (r16_Times_ok p1.X p0.1 r1 h2) rfl rfl rfl (.inl rfl) ?_
  refine ok_v (.ref 1 3 0 1) rfl rfl ?_
  refine ok_v (.d (.int .i64 p1.Y)) rfl rfl ?_
  refine ok_v (.ref 0 9 0 3) rfl rfl ?_
  refine ok_v (.d (.agg [.int .i64 p0.2.1.X, .int .i64 p0.2.1.Y, .int .i64 p0.2.1.Z])) rfl rfl ?_
  obtain ⟨r3, h4, h0⟩ := bindE h0
  refine ok_pc [.d (.int .i64 p1.Y), .d (.agg [.int .i64 p0.2.1.X, .int .i64 p0.2.1.Y, .int .i64 p0.2.1.Z])] (r16_Times_ok p1.Y p0.2.1 r3 h4) rfl rfl rfl (.inl rfl) ?_
  refine ok_v (.ref 1 3 0 2) rfl rfl ?_
  refine ok_v (.d (.int .i64 p1.Z)) rfl rfl ?_
  refine ok_v (.ref 0 9 0 6) rfl rfl ?_
  refine ok_v (.d (.agg [.int .i64 p0.2.2.X, .int .i64 p0.2.2.Y, .int .i64 p0.2.2.Z])) rfl rfl ?_
  obtain ⟨r5, h6, h0⟩ := bindE h0
  refine ok_pc [.d (.int .i64 p1.Z), .d (.agg [.int .i64 p0.2.2.X, .int .i64 p0.2.2.Y, .int .i64 p0.2.2.Z])] (r16_Times_ok p1.Z p0.2.2 r5 h6) rfl rfl rfl (.inl rfl) ?_
  obtain ⟨r7, h8, h0⟩ := bindE h0
  refine ok_pc [.d (.agg [.int .i64 r3.X, .int .i64 r3.Y, .int .i64 r3.Z]), .d (.agg [.int .i64 r5.X, .int .i64 r5.Y, .int .i64 r5.Z])] (r16_Plus_ok r3 r5 r7 h8) rfl rfl rfl (.inl rfl) ?_
  obtain ⟨r9, h10, h0⟩ := bindE h0
  refine ok_pc [.d (.agg [.int .i64 r1.X, .int .i64 r1.Y, .int .i64 r1.Z]), .d (.agg [.int .i64 r7.X, .int .i64 r7.Y, .int .i64 r7.Z])] (r16_Plus_ok r1 r7 r9 h10) rfl rfl rfl (.inl rfl) ?_
  refine ok_sto 2 (.dat 3 [[.int .i64 r9.X, .int .i64 r9.Y, .int .i64 r9.Z]]) rfl rfl ?_
  refine ok_nil ?_
  refine rk_ret ?_
  obtain rfl := someE h0
  exact finD (.inr rfl) (v := .d (.agg [.int .i64 r9.X, .int .i64 r9.Y, .int .i64 r9.Z])) rfl rfl (.refl _)

set_option maxRecDepth 100000 in
set_option maxHeartbeats 8000000 in
theorem r16_Image_ok (p0 : api_Frame) (p1 : api_Vec) (r : api_Vec) (h0 : r16_Image p0 p1 = some r) : Pure Try.prog tab 60 [.agg [.int .u8 p0.Turn, .int .i64 p0.At.X, .int .i64 p0.At.Y, .int .i64 p0.At.Z], .agg [.int .i64 p1.X, .int .i64 p1.Y, .int .i64 p1.Z]] (.agg [.int .i64 r.X, .int .i64 r.Y, .int .i64 r.Z]) := by
  unfold r16_Image at h0
  refine pure_of_run Try.func60 rfl (by kernel_rfl) (by kernel_rfl) rfl ?_
  refine rk_seq ?_
  refine rk_region ?_
  refine ok_new (.ref 0 4 0 0) (.dat 4 [[.int .u8 p0.Turn, .int .i64 p0.At.X, .int .i64 p0.At.Y, .int .i64 p0.At.Z]]) rfl rfl ?_
  refine ok_new (.ref 1 3 0 0) (.dat 3 [[.int .i64 p1.X, .int .i64 p1.Y, .int .i64 p1.Z]]) rfl rfl ?_
  refine ok_alloc rfl rfl ?_
  refine ok_nil ?_
  refine rk_seq ?_
  refine rk_regionD [(some [2], [2]), (some [], []), (some [0], []), (some [], []), (some [], []), (some [1], []), (some [], []), (some [], []), (some [0], []), (some [], [])] (by kernel_rfl) ?_
  refine ok_v (.ref 0 4 0 0) rfl rfl ?_
  refine ok_v (.d (.int .u8 p0.Turn)) rfl rfl ?_
  refine ok_v (.d (.int .i64 (w64 p0.Turn))) rfl rfl ?_
  obtain ⟨r1, h2, h0⟩ := bindE h0
  refine ok_pc [.d (.int .i64 (w64 p0.Turn))] (r16_Images_ok (w64 p0.Turn) r1 h2) rfl rfl rfl (.inl rfl) ?_
  refine ok_v (.d (.agg [.int .i64 p1.X, .int .i64 p1.Y, .int .i64 p1.Z])) rfl rfl ?_
  obtain ⟨r3, h4, h0⟩ := bindE h0
  refine ok_pc [.d (.agg [.int .i64 r1.1.X, .int .i64 r1.1.Y, .int .i64 r1.1.Z, .int .i64 r1.2.1.X, .int .i64 r1.2.1.Y, .int .i64 r1.2.1.Z, .int .i64 r1.2.2.X, .int .i64 r1.2.2.Y, .int .i64 r1.2.2.Z]), .d (.agg [.int .i64 p1.X, .int .i64 p1.Y, .int .i64 p1.Z])] (r16_Sum_ok r1 p1 r3 h4) rfl rfl rfl (.inl rfl) ?_
  refine ok_v (.ref 0 4 0 1) rfl rfl ?_
  refine ok_v (.d (.agg [.int .i64 p0.At.X, .int .i64 p0.At.Y, .int .i64 p0.At.Z])) rfl rfl ?_
  obtain ⟨r5, h6, h0⟩ := bindE h0
  refine ok_pc [.d (.agg [.int .i64 r3.X, .int .i64 r3.Y, .int .i64 r3.Z]), .d (.agg [.int .i64 p0.At.X, .int .i64 p0.At.Y, .int .i64 p0.At.Z])] (r16_Plus_ok r3 p0.At r5 h6) rfl rfl rfl (.inl rfl) ?_
  refine ok_sto 2 (.dat 3 [[.int .i64 r5.X, .int .i64 r5.Y, .int .i64 r5.Z]]) rfl rfl ?_
  refine ok_nil ?_
  refine rk_ret ?_
  obtain rfl := someE h0
  exact finD (.inr rfl) (v := .d (.agg [.int .i64 r5.X, .int .i64 r5.Y, .int .i64 r5.Z])) rfl rfl (.refl _)

set_option maxRecDepth 100000 in
set_option maxHeartbeats 8000000 in
theorem r16_Within_ok (p0 : api_Frame) (p1 : api_Frame) (r : api_Frame × Int) (h0 : r16_Within p0 p1 = some r) : Pure Try.prog tab 45 [.agg [.int .u8 p0.Turn, .int .i64 p0.At.X, .int .i64 p0.At.Y, .int .i64 p0.At.Z], .agg [.int .u8 p1.Turn, .int .i64 p1.At.X, .int .i64 p1.At.Y, .int .i64 p1.At.Z]] (.tup [.agg [.int .u8 r.1.Turn, .int .i64 r.1.At.X, .int .i64 r.1.At.Y, .int .i64 r.1.At.Z], .int .i64 r.2]) := by
  unfold r16_Within at h0
  refine pure_of_run Try.func45 rfl (by kernel_rfl) (by kernel_rfl) rfl ?_
  refine rk_seq ?_
  refine rk_region ?_
  refine ok_new (.ref 0 4 0 0) (.dat 4 [[.int .u8 p0.Turn, .int .i64 p0.At.X, .int .i64 p0.At.Y, .int .i64 p0.At.Z]]) rfl rfl ?_
  refine ok_new (.ref 1 4 0 0) (.dat 4 [[.int .u8 p1.Turn, .int .i64 p1.At.X, .int .i64 p1.At.Y, .int .i64 p1.At.Z]]) rfl rfl ?_
  refine ok_alloc rfl rfl ?_
  refine ok_as rfl rfl ?_
  refine ok_nil ?_
  refine rk_seq ?_
  refine rk_seq ?_
  refine rk_region ?_
  refine ok_v (.d (.agg [.int .u8 p0.Turn, .int .i64 p0.At.X, .int .i64 p0.At.Y, .int .i64 p0.At.Z])) rfl rfl ?_
  obtain ⟨r1, h2, h0⟩ := bindE h0
  refine ok_pc [.d (.agg [.int .u8 p0.Turn, .int .i64 p0.At.X, .int .i64 p0.At.Y, .int .i64 p0.At.Z])] (r16_Check_ok p0 r1 h2) rfl rfl rfl (.inl rfl) ?_
  refine ok_v (.d (.bool (r1 != 0))) rfl rfl ?_
  refine ok_nil ?_
  refine rk_condH rfl h0 (fun _ h0 => ?_) (fun _ h0 => ?_)
  · refine rk_seq ?_
    refine rk_region ?_
    refine ok_v (.d (.agg [.int .u8 0, .int .i64 0, .int .i64 0, .int .i64 0])) rfl rfl ?_
    refine ok_v (.d (.agg [.int .u8 p0.Turn, .int .i64 p0.At.X, .int .i64 p0.At.Y, .int .i64 p0.At.Z])) rfl rfl ?_
    obtain ⟨r5, h6, h0⟩ := bindE h0
    refine ok_pc [.d (.agg [.int .u8 p0.Turn, .int .i64 p0.At.X, .int .i64 p0.At.Y, .int .i64 p0.At.Z])] (r16_Check_ok p0 r5 h6) rfl rfl rfl (.inl rfl) ?_
    refine ok_sto 2 (.dat 4 [[.int .u8 0, .int .i64 0, .int .i64 0, .int .i64 0]]) rfl rfl ?_
    refine ok_as rfl rfl ?_
    refine ok_nil ?_
    refine rk_ret ?_
    obtain rfl := someE h0
    exact finD (.inr rfl) (v := .d (.tup [.agg [.int .u8 0, .int .i64 0, .int .i64 0, .int .i64 0], .int .i64 r5])) rfl rfl (.refl _)
  · refine rk_skip ?_
    refine rk_seq ?_
    refine rk_seq ?_
    refine rk_region ?_
    refine ok_v (.d (.agg [.int .u8 p1.Turn, .int .i64 p1.At.X, .int .i64 p1.At.Y, .int .i64 p1.At.Z])) rfl rfl ?_
    obtain ⟨r7, h8, h0⟩ := bindE h0
    refine ok_pc [.d (.agg [.int .u8 p1.Turn, .int .i64 p1.At.X, .int .i64 p1.At.Y, .int .i64 p1.At.Z])] (r16_Check_ok p1 r7 h8) rfl rfl rfl (.inl rfl) ?_
    refine ok_v (.d (.bool (r7 != 0))) rfl rfl ?_
    refine ok_nil ?_
    refine rk_condH rfl h0 (fun _ h0 => ?_) (fun _ h0 => ?_)
    · refine rk_seq ?_
      refine rk_region ?_
      refine ok_v (.d (.agg [.int .u8 0, .int .i64 0, .int .i64 0, .int .i64 0])) rfl rfl ?_
      refine ok_v (.d (.agg [.int .u8 p1.Turn, .int .i64 p1.At.X, .int .i64 p1.At.Y, .int .i64 p1.At.Z])) rfl rfl ?_
      obtain ⟨r11, h12, h0⟩ := bindE h0
      refine ok_pc [.d (.agg [.int .u8 p1.Turn, .int .i64 p1.At.X, .int .i64 p1.At.Y, .int .i64 p1.At.Z])] (r16_Check_ok p1 r11 h12) rfl rfl rfl (.inl rfl) ?_
      refine ok_sto 2 (.dat 4 [[.int .u8 0, .int .i64 0, .int .i64 0, .int .i64 0]]) rfl rfl ?_
      refine ok_as rfl rfl ?_
      refine ok_nil ?_
      refine rk_ret ?_
      obtain rfl := someE h0
      exact finD (.inr rfl) (v := .d (.tup [.agg [.int .u8 0, .int .i64 0, .int .i64 0, .int .i64 0], .int .i64 r11])) rfl rfl (.refl _)
    · refine rk_skip ?_
      refine rk_seq ?_
      refine rk_region ?_
      refine ok_v (.ref 0 4 0 0) rfl rfl ?_
      refine ok_v (.d (.int .u8 p0.Turn)) rfl rfl ?_
      refine ok_v (.d (.int .i64 (w64 p0.Turn))) rfl rfl ?_
      obtain ⟨r13, h14, h0⟩ := bindE h0
      refine ok_pc [.d (.int .i64 (w64 p0.Turn))] (r16_Images_ok (w64 p0.Turn) r13 h14) rfl rfl rfl (.inl rfl) ?_
      refine ok_alloc rfl rfl ?_
      refine ok_sto 3 (.dat 9 [[r13.1, r13.2.1, r13.2.2].flatMap enc_api_Vec]) rfl rfl ?_
      refine ok_nil ?_
      refine rk_seq ?_
      refine rk_seq ?_
      refine rk_region ?_
      refine ok_as rfl rfl ?_
      refine ok_nil ?_
      obtain ⟨m50, h51, h0⟩ := bindE h0
      refine rk_blockcut (fun b52 => b52 = m50) (fun (b52 : List api_Vec) => ⟨[(2, .ref 0 4 0 0), (3, .ref 1 4 0 0), (4, .ref 2 4 0 0), (6, .ref 3 9 0 0)], [(0, .dat 4 [[.int .u8 p0.Turn, .int .i64 p0.At.X, .int .i64 p0.At.Y, .int .i64 p0.At.Z]]), (1, .dat 4 [[.int .u8 p1.Turn, .int .i64 p1.At.X, .int .i64 p1.At.Y, .int .i64 p1.At.Z]]), (2, .dat 4 [[.int .u8 0, .int .i64 0, .int .i64 0, .int .i64 0]]), (3, .dat 9 [b52.flatMap enc_api_Vec])], 4⟩) (by simp) ?_ ?_
      · refine rk_loopF (r16_Within_L1 p1) (fun (a49 : Int × List api_Vec) => ⟨[(2, .ref 0 4 0 0), (3, .ref 1 4 0 0), (4, .ref 2 4 0 0), (6, .ref 3 9 0 0), (7, .d (.int .i64 a49.1))], [(0, .dat 4 [[.int .u8 p0.Turn, .int .i64 p0.At.X, .int .i64 p0.At.Y, .int .i64 p0.At.Z]]), (1, .dat 4 [[.int .u8 p1.Turn, .int .i64 p1.At.X, .int .i64 p1.At.Y, .int .i64 p1.At.Z]]), (2, .dat 4 [[.int .u8 0, .int .i64 0, .int .i64 0, .int .i64 0]]), (3, .dat 9 [a49.2.flatMap enc_api_Vec])], 4⟩) (0, [r13.1, r13.2.1, r13.2.2]) m50 h51 (wkE [(0, 0), (1, 1), (2, 2), (3, 3)] [] [] rfl ⟨⟨_, rfl, .ref rfl (by decide) (ltd rfl)⟩, ⟨_, rfl, .ref rfl (by decide) (ltd rfl)⟩, ⟨_, rfl, .ref rfl (by decide) (ltd rfl)⟩, ⟨_, rfl, .ref rfl (by decide) (ltd rfl)⟩, ⟨_, rfl, .d (.refl _)⟩, trivial⟩ ⟨⟨ltd rfl, .inr ⟨by decide, _, rfl, .dat _ _⟩⟩, ⟨ltd rfl, .inr ⟨by decide, _, rfl, .dat _ _⟩⟩, ⟨ltd rfl, .inr ⟨by decide, _, rfl, .dat _ _⟩⟩, ⟨ltd rfl, .inr ⟨by decide, _, rfl, .dat _ _⟩⟩, trivial⟩) ?_
        intro a49 y47 h48
        unfold r16_Within_L1 at h48
        refine rk_seq ?_
        refine rk_seq ?_
        refine rk_region ?_
        refine ok_mv rfl rfl ?_
        refine ok_v (.d (.bool (decide (a49.1 < 3)))) rfl rfl ?_
        refine ok_nil ?_
        refine rk_condH rfl h48 (fun _ h48 => ?_) (fun _ h48 => ?_)
        · refine rk_skip ?_
          refine rk_seq ?_
          refine rk_block ?_
          refine rk_regionD [(some [3], [3]), (some [], []), (some [], []), (some [3], []), (some [], []), (some [], []), (some [], []), (some [], []), (some [1], []), (some [], []), (some [], [])] (by kernel_rfl) ?_
          refine ok_mv rfl rfl ?_
          refine ok_v (.ref 1 4 0 0) rfl rfl ?_
          refine ok_v (.d (.int .u8 p1.Turn)) rfl rfl ?_
          refine ok_v (.d (.int .i64 (w64 p1.Turn))) rfl rfl ?_
          obtain ⟨r61, h62, h48⟩ := bindE h48
          refine ok_pc [.d (.int .i64 (w64 p1.Turn))] (r16_Images_ok (w64 p1.Turn) r61 h62) rfl rfl rfl (.inl rfl) ?_
          refine ok_mv rfl rfl ?_
          obtain ⟨v63, h64, h48⟩ := bindE h48
          refine ok_iaA h64 rfl rfl rfl rfl rfl ?_
          refine ok_ldA (enc := enc_api_Vec) (.d (.agg [.int .i64 v63.X, .int .i64 v63.Y, .int .i64 v63.Z])) h64 (fun _ => rfl) rfl rfl rfl rfl rfl rfl ?_
          obtain ⟨r65, h66, h48⟩ := bindE h48
          refine ok_pc [.d (.agg [.int .i64 r61.1.X, .int .i64 r61.1.Y, .int .i64 r61.1.Z, .int .i64 r61.2.1.X, .int .i64 r61.2.1.Y, .int .i64 r61.2.1.Z, .int .i64 r61.2.2.X, .int .i64 r61.2.2.Y, .int .i64 r61.2.2.Z]), .d (.agg [.int .i64 v63.X, .int .i64 v63.Y, .int .i64 v63.Z])] (r16_Sum_ok r61 v63 r65 h66) rfl rfl rfl (.inl rfl) ?_
          obtain ⟨v67, h68, h48⟩ := bindE h48
          refine ok_iaA h68 rfl rfl rfl rfl rfl ?_
          refine ok_stA (enc := enc_api_Vec) r65 h68 (fun _ => rfl) rfl rfl rfl rfl rfl rfl rfl rfl ?_
          refine ok_nil ?_
          refine rk_nil ?_
          refine blk_nor ?_
          refine rk_region ?_
          refine ok_mv rfl rfl ?_
          refine ok_v (.d (.int .i64 (w64 (a49.1 + 1)))) rfl rfl ?_
          refine ok_as rfl rfl ?_
          refine ok_nil ?_
          refine rk_nil ?_
          exact ⟨_, (Option.some.inj h48).symm, wkE [(0, 0), (1, 1), (2, 2), (3, 3)] [] [] rfl ⟨⟨_, rfl, .ref rfl (by decide) (ltd rfl)⟩, ⟨_, rfl, .ref rfl (by decide) (ltd rfl)⟩, ⟨_, rfl, .ref rfl (by decide) (ltd rfl)⟩, ⟨_, rfl, .ref rfl (by decide) (ltd rfl)⟩, ⟨_, rfl, .d (.refl _)⟩, trivial⟩ ⟨⟨ltd rfl, .inr ⟨by decide, _, rfl, .dat _ _⟩⟩, ⟨ltd rfl, .inr ⟨by decide, _, rfl, .dat _ _⟩⟩, ⟨ltd rfl, .inr ⟨by decide, _, rfl, .dat _ _⟩⟩, ⟨ltd rfl, .inr ⟨by decide, _, rfl, .dat _ _⟩⟩, trivial⟩⟩
        · refine rk_exit ?_
          refine ⟨_, (Option.some.inj h48).symm, fun hm => ?_⟩
          subst hm
          exact ⟨_, rfl, wkE [(0, 0), (1, 1), (2, 2), (3, 3)] [] [] rfl ⟨⟨_, rfl, .ref rfl (by decide) (ltd rfl)⟩, ⟨_, rfl, .ref rfl (by decide) (ltd rfl)⟩, ⟨_, rfl, .ref rfl (by decide) (ltd rfl)⟩, ⟨_, rfl, .ref rfl (by decide) (ltd rfl)⟩, trivial⟩ ⟨⟨ltd rfl, .inr ⟨by decide, _, rfl, .dat _ _⟩⟩, ⟨ltd rfl, .inr ⟨by decide, _, rfl, .dat _ _⟩⟩, ⟨ltd rfl, .inr ⟨by decide, _, rfl, .dat _ _⟩⟩, ⟨ltd rfl, .inr ⟨by decide, _, rfl, .dat _ _⟩⟩, trivial⟩⟩
      · intro b52 hb
        subst hb
        refine rk_seq ?_
        refine rk_regionD [(some [4], [4]), (some [], [4]), (some [], []), (some [], []), (some [0], []), (some [], []), (some [1], []), (some [], []), (some [], []), (some [3], [])] (by kernel_rfl) ?_
        obtain ⟨v69, h70, h0⟩ := bindE h0
        refine ok_ldW (enc := enc_api_Vec) (.d (.agg [.int .i64 v69.1.X, .int .i64 v69.1.Y, .int .i64 v69.1.Z, .int .i64 v69.2.1.X, .int .i64 v69.2.1.Y, .int .i64 v69.2.1.Z, .int .i64 v69.2.2.X, .int .i64 v69.2.2.Y, .int .i64 v69.2.2.Z])) (arr3_flat h70) rfl rfl rfl rfl rfl rfl ?_
        obtain ⟨r71, h72, h0⟩ := bindE h0
        refine ok_pc [.d (.agg [.int .i64 v69.1.X, .int .i64 v69.1.Y, .int .i64 v69.1.Z, .int .i64 v69.2.1.X, .int .i64 v69.2.1.Y, .int .i64 v69.2.1.Z, .int .i64 v69.2.2.X, .int .i64 v69.2.2.Y, .int .i64 v69.2.2.Z])] (r16_Turned_ok v69 r71 h72) rfl rfl rfl (.inl rfl) ?_
        refine ok_v (.d (.int .u8 (IntKind.wrap .u8 r71))) rfl rfl ?_
        refine ok_v (.d (.agg [.int .u8 p1.Turn, .int .i64 p1.At.X, .int .i64 p1.At.Y, .int .i64 p1.At.Z])) rfl rfl ?_
        refine ok_v (.ref 0 4 0 1) rfl rfl ?_
        refine ok_v (.d (.agg [.int .i64 p0.At.X, .int .i64 p0.At.Y, .int .i64 p0.At.Z])) rfl rfl ?_
        obtain ⟨r73, h74, h0⟩ := bindE h0
        refine ok_pc [.d (.agg [.int .u8 p1.Turn, .int .i64 p1.At.X, .int .i64 p1.At.Y, .int .i64 p1.At.Z]), .d (.agg [.int .i64 p0.At.X, .int .i64 p0.At.Y, .int .i64 p0.At.Z])] (r16_Image_ok p1 p0.At r73 h74) rfl rfl rfl (.inl rfl) ?_
        refine ok_v (.d (.agg [.int .u8 (IntKind.wrap .u8 r71), .int .i64 r73.X, .int .i64 r73.Y, .int .i64 r73.Z])) rfl rfl ?_
        refine ok_alloc rfl rfl ?_
        refine ok_sto 4 (.dat 4 [[.int .u8 (IntKind.wrap .u8 r71), .int .i64 r73.X, .int .i64 r73.Y, .int .i64 r73.Z]]) rfl rfl ?_
        refine ok_nil ?_
        refine rk_seq ?_
        refine rk_seq ?_
        refine rk_region ?_
        refine ok_v (.d (.agg [.int .u8 (IntKind.wrap .u8 r71), .int .i64 r73.X, .int .i64 r73.Y, .int .i64 r73.Z])) rfl rfl ?_
        obtain ⟨r75, h76, h0⟩ := bindE h0
        refine ok_pc [.d (.agg [.int .u8 (IntKind.wrap .u8 r71), .int .i64 r73.X, .int .i64 r73.Y, .int .i64 r73.Z])] (r16_Check_ok ({ Turn := IntKind.wrap .u8 r71, At := r73 } : api_Frame) r75 h76) rfl rfl rfl (.inl rfl) ?_
        refine ok_v (.d (.bool (r75 != 0))) rfl rfl ?_
        refine ok_nil ?_
        refine rk_condH rfl h0 (fun _ h0 => ?_) (fun _ h0 => ?_)
        · refine rk_seq ?_
          refine rk_region ?_
          refine ok_v (.d (.agg [.int .u8 0, .int .i64 0, .int .i64 0, .int .i64 0])) rfl rfl ?_
          refine ok_sto 2 (.dat 4 [[.int .u8 0, .int .i64 0, .int .i64 0, .int .i64 0]]) rfl rfl ?_
          refine ok_as rfl rfl ?_
          refine ok_nil ?_
          refine rk_ret ?_
          obtain rfl := someE h0
          exact finD (.inr rfl) (v := .d (.tup [.agg [.int .u8 0, .int .i64 0, .int .i64 0, .int .i64 0], .int .i64 16])) rfl rfl (.refl _)
        · refine rk_skip ?_
          refine rk_seq ?_
          refine rk_region ?_
          refine ok_v (.d (.agg [.int .u8 (IntKind.wrap .u8 r71), .int .i64 r73.X, .int .i64 r73.Y, .int .i64 r73.Z])) rfl rfl ?_
          refine ok_sto 2 (.dat 4 [[.int .u8 (IntKind.wrap .u8 r71), .int .i64 r73.X, .int .i64 r73.Y, .int .i64 r73.Z]]) rfl rfl ?_
          refine ok_as rfl rfl ?_
          refine ok_nil ?_
          refine rk_ret ?_
          obtain rfl := someE h0
          exact finD (.inr rfl) (v := .d (.tup [.agg [.int .u8 (IntKind.wrap .u8 r71), .int .i64 r73.X, .int .i64 r73.Y, .int .i64 r73.Z], .int .i64 0])) rfl rfl (.refl _)

set_option maxRecDepth 100000 in
set_option maxHeartbeats 8000000 in
theorem r16_Inside_ok (p0 : api_Scope) (p1 : api_Vec) (p2 : api_Vec) (p3 : Int) (r : api_Scope × Int) (h0 : r16_Inside p0 p1 p2 p3 = some r) : Pure Try.prog tab 28 [.agg [.int .u8 p0.Frame.Turn, .int .i64 p0.Frame.At.X, .int .i64 p0.Frame.At.Y, .int .i64 p0.Frame.At.Z, .int .i64 p0.Size.X, .int .i64 p0.Size.Y, .int .i64 p0.Size.Z], .agg [.int .i64 p1.X, .int .i64 p1.Y, .int .i64 p1.Z], .agg [.int .i64 p2.X, .int .i64 p2.Y, .int .i64 p2.Z], .int .u8 p3] (.tup [.agg [.int .u8 r.1.Frame.Turn, .int .i64 r.1.Frame.At.X, .int .i64 r.1.Frame.At.Y, .int .i64 r.1.Frame.At.Z, .int .i64 r.1.Size.X, .int .i64 r.1.Size.Y, .int .i64 r.1.Size.Z], .int .i64 r.2]) := by
  unfold r16_Inside at h0
  refine pure_of_run Try.func28 rfl (by kernel_rfl) (by kernel_rfl) rfl ?_
  refine rk_seq ?_
  refine rk_region ?_
  refine ok_new (.ref 0 7 0 0) (.dat 7 [[.int .u8 p0.Frame.Turn, .int .i64 p0.Frame.At.X, .int .i64 p0.Frame.At.Y, .int .i64 p0.Frame.At.Z, .int .i64 p0.Size.X, .int .i64 p0.Size.Y, .int .i64 p0.Size.Z]]) rfl rfl ?_
  refine ok_new (.ref 1 3 0 0) (.dat 3 [[.int .i64 p1.X, .int .i64 p1.Y, .int .i64 p1.Z]]) rfl rfl ?_
  refine ok_new (.ref 2 3 0 0) (.dat 3 [[.int .i64 p2.X, .int .i64 p2.Y, .int .i64 p2.Z]]) rfl rfl ?_
  refine ok_alloc rfl rfl ?_
  refine ok_as rfl rfl ?_
  refine ok_nil ?_
  refine rk_seq ?_
  refine rk_seq ?_
  refine rk_region ?_
  refine ok_v (.d (.agg [.int .u8 p0.Frame.Turn, .int .i64 p0.Frame.At.X, .int .i64 p0.Frame.At.Y, .int .i64 p0.Frame.At.Z, .int .i64 p0.Size.X, .int .i64 p0.Size.Y, .int .i64 p0.Size.Z])) rfl rfl ?_
  obtain ⟨r1, h2, h0⟩ := bindE h0
  refine ok_pc [.d (.agg [.int .u8 p0.Frame.Turn, .int .i64 p0.Frame.At.X, .int .i64 p0.Frame.At.Y, .int .i64 p0.Frame.At.Z, .int .i64 p0.Size.X, .int .i64 p0.Size.Y, .int .i64 p0.Size.Z])] (r16_Scoped_ok p0 r1 h2) rfl rfl rfl (.inl rfl) ?_
  refine ok_v (.d (.bool (r1 != 0))) rfl rfl ?_
  refine ok_nil ?_
  refine rk_condH rfl h0 (fun _ h0 => ?_) (fun _ h0 => ?_)
  · refine rk_seq ?_
    refine rk_region ?_
    refine ok_v (.d (.agg [.int .u8 0, .int .i64 0, .int .i64 0, .int .i64 0, .int .i64 0, .int .i64 0, .int .i64 0])) rfl rfl ?_
    refine ok_v (.d (.agg [.int .u8 p0.Frame.Turn, .int .i64 p0.Frame.At.X, .int .i64 p0.Frame.At.Y, .int .i64 p0.Frame.At.Z, .int .i64 p0.Size.X, .int .i64 p0.Size.Y, .int .i64 p0.Size.Z])) rfl rfl ?_
    obtain ⟨r5, h6, h0⟩ := bindE h0
    refine ok_pc [.d (.agg [.int .u8 p0.Frame.Turn, .int .i64 p0.Frame.At.X, .int .i64 p0.Frame.At.Y, .int .i64 p0.Frame.At.Z, .int .i64 p0.Size.X, .int .i64 p0.Size.Y, .int .i64 p0.Size.Z])] (r16_Scoped_ok p0 r5 h6) rfl rfl rfl (.inl rfl) ?_
    refine ok_sto 3 (.dat 7 [[.int .u8 0, .int .i64 0, .int .i64 0, .int .i64 0, .int .i64 0, .int .i64 0, .int .i64 0]]) rfl rfl ?_
    refine ok_as rfl rfl ?_
    refine ok_nil ?_
    refine rk_ret ?_
    obtain rfl := someE h0
    exact finD (.inr rfl) (v := .d (.tup [.agg [.int .u8 0, .int .i64 0, .int .i64 0, .int .i64 0, .int .i64 0, .int .i64 0, .int .i64 0], .int .i64 r5])) rfl rfl (.refl _)
  · refine rk_skip ?_
    refine rk_seq ?_
    refine rk_seq ?_
    refine rk_region ?_
    refine ok_mv rfl rfl ?_
    refine ok_v (.d (.bool (decide (p3 ≥ 24)))) rfl rfl ?_
    obtain ⟨c9, h10, h0⟩ := bindE h0
    refine ok_cutQ 5 (fun A st => ∃ (j11 j12 j13 j14 : V), st = A [(24, .d (.bool c9)), (23, j14), (22, j13), (21, j12), (20, j11)]) ?_ ?_
    · refine ok_mvB rfl rfl h10 (fun h10 => ?_) (fun h10 => ?_)
      · refine ok_sg rfl ?_
        refine ok_sg rfl ?_
        refine ok_sg rfl ?_
        refine ok_v (.d (.bool true)) rfl rfl ?_
        refine ok_nil ?_
        obtain rfl := someE h10
        exact ⟨_, _, _, _, rfl⟩
      · refine ok_v (.d (.agg [.int .i64 p1.X, .int .i64 p1.Y, .int .i64 p1.Z])) rfl rfl ?_
        obtain ⟨r15, h16, h10⟩ := bindE h10
        refine ok_pc [.d (.agg [.int .i64 p1.X, .int .i64 p1.Y, .int .i64 p1.Z]), .d (.int .i64 (-1000000))] (r16_In_ok p1 (-1000000) r15 h16) rfl rfl rfl (.inl rfl) ?_
        refine ok_v (.d (.bool (!r15))) rfl rfl ?_
        refine ok_v (.d (.bool (!r15))) rfl rfl ?_
        refine ok_nil ?_
        obtain rfl := someE h10
        exact ⟨_, _, _, _, rfl⟩
    · rintro _ ⟨j11, j12, j13, j14, rfl⟩
      obtain ⟨c19, h20, h0⟩ := bindE h0
      refine ok_cutQ 5 (fun A st => ∃ (j21 j22 j23 j24 : V), st = A [(29, .d (.bool c19)), (28, j24), (27, j23), (26, j22), (25, j21)]) ?_ ?_
      · refine ok_mvB rfl rfl h20 (fun h20 => ?_) (fun h20 => ?_)
        · refine ok_sg rfl ?_
          refine ok_sg rfl ?_
          refine ok_sg rfl ?_
          refine ok_v (.d (.bool true)) rfl rfl ?_
          refine ok_nil ?_
          obtain rfl := someE h20
          exact ⟨_, _, _, _, rfl⟩
        · refine ok_v (.d (.agg [.int .i64 p2.X, .int .i64 p2.Y, .int .i64 p2.Z])) rfl rfl ?_
          obtain ⟨r25, h26, h20⟩ := bindE h20
          refine ok_pc [.d (.agg [.int .i64 p2.X, .int .i64 p2.Y, .int .i64 p2.Z]), .d (.int .i64 0)] (r16_In_ok p2 0 r25 h26) rfl rfl rfl (.inl rfl) ?_
          refine ok_v (.d (.bool (!r25))) rfl rfl ?_
          refine ok_v (.d (.bool (!r25))) rfl rfl ?_
          refine ok_nil ?_
          obtain rfl := someE h20
          exact ⟨_, _, _, _, rfl⟩
      · rintro _ ⟨j21, j22, j23, j24, rfl⟩
        refine ok_nil ?_
        refine rk_condH rfl h0 (fun _ h0 => ?_) (fun _ h0 => ?_)
        · refine rk_seq ?_
          refine rk_region ?_
          refine ok_v (.d (.agg [.int .u8 0, .int .i64 0, .int .i64 0, .int .i64 0, .int .i64 0, .int .i64 0, .int .i64 0])) rfl rfl ?_
          refine ok_sto 3 (.dat 7 [[.int .u8 0, .int .i64 0, .int .i64 0, .int .i64 0, .int .i64 0, .int .i64 0, .int .i64 0]]) rfl rfl ?_
          refine ok_as rfl rfl ?_
          refine ok_nil ?_
          refine rk_ret ?_
          obtain rfl := someE h0
          exact finD (.inr rfl) (v := .d (.tup [.agg [.int .u8 0, .int .i64 0, .int .i64 0, .int .i64 0, .int .i64 0, .int .i64 0, .int .i64 0], .int .i64 2])) rfl rfl (.refl _)
        · refine rk_skip ?_
          refine rk_seq ?_
          refine rk_region ?_
          refine ok_mv rfl rfl ?_
          refine ok_v (.d (.agg [.int .i64 p1.X, .int .i64 p1.Y, .int .i64 p1.Z])) rfl rfl ?_
          refine ok_v (.d (.agg [.int .u8 p3, .int .i64 p1.X, .int .i64 p1.Y, .int .i64 p1.Z])) rfl rfl ?_
          refine ok_v (.ref 0 7 0 0) rfl rfl ?_
          refine ok_v (.d (.agg [.int .u8 p0.Frame.Turn, .int .i64 p0.Frame.At.X, .int .i64 p0.Frame.At.Y, .int .i64 p0.Frame.At.Z])) rfl rfl ?_
          obtain ⟨r27, h28, h0⟩ := bindE h0
          refine ok_pc [.d (.agg [.int .u8 p3, .int .i64 p1.X, .int .i64 p1.Y, .int .i64 p1.Z]), .d (.agg [.int .u8 p0.Frame.Turn, .int .i64 p0.Frame.At.X, .int .i64 p0.Frame.At.Y, .int .i64 p0.Frame.At.Z])] (r16_Within_ok ({ Turn := p3, At := p1 } : api_Frame) p0.Frame r27 h28) rfl rfl rfl (.inl rfl) ?_
          refine ok_mv rfl rfl ?_
          refine ok_v (.d (.agg [.int .u8 r27.1.Turn, .int .i64 r27.1.At.X, .int .i64 r27.1.At.Y, .int .i64 r27.1.At.Z])) rfl rfl ?_
          refine ok_v (.d (.int .i64 r27.2)) rfl rfl ?_
          refine ok_alloc rfl rfl ?_
          refine ok_sto 4 (.dat 4 [[.int .u8 r27.1.Turn, .int .i64 r27.1.At.X, .int .i64 r27.1.At.Y, .int .i64 r27.1.At.Z]]) rfl rfl ?_
          refine ok_as rfl rfl ?_
          refine ok_nil ?_
          refine rk_seq ?_
          refine rk_seq ?_
          refine rk_region ?_
          refine ok_mv rfl rfl ?_
          refine ok_v (.d (.bool (r27.2 != 0))) rfl rfl ?_
          refine ok_nil ?_
          refine rk_condH rfl h0 (fun _ h0 => ?_) (fun _ h0 => ?_)
          · refine rk_seq ?_
            refine rk_region ?_
            refine ok_v (.d (.agg [.int .u8 0, .int .i64 0, .int .i64 0, .int .i64 0, .int .i64 0, .int .i64 0, .int .i64 0])) rfl rfl ?_
            refine ok_mv rfl rfl ?_
            refine ok_sto 3 (.dat 7 [[.int .u8 0, .int .i64 0, .int .i64 0, .int .i64 0, .int .i64 0, .int .i64 0, .int .i64 0]]) rfl rfl ?_
            refine ok_as rfl rfl ?_
            refine ok_nil ?_
            refine rk_ret ?_
            obtain rfl := someE h0
            exact finD (.inr rfl) (v := .d (.tup [.agg [.int .u8 0, .int .i64 0, .int .i64 0, .int .i64 0, .int .i64 0, .int .i64 0, .int .i64 0], .int .i64 r27.2])) rfl rfl (.refl _)
          · refine rk_skip ?_
            refine rk_seq ?_
            refine rk_region ?_
            refine ok_v (.d (.agg [.int .u8 r27.1.Turn, .int .i64 r27.1.At.X, .int .i64 r27.1.At.Y, .int .i64 r27.1.At.Z])) rfl rfl ?_
            refine ok_v (.d (.agg [.int .i64 p2.X, .int .i64 p2.Y, .int .i64 p2.Z])) rfl rfl ?_
            refine ok_v (.d (.agg [.int .u8 r27.1.Turn, .int .i64 r27.1.At.X, .int .i64 r27.1.At.Y, .int .i64 r27.1.At.Z, .int .i64 p2.X, .int .i64 p2.Y, .int .i64 p2.Z])) rfl rfl ?_
            refine ok_sto 3 (.dat 7 [[.int .u8 r27.1.Turn, .int .i64 r27.1.At.X, .int .i64 r27.1.At.Y, .int .i64 r27.1.At.Z, .int .i64 p2.X, .int .i64 p2.Y, .int .i64 p2.Z]]) rfl rfl ?_
            refine ok_as rfl rfl ?_
            refine ok_nil ?_
            refine rk_ret ?_
            obtain rfl := someE h0
            exact finD (.inr rfl) (v := .d (.tup [.agg [.int .u8 r27.1.Turn, .int .i64 r27.1.At.X, .int .i64 r27.1.At.Y, .int .i64 r27.1.At.Z, .int .i64 p2.X, .int .i64 p2.Y, .int .i64 p2.Z], .int .i64 0])) rfl rfl (.refl _)

set_option maxRecDepth 100000 in
set_option maxHeartbeats 8000000 in
theorem r20_Faces_ok (p0 : api_Scope) (r : (api_Scope × api_Scope × api_Scope × api_Scope × api_Scope × api_Scope) × Int) (h0 : r20_Faces p0 = some r) : Pure Try.prog tab 6 [.agg [.int .u8 p0.Frame.Turn, .int .i64 p0.Frame.At.X, .int .i64 p0.Frame.At.Y, .int .i64 p0.Frame.At.Z, .int .i64 p0.Size.X, .int .i64 p0.Size.Y, .int .i64 p0.Size.Z]] (.tup [.agg [.int .u8 r.1.1.Frame.Turn, .int .i64 r.1.1.Frame.At.X, .int .i64 r.1.1.Frame.At.Y, .int .i64 r.1.1.Frame.At.Z, .int .i64 r.1.1.Size.X, .int .i64 r.1.1.Size.Y, .int .i64 r.1.1.Size.Z, .int .u8 r.1.2.1.Frame.Turn, .int .i64 r.1.2.1.Frame.At.X, .int .i64 r.1.2.1.Frame.At.Y, .int .i64 r.1.2.1.Frame.At.Z, .int .i64 r.1.2.1.Size.X, .int .i64 r.1.2.1.Size.Y, .int .i64 r.1.2.1.Size.Z, .int .u8 r.1.2.2.1.Frame.Turn, .int .i64 r.1.2.2.1.Frame.At.X, .int .i64 r.1.2.2.1.Frame.At.Y, .int .i64 r.1.2.2.1.Frame.At.Z, .int .i64 r.1.2.2.1.Size.X, .int .i64 r.1.2.2.1.Size.Y, .int .i64 r.1.2.2.1.Size.Z, .int .u8 r.1.2.2.2.1.Frame.Turn, .int .i64 r.1.2.2.2.1.Frame.At.X, .int .i64 r.1.2.2.2.1.Frame.At.Y, .int .i64 r.1.2.2.2.1.Frame.At.Z, .int .i64 r.1.2.2.2.1.Size.X, .int .i64 r.1.2.2.2.1.Size.Y, .int .i64 r.1.2.2.2.1.Size.Z, .int .u8 r.1.2.2.2.2.1.Frame.Turn, .int .i64 r.1.2.2.2.2.1.Frame.At.X, .int .i64 r.1.2.2.2.2.1.Frame.At.Y, .int .i64 r.1.2.2.2.2.1.Frame.At.Z, .int .i64 r.1.2.2.2.2.1.Size.X, .int .i64 r.1.2.2.2.2.1.Size.Y, .int .i64 r.1.2.2.2.2.1.Size.Z, .int .u8 r.1.2.2.2.2.2.Frame.Turn, .int .i64 r.1.2.2.2.2.2.Frame.At.X, .int .i64 r.1.2.2.2.2.2.Frame.At.Y, .int .i64 r.1.2.2.2.2.2.Frame.At.Z, .int .i64 r.1.2.2.2.2.2.Size.X, .int .i64 r.1.2.2.2.2.2.Size.Y, .int .i64 r.1.2.2.2.2.2.Size.Z], .int .i64 r.2]) := by
  unfold r20_Faces at h0
  refine pure_of_run Try.func6 rfl (by kernel_rfl) (by kernel_rfl) rfl ?_
  refine rk_seq ?_
  refine rk_region ?_
  refine ok_new (.ref 0 7 0 0) (.dat 7 [[.int .u8 p0.Frame.Turn, .int .i64 p0.Frame.At.X, .int .i64 p0.Frame.At.Y, .int .i64 p0.Frame.At.Z, .int .i64 p0.Size.X, .int .i64 p0.Size.Y, .int .i64 p0.Size.Z]]) rfl rfl ?_
  refine ok_alloc rfl rfl ?_
  refine ok_as rfl rfl ?_
  refine ok_nil ?_
  refine rk_seq ?_
  refine rk_seq ?_
  refine rk_region ?_
  refine ok_v (.d (.agg [.int .u8 p0.Frame.Turn, .int .i64 p0.Frame.At.X, .int .i64 p0.Frame.At.Y, .int .i64 p0.Frame.At.Z, .int .i64 p0.Size.X, .int .i64 p0.Size.Y, .int .i64 p0.Size.Z])) rfl rfl ?_
  obtain ⟨r1, h2, h0⟩ := bindE h0
  refine ok_pc [.d (.agg [.int .u8 p0.Frame.Turn, .int .i64 p0.Frame.At.X, .int .i64 p0.Frame.At.Y, .int .i64 p0.Frame.At.Z, .int .i64 p0.Size.X, .int .i64 p0.Size.Y, .int .i64 p0.Size.Z])] (r16_Scoped_ok p0 r1 h2) rfl rfl rfl (.inl rfl) ?_
  refine ok_v (.d (.bool (r1 != 0))) rfl rfl ?_
  refine ok_nil ?_
  refine rk_condH rfl h0 (fun _ h0 => ?_) (fun _ h0 => ?_)
  · refine rk_seq ?_
    refine rk_region ?_
    refine ok_v (.d (.agg [.int .u8 0, .int .i64 0, .int .i64 0, .int .i64 0, .int .i64 0, .int .i64 0, .int .i64 0, .int .u8 0, .int .i64 0, .int .i64 0, .int .i64 0, .int .i64 0, .int .i64 0, .int .i64 0, .int .u8 0, .int .i64 0, .int .i64 0, .int .i64 0, .int .i64 0, .int .i64 0, .int .i64 0, .int .u8 0, .int .i64 0, .int .i64 0, .int .i64 0, .int .i64 0, .int .i64 0, .int .i64 0, .int .u8 0, .int .i64 0, .int .i64 0, .int .i64 0, .int .i64 0, .int .i64 0, .int .i64 0, .int .u8 0, .int .i64 0, .int .i64 0, .int .i64 0, .int .i64 0, .int .i64 0, .int .i64 0])) rfl rfl ?_
    refine ok_sto 1 (.dat 42 [[.int .u8 0, .int .i64 0, .int .i64 0, .int .i64 0, .int .i64 0, .int .i64 0, .int .i64 0, .int .u8 0, .int .i64 0, .int .i64 0, .int .i64 0, .int .i64 0, .int .i64 0, .int .i64 0, .int .u8 0, .int .i64 0, .int .i64 0, .int .i64 0, .int .i64 0, .int .i64 0, .int .i64 0, .int .u8 0, .int .i64 0, .int .i64 0, .int .i64 0, .int .i64 0, .int .i64 0, .int .i64 0, .int .u8 0, .int .i64 0, .int .i64 0, .int .i64 0, .int .i64 0, .int .i64 0, .int .i64 0, .int .u8 0, .int .i64 0, .int .i64 0, .int .i64 0, .int .i64 0, .int .i64 0, .int .i64 0]]) rfl rfl ?_
    refine ok_as rfl rfl ?_
    refine ok_nil ?_
    refine rk_ret ?_
    obtain rfl := someE h0
    exact finD (.inr rfl) (v := .d (.tup [.agg [.int .u8 0, .int .i64 0, .int .i64 0, .int .i64 0, .int .i64 0, .int .i64 0, .int .i64 0, .int .u8 0, .int .i64 0, .int .i64 0, .int .i64 0, .int .i64 0, .int .i64 0, .int .i64 0, .int .u8 0, .int .i64 0, .int .i64 0, .int .i64 0, .int .i64 0, .int .i64 0, .int .i64 0, .int .u8 0, .int .i64 0, .int .i64 0, .int .i64 0, .int .i64 0, .int .i64 0, .int .i64 0, .int .u8 0, .int .i64 0, .int .i64 0, .int .i64 0, .int .i64 0, .int .i64 0, .int .i64 0, .int .u8 0, .int .i64 0, .int .i64 0, .int .i64 0, .int .i64 0, .int .i64 0, .int .i64 0], .int .i64 8])) rfl rfl (.refl _)
  · refine rk_skip ?_
    refine rk_seq ?_
    refine rk_region ?_
    refine ok_alloc rfl rfl ?_
    refine ok_nil ?_
    refine rk_seq ?_
    refine rk_seq ?_
    refine rk_region ?_
    refine ok_as rfl rfl ?_
    refine ok_nil ?_
    obtain ⟨m174, h175, h0⟩ := bindE h0
    refine rk_blockcut (fun b176 => .inl b176 = m174) (fun (b176 : List api_Scope) => ⟨[(2, .ref 0 42 0 0), (4, .ref 1 42 0 0)], [(0, .dat 42 [[.int .u8 0, .int .i64 0, .int .i64 0, .int .i64 0, .int .i64 0, .int .i64 0, .int .i64 0, .int .u8 0, .int .i64 0, .int .i64 0, .int .i64 0, .int .i64 0, .int .i64 0, .int .i64 0, .int .u8 0, .int .i64 0, .int .i64 0, .int .i64 0, .int .i64 0, .int .i64 0, .int .i64 0, .int .u8 0, .int .i64 0, .int .i64 0, .int .i64 0, .int .i64 0, .int .i64 0, .int .i64 0, .int .u8 0, .int .i64 0, .int .i64 0, .int .i64 0, .int .i64 0, .int .i64 0, .int .i64 0, .int .u8 0, .int .i64 0, .int .i64 0, .int .i64 0, .int .i64 0, .int .i64 0, .int .i64 0]]), (1, .dat 42 [b176.flatMap enc_api_Scope])], 2⟩) (by simp) ?_ ?_
    · refine rk_loopF (r20_Faces_L1 p0) (fun (a173 : Int × List api_Scope) => ⟨[(1, .ref 0 7 0 0), (2, .ref 1 42 0 0), (4, .ref 2 42 0 0), (5, .d (.int .i64 a173.1))], [(0, .dat 7 [[.int .u8 p0.Frame.Turn, .int .i64 p0.Frame.At.X, .int .i64 p0.Frame.At.Y, .int .i64 p0.Frame.At.Z, .int .i64 p0.Size.X, .int .i64 p0.Size.Y, .int .i64 p0.Size.Z]]), (1, .dat 42 [[.int .u8 0, .int .i64 0, .int .i64 0, .int .i64 0, .int .i64 0, .int .i64 0, .int .i64 0, .int .u8 0, .int .i64 0, .int .i64 0, .int .i64 0, .int .i64 0, .int .i64 0, .int .i64 0, .int .u8 0, .int .i64 0, .int .i64 0, .int .i64 0, .int .i64 0, .int .i64 0, .int .i64 0, .int .u8 0, .int .i64 0, .int .i64 0, .int .i64 0, .int .i64 0, .int .i64 0, .int .i64 0, .int .u8 0, .int .i64 0, .int .i64 0, .int .i64 0, .int .i64 0, .int .i64 0, .int .i64 0, .int .u8 0, .int .i64 0, .int .i64 0, .int .i64 0, .int .i64 0, .int .i64 0, .int .i64 0]]), (2, .dat 42 [a173.2.flatMap enc_api_Scope])], 3⟩) (0, [({ Frame := ({ Turn := 0, At := ({ X := 0, Y := 0, Z := 0 } : api_Vec) } : api_Frame), Size := ({ X := 0, Y := 0, Z := 0 } : api_Vec) } : api_Scope), ({ Frame := ({ Turn := 0, At := ({ X := 0, Y := 0, Z := 0 } : api_Vec) } : api_Frame), Size := ({ X := 0, Y := 0, Z := 0 } : api_Vec) } : api_Scope), ({ Frame := ({ Turn := 0, At := ({ X := 0, Y := 0, Z := 0 } : api_Vec) } : api_Frame), Size := ({ X := 0, Y := 0, Z := 0 } : api_Vec) } : api_Scope), ({ Frame := ({ Turn := 0, At := ({ X := 0, Y := 0, Z := 0 } : api_Vec) } : api_Frame), Size := ({ X := 0, Y := 0, Z := 0 } : api_Vec) } : api_Scope), ({ Frame := ({ Turn := 0, At := ({ X := 0, Y := 0, Z := 0 } : api_Vec) } : api_Frame), Size := ({ X := 0, Y := 0, Z := 0 } : api_Vec) } : api_Scope), ({ Frame := ({ Turn := 0, At := ({ X := 0, Y := 0, Z := 0 } : api_Vec) } : api_Frame), Size := ({ X := 0, Y := 0, Z := 0 } : api_Vec) } : api_Scope)]) m174 h175 (wkE [(0, 0), (1, 1), (2, 2)] [] [] rfl ⟨⟨_, rfl, .ref rfl (by decide) (ltd rfl)⟩, ⟨_, rfl, .ref rfl (by decide) (ltd rfl)⟩, ⟨_, rfl, .ref rfl (by decide) (ltd rfl)⟩, ⟨_, rfl, .d (.refl _)⟩, trivial⟩ ⟨⟨ltd rfl, .inr ⟨by decide, _, rfl, .dat _ _⟩⟩, ⟨ltd rfl, .inr ⟨by decide, _, rfl, .dat _ _⟩⟩, ⟨ltd rfl, .inr ⟨by decide, _, rfl, .dat _ _⟩⟩, trivial⟩) ?_
      intro a173 y171 h172
      unfold r20_Faces_L1 at h172
      refine rk_seq ?_
      refine rk_seq ?_
      refine rk_region ?_
      refine ok_mv rfl rfl ?_
      refine ok_v (.d (.bool (decide (a173.1 < 6)))) rfl rfl ?_
      refine ok_nil ?_
      refine rk_condH rfl h172 (fun _ h172 => ?_) (fun _ h172 => ?_)
      · refine rk_skip ?_
        refine rk_seq ?_
        refine rk_block ?_
        refine rk_seq ?_
        refine rk_region ?_
        obtain ⟨r218, h219, h172⟩ := bindE h172
        refine ok_pc [.d (.int .i64 0)] (r16_Direction_ok 0 r218 h219) rfl rfl rfl (.inl rfl) ?_
        refine ok_alloc rfl rfl ?_
        refine ok_sto 3 (.dat 3 [[.int .i64 r218.X, .int .i64 r218.Y, .int .i64 r218.Z]]) rfl rfl ?_
        refine ok_nil ?_
        refine rk_seq ?_
        refine rk_seq ?_
        refine rk_region ?_
        refine ok_mv rfl rfl ?_
        refine ok_v (.d (.bool (decide (a173.1 < 2)))) rfl rfl ?_
        refine ok_nil ?_
        obtain ⟨m223, h222, h172⟩ := bindE h172
        refine rk_cut (fun b224 => b224 = m223) (fun (b224 : Int × Int × Int) => ⟨[(1, .ref 0 7 0 0), (2, .ref 1 42 0 0), (4, .ref 2 42 0 0), (5, .d (.int .i64 a173.1)), (6, .ref 3 3 0 0)], [(0, .dat 7 [[.int .u8 p0.Frame.Turn, .int .i64 p0.Frame.At.X, .int .i64 p0.Frame.At.Y, .int .i64 p0.Frame.At.Z, .int .i64 p0.Size.X, .int .i64 p0.Size.Y, .int .i64 p0.Size.Z]]), (1, .dat 42 [[.int .u8 0, .int .i64 0, .int .i64 0, .int .i64 0, .int .i64 0, .int .i64 0, .int .i64 0, .int .u8 0, .int .i64 0, .int .i64 0, .int .i64 0, .int .i64 0, .int .i64 0, .int .i64 0, .int .u8 0, .int .i64 0, .int .i64 0, .int .i64 0, .int .i64 0, .int .i64 0, .int .i64 0, .int .u8 0, .int .i64 0, .int .i64 0, .int .i64 0, .int .i64 0, .int .i64 0, .int .i64 0, .int .u8 0, .int .i64 0, .int .i64 0, .int .i64 0, .int .i64 0, .int .i64 0, .int .i64 0, .int .u8 0, .int .i64 0, .int .i64 0, .int .i64 0, .int .i64 0, .int .i64 0, .int .i64 0]]), (2, .dat 42 [a173.2.flatMap enc_api_Scope]), (3, .dat 3 [[.int .i64 b224.1, .int .i64 b224.2.1, .int .i64 b224.2.2]])], 4⟩) (by simp) ?_ ?_
        · refine rk_condH rfl h222 (fun _ h222 => ?_) (fun _ h222 => ?_)
          · refine rk_region ?_
            obtain ⟨r225, h226, h222⟩ := bindE h222
            refine ok_pc [.d (.int .i64 2)] (r16_Direction_ok 2 r225 h226) rfl rfl rfl (.inl rfl) ?_
            refine ok_sto 3 (.dat 3 [[.int .i64 r225.X, .int .i64 r225.Y, .int .i64 r225.Z]]) rfl rfl ?_
            refine ok_nil ?_
            refine rk_nil ?_
            obtain rfl := someE h222
            exact ⟨_, rfl, wkE [(0, 0), (1, 1), (2, 2), (3, 3)] [] [] rfl ⟨⟨_, rfl, .ref rfl (by decide) (ltd rfl)⟩, ⟨_, rfl, .ref rfl (by decide) (ltd rfl)⟩, ⟨_, rfl, .ref rfl (by decide) (ltd rfl)⟩, ⟨_, rfl, .d (.refl _)⟩, ⟨_, rfl, .ref rfl (by decide) (ltd rfl)⟩, trivial⟩ ⟨⟨ltd rfl, .inr ⟨by decide, _, rfl, .dat _ _⟩⟩, ⟨ltd rfl, .inr ⟨by decide, _, rfl, .dat _ _⟩⟩, ⟨ltd rfl, .inr ⟨by decide, _, rfl, .dat _ _⟩⟩, ⟨ltd rfl, .inr ⟨by decide, _, rfl, .dat _ _⟩⟩, trivial⟩⟩
          · refine rk_skip ?_
            refine rk_nil ?_
            obtain rfl := someE h222
            exact ⟨_, rfl, wkE [(0, 0), (1, 1), (2, 2), (3, 3)] [] [] rfl ⟨⟨_, rfl, .ref rfl (by decide) (ltd rfl)⟩, ⟨_, rfl, .ref rfl (by decide) (ltd rfl)⟩, ⟨_, rfl, .ref rfl (by decide) (ltd rfl)⟩, ⟨_, rfl, .d (.refl _)⟩, ⟨_, rfl, .ref rfl (by decide) (ltd rfl)⟩, trivial⟩ ⟨⟨ltd rfl, .inr ⟨by decide, _, rfl, .dat _ _⟩⟩, ⟨ltd rfl, .inr ⟨by decide, _, rfl, .dat _ _⟩⟩, ⟨ltd rfl, .inr ⟨by decide, _, rfl, .dat _ _⟩⟩, ⟨ltd rfl, .inr ⟨by decide, _, rfl, .dat _ _⟩⟩, trivial⟩⟩
        · intro b224 hb
          subst hb
          refine rk_seq ?_
          refine rk_region ?_
          refine ok_mv rfl rfl ?_
          obtain ⟨r227, h228, h172⟩ := bindE h172
          refine ok_pc [.d (.int .i64 a173.1)] (r16_Direction_ok a173.1 r227 h228) rfl rfl rfl (.inl rfl) ?_
          refine ok_alloc rfl rfl ?_
          refine ok_sto 4 (.dat 3 [[.int .i64 r227.X, .int .i64 r227.Y, .int .i64 r227.Z]]) rfl rfl ?_
          refine ok_nil ?_
          refine rk_seq ?_
          refine rk_regionD [(some [5], [5]), (some [], [5]), (some [], []), (some [4], []), (some [], []), (some [3], []), (some [4], []), (some [3], [])] (by kernel_rfl) ?_
          refine ok_v (.d (.agg [.int .i64 b224.1, .int .i64 b224.2.1, .int .i64 b224.2.2])) rfl rfl ?_
          refine ok_v (.d (.agg [.int .i64 r227.X, .int .i64 r227.Y, .int .i64 r227.Z])) rfl rfl ?_
          refine ok_v (.d (.agg [.int .i64 b224.1, .int .i64 b224.2.1, .int .i64 b224.2.2])) rfl rfl ?_
          obtain ⟨r229, h230, h172⟩ := bindE h172
          refine ok_pc [.d (.agg [.int .i64 r227.X, .int .i64 r227.Y, .int .i64 r227.Z]), .d (.agg [.int .i64 b224.1, .int .i64 b224.2.1, .int .i64 b224.2.2])] (r16_Cross_ok r227 ({ X := b224.1, Y := b224.2.1, Z := b224.2.2 } : api_Vec) r229 h230) rfl rfl rfl (.inl rfl) ?_
          refine ok_v (.d (.agg [.int .i64 r227.X, .int .i64 r227.Y, .int .i64 r227.Z])) rfl rfl ?_
          refine ok_v (.d (.agg [.int .i64 b224.1, .int .i64 b224.2.1, .int .i64 b224.2.2, .int .i64 r229.X, .int .i64 r229.Y, .int .i64 r229.Z, .int .i64 r227.X, .int .i64 r227.Y, .int .i64 r227.Z])) rfl rfl ?_
          refine ok_alloc rfl rfl ?_
          refine ok_sto 5 (.dat 9 [[.int .i64 b224.1, .int .i64 b224.2.1, .int .i64 b224.2.2, .int .i64 r229.X, .int .i64 r229.Y, .int .i64 r229.Z, .int .i64 r227.X, .int .i64 r227.Y, .int .i64 r227.Z]]) rfl rfl ?_
          refine ok_nil ?_
          refine rk_seq ?_
          refine rk_region ?_
          refine ok_v (.d (.agg [.int .i64 0, .int .i64 0, .int .i64 0])) rfl rfl ?_
          refine ok_alloc rfl rfl ?_
          refine ok_sto 6 (.dat 3 [[.int .i64 0, .int .i64 0, .int .i64 0]]) rfl rfl ?_
          refine ok_nil ?_
          refine rk_seq ?_
          refine rk_seq ?_
          refine rk_region ?_
          refine ok_v (.d (.agg [.int .i64 r227.X, .int .i64 r227.Y, .int .i64 r227.Z])) rfl rfl ?_
          obtain ⟨r231, h232, h172⟩ := bindE h172
          refine ok_pc [.d (.agg [.int .i64 r227.X, .int .i64 r227.Y, .int .i64 r227.Z])] (r20_axis_ok r227 r231 h232) rfl rfl rfl (.inl rfl) ?_
          refine ok_mv rfl rfl ?_
          refine ok_v (.d (.int .i64 r231.1)) rfl rfl ?_
          refine ok_v (.d (.bool r231.2)) rfl rfl ?_
          refine ok_as rfl rfl ?_
          refine ok_as rfl rfl ?_
          refine ok_nil ?_
          refine rk_seq ?_
          refine rk_region ?_
          refine ok_mv rfl rfl ?_
          refine ok_nil ?_
          obtain ⟨m238, h237, h172⟩ := bindE h172
          refine rk_cut (fun b239 => b239 = m238) (fun (b239 : Int × Int × Int) => ⟨[(1, .ref 0 7 0 0), (2, .ref 1 42 0 0), (4, .ref 2 42 0 0), (5, .d (.int .i64 a173.1)), (6, .ref 3 3 0 0), (8, .ref 4 9 0 0), (9, .ref 5 3 0 0)], [(0, .dat 7 [[.int .u8 p0.Frame.Turn, .int .i64 p0.Frame.At.X, .int .i64 p0.Frame.At.Y, .int .i64 p0.Frame.At.Z, .int .i64 p0.Size.X, .int .i64 p0.Size.Y, .int .i64 p0.Size.Z]]), (1, .dat 42 [[.int .u8 0, .int .i64 0, .int .i64 0, .int .i64 0, .int .i64 0, .int .i64 0, .int .i64 0, .int .u8 0, .int .i64 0, .int .i64 0, .int .i64 0, .int .i64 0, .int .i64 0, .int .i64 0, .int .u8 0, .int .i64 0, .int .i64 0, .int .i64 0, .int .i64 0, .int .i64 0, .int .i64 0, .int .u8 0, .int .i64 0, .int .i64 0, .int .i64 0, .int .i64 0, .int .i64 0, .int .i64 0, .int .u8 0, .int .i64 0, .int .i64 0, .int .i64 0, .int .i64 0, .int .i64 0, .int .i64 0, .int .u8 0, .int .i64 0, .int .i64 0, .int .i64 0, .int .i64 0, .int .i64 0, .int .i64 0]]), (2, .dat 42 [a173.2.flatMap enc_api_Scope]), (3, .dat 3 [[.int .i64 b224.1, .int .i64 b224.2.1, .int .i64 b224.2.2]]), (4, .dat 9 [[.int .i64 b224.1, .int .i64 b224.2.1, .int .i64 b224.2.2, .int .i64 r229.X, .int .i64 r229.Y, .int .i64 r229.Z, .int .i64 r227.X, .int .i64 r227.Y, .int .i64 r227.Z]]), (5, .dat 3 [[.int .i64 b239.1, .int .i64 b239.2.1, .int .i64 b239.2.2]])], 6⟩) (by simp) ?_ ?_
          · refine rk_condH rfl h237 (fun _ h237 => ?_) (fun _ h237 => ?_)
            · refine rk_regionD [(some [6], [6]), (some [], []), (some [], []), (some [], []), (some [0], []), (some [], []), (some [], []), (some [6], [])] (by kernel_rfl) ?_
              refine ok_v (.d (.agg [.int .i64 0, .int .i64 0, .int .i64 0])) rfl rfl ?_
              refine ok_mv rfl rfl ?_
              refine ok_v (.ref 0 7 0 4) rfl rfl ?_
              refine ok_v (.d (.agg [.int .i64 p0.Size.X, .int .i64 p0.Size.Y, .int .i64 p0.Size.Z])) rfl rfl ?_
              refine ok_mv rfl rfl ?_
              obtain ⟨r240, h241, h237⟩ := bindE h237
              refine ok_pc [.d (.agg [.int .i64 p0.Size.X, .int .i64 p0.Size.Y, .int .i64 p0.Size.Z]), .d (.int .i64 r231.1)] (r16_Coord_ok p0.Size r231.1 r240 h241) rfl rfl rfl (.inl rfl) ?_
              obtain ⟨r242, h243, h237⟩ := bindE h237
              refine ok_pc [.d (.agg [.int .i64 0, .int .i64 0, .int .i64 0]), .d (.int .i64 r231.1), .d (.int .i64 r240)] (r16_Set_ok ({ X := 0, Y := 0, Z := 0 } : api_Vec) r231.1 r240 r242 h243) rfl rfl rfl (.inl rfl) ?_
              refine ok_sto 6 (.dat 3 [[.int .i64 r242.X, .int .i64 r242.Y, .int .i64 r242.Z]]) rfl rfl ?_
              refine ok_nil ?_
              refine rk_nil ?_
              obtain rfl := someE h237
              exact ⟨_, rfl, wkE [(0, 0), (1, 1), (2, 2), (3, 3), (4, 5), (5, 6)] [] [] rfl ⟨⟨_, rfl, .ref rfl (by decide) (ltd rfl)⟩, ⟨_, rfl, .ref rfl (by decide) (ltd rfl)⟩, ⟨_, rfl, .ref rfl (by decide) (ltd rfl)⟩, ⟨_, rfl, .d (.refl _)⟩, ⟨_, rfl, .ref rfl (by decide) (ltd rfl)⟩, ⟨_, rfl, .ref rfl (by decide) (ltd rfl)⟩, ⟨_, rfl, .ref rfl (by decide) (ltd rfl)⟩, trivial⟩ ⟨⟨ltd rfl, .inr ⟨by decide, _, rfl, .dat _ _⟩⟩, ⟨ltd rfl, .inr ⟨by decide, _, rfl, .dat _ _⟩⟩, ⟨ltd rfl, .inr ⟨by decide, _, rfl, .dat _ _⟩⟩, ⟨ltd rfl, .inr ⟨by decide, _, rfl, .dat _ _⟩⟩, ⟨ltd rfl, .inr ⟨by decide, _, rfl, .dat _ _⟩⟩, ⟨ltd rfl, .inr ⟨by decide, _, rfl, .dat _ _⟩⟩, trivial⟩⟩
            · refine rk_skip ?_
              refine rk_nil ?_
              obtain rfl := someE h237
              exact ⟨_, rfl, wkE [(0, 0), (1, 1), (2, 2), (3, 3), (4, 5), (5, 6)] [] [] rfl ⟨⟨_, rfl, .ref rfl (by decide) (ltd rfl)⟩, ⟨_, rfl, .ref rfl (by decide) (ltd rfl)⟩, ⟨_, rfl, .ref rfl (by decide) (ltd rfl)⟩, ⟨_, rfl, .d (.refl _)⟩, ⟨_, rfl, .ref rfl (by decide) (ltd rfl)⟩, ⟨_, rfl, .ref rfl (by decide) (ltd rfl)⟩, ⟨_, rfl, .ref rfl (by decide) (ltd rfl)⟩, trivial⟩ ⟨⟨ltd rfl, .inr ⟨by decide, _, rfl, .dat _ _⟩⟩, ⟨ltd rfl, .inr ⟨by decide, _, rfl, .dat _ _⟩⟩, ⟨ltd rfl, .inr ⟨by decide, _, rfl, .dat _ _⟩⟩, ⟨ltd rfl, .inr ⟨by decide, _, rfl, .dat _ _⟩⟩, ⟨ltd rfl, .inr ⟨by decide, _, rfl, .dat _ _⟩⟩, ⟨ltd rfl, .inr ⟨by decide, _, rfl, .dat _ _⟩⟩, trivial⟩⟩
          · intro b239 hb
            subst hb
            refine rk_seq ?_
            refine rk_region ?_
            refine ok_v (.ref 4 9 0 3) rfl rfl ?_
            refine ok_v (.d (.agg [.int .i64 r229.X, .int .i64 r229.Y, .int .i64 r229.Z])) rfl rfl ?_
            obtain ⟨r244, h245, h172⟩ := bindE h172
            refine ok_pc [.d (.agg [.int .i64 r229.X, .int .i64 r229.Y, .int .i64 r229.Z])] (r20_axis_ok r229 r244 h245) rfl rfl rfl (.inl rfl) ?_
            refine ok_mv rfl rfl ?_
            refine ok_v (.d (.int .i64 r244.1)) rfl rfl ?_
            refine ok_v (.d (.bool r244.2)) rfl rfl ?_
            refine ok_as rfl rfl ?_
            refine ok_as rfl rfl ?_
            refine ok_nil ?_
            refine rk_seq ?_
            refine rk_seq ?_
            refine rk_region ?_
            refine ok_mv rfl rfl ?_
            refine ok_v (.d (.bool (!r244.2))) rfl rfl ?_
            refine ok_nil ?_
            obtain ⟨m251, h250, h172⟩ := bindE h172
            refine rk_cut (fun b252 => b252 = m251) (fun (b252 : Int × Int × Int) => ⟨[(1, .ref 0 7 0 0), (2, .ref 1 42 0 0), (4, .ref 2 42 0 0), (5, .d (.int .i64 a173.1)), (6, .ref 3 3 0 0), (8, .ref 4 9 0 0), (9, .ref 5 3 0 0), (12, .d (.int .i64 r244.1))], [(0, .dat 7 [[.int .u8 p0.Frame.Turn, .int .i64 p0.Frame.At.X, .int .i64 p0.Frame.At.Y, .int .i64 p0.Frame.At.Z, .int .i64 p0.Size.X, .int .i64 p0.Size.Y, .int .i64 p0.Size.Z]]), (1, .dat 42 [[.int .u8 0, .int .i64 0, .int .i64 0, .int .i64 0, .int .i64 0, .int .i64 0, .int .i64 0, .int .u8 0, .int .i64 0, .int .i64 0, .int .i64 0, .int .i64 0, .int .i64 0, .int .i64 0, .int .u8 0, .int .i64 0, .int .i64 0, .int .i64 0, .int .i64 0, .int .i64 0, .int .i64 0, .int .u8 0, .int .i64 0, .int .i64 0, .int .i64 0, .int .i64 0, .int .i64 0, .int .i64 0, .int .u8 0, .int .i64 0, .int .i64 0, .int .i64 0, .int .i64 0, .int .i64 0, .int .i64 0, .int .u8 0, .int .i64 0, .int .i64 0, .int .i64 0, .int .i64 0, .int .i64 0, .int .i64 0]]), (2, .dat 42 [a173.2.flatMap enc_api_Scope]), (3, .dat 3 [[.int .i64 b224.1, .int .i64 b224.2.1, .int .i64 b224.2.2]]), (4, .dat 9 [[.int .i64 b224.1, .int .i64 b224.2.1, .int .i64 b224.2.2, .int .i64 r229.X, .int .i64 r229.Y, .int .i64 r229.Z, .int .i64 r227.X, .int .i64 r227.Y, .int .i64 r227.Z]]), (5, .dat 3 [[.int .i64 b252.1, .int .i64 b252.2.1, .int .i64 b252.2.2]])], 6⟩) (by simp) ?_ ?_
            · refine rk_condH rfl h250 (fun _ h250 => ?_) (fun _ h250 => ?_)
              · refine rk_regionD [(some [5], [5]), (some [], []), (some [], []), (some [], []), (some [0], []), (some [], []), (some [], []), (some [5], [])] (by kernel_rfl) ?_
                refine ok_v (.d (.agg [.int .i64 b239.1, .int .i64 b239.2.1, .int .i64 b239.2.2])) rfl rfl ?_
                refine ok_mv rfl rfl ?_
                refine ok_v (.ref 0 7 0 4) rfl rfl ?_
                refine ok_v (.d (.agg [.int .i64 p0.Size.X, .int .i64 p0.Size.Y, .int .i64 p0.Size.Z])) rfl rfl ?_
                refine ok_mv rfl rfl ?_
                obtain ⟨r253, h254, h250⟩ := bindE h250
                refine ok_pc [.d (.agg [.int .i64 p0.Size.X, .int .i64 p0.Size.Y, .int .i64 p0.Size.Z]), .d (.int .i64 r244.1)] (r16_Coord_ok p0.Size r244.1 r253 h254) rfl rfl rfl (.inl rfl) ?_
                obtain ⟨r255, h256, h250⟩ := bindE h250
                refine ok_pc [.d (.agg [.int .i64 b239.1, .int .i64 b239.2.1, .int .i64 b239.2.2]), .d (.int .i64 r244.1), .d (.int .i64 r253)] (r16_Set_ok ({ X := b239.1, Y := b239.2.1, Z := b239.2.2 } : api_Vec) r244.1 r253 r255 h256) rfl rfl rfl (.inl rfl) ?_
                refine ok_sto 5 (.dat 3 [[.int .i64 r255.X, .int .i64 r255.Y, .int .i64 r255.Z]]) rfl rfl ?_
                refine ok_nil ?_
                refine rk_nil ?_
                obtain rfl := someE h250
                exact ⟨_, rfl, wkE [(0, 0), (1, 1), (2, 2), (3, 3), (4, 4), (5, 5)] [] [] rfl ⟨⟨_, rfl, .ref rfl (by decide) (ltd rfl)⟩, ⟨_, rfl, .ref rfl (by decide) (ltd rfl)⟩, ⟨_, rfl, .ref rfl (by decide) (ltd rfl)⟩, ⟨_, rfl, .d (.refl _)⟩, ⟨_, rfl, .ref rfl (by decide) (ltd rfl)⟩, ⟨_, rfl, .ref rfl (by decide) (ltd rfl)⟩, ⟨_, rfl, .ref rfl (by decide) (ltd rfl)⟩, ⟨_, rfl, .d (.refl _)⟩, trivial⟩ ⟨⟨ltd rfl, .inr ⟨by decide, _, rfl, .dat _ _⟩⟩, ⟨ltd rfl, .inr ⟨by decide, _, rfl, .dat _ _⟩⟩, ⟨ltd rfl, .inr ⟨by decide, _, rfl, .dat _ _⟩⟩, ⟨ltd rfl, .inr ⟨by decide, _, rfl, .dat _ _⟩⟩, ⟨ltd rfl, .inr ⟨by decide, _, rfl, .dat _ _⟩⟩, ⟨ltd rfl, .inr ⟨by decide, _, rfl, .dat _ _⟩⟩, trivial⟩⟩
              · refine rk_skip ?_
                refine rk_nil ?_
                obtain rfl := someE h250
                exact ⟨_, rfl, wkE [(0, 0), (1, 1), (2, 2), (3, 3), (4, 4), (5, 5)] [] [] rfl ⟨⟨_, rfl, .ref rfl (by decide) (ltd rfl)⟩, ⟨_, rfl, .ref rfl (by decide) (ltd rfl)⟩, ⟨_, rfl, .ref rfl (by decide) (ltd rfl)⟩, ⟨_, rfl, .d (.refl _)⟩, ⟨_, rfl, .ref rfl (by decide) (ltd rfl)⟩, ⟨_, rfl, .ref rfl (by decide) (ltd rfl)⟩, ⟨_, rfl, .ref rfl (by decide) (ltd rfl)⟩, ⟨_, rfl, .d (.refl _)⟩, trivial⟩ ⟨⟨ltd rfl, .inr ⟨by decide, _, rfl, .dat _ _⟩⟩, ⟨ltd rfl, .inr ⟨by decide, _, rfl, .dat _ _⟩⟩, ⟨ltd rfl, .inr ⟨by decide, _, rfl, .dat _ _⟩⟩, ⟨ltd rfl, .inr ⟨by decide, _, rfl, .dat _ _⟩⟩, ⟨ltd rfl, .inr ⟨by decide, _, rfl, .dat _ _⟩⟩, ⟨ltd rfl, .inr ⟨by decide, _, rfl, .dat _ _⟩⟩, trivial⟩⟩
            · intro b252 hb
              subst hb
              refine rk_seq ?_
              refine rk_region ?_
              refine ok_v (.d (.agg [.int .i64 b224.1, .int .i64 b224.2.1, .int .i64 b224.2.2])) rfl rfl ?_
              obtain ⟨r257, h258, h172⟩ := bindE h172
              refine ok_pc [.d (.agg [.int .i64 b224.1, .int .i64 b224.2.1, .int .i64 b224.2.2])] (r20_axis_ok ({ X := b224.1, Y := b224.2.1, Z := b224.2.2 } : api_Vec) r257 h258) rfl rfl rfl (.inl rfl) ?_
              refine ok_mv rfl rfl ?_
              refine ok_v (.d (.int .i64 r257.1)) rfl rfl ?_
              refine ok_v (.d (.bool r257.2)) rfl rfl ?_
              refine ok_as rfl rfl ?_
              refine ok_as rfl rfl ?_
              refine ok_nil ?_
              refine rk_seq ?_
              refine rk_regionD [(some [6], [6]), (some [], [6]), (some [], []), (some [], []), (some [], []), (some [0], []), (some [], []), (some [], []), (some [], []), (some [0], []), (some [], [])] (by kernel_rfl) ?_
              refine ok_v (.ref 0 7 0 4) rfl rfl ?_
              refine ok_v (.d (.agg [.int .i64 p0.Size.X, .int .i64 p0.Size.Y, .int .i64 p0.Size.Z])) rfl rfl ?_
              refine ok_mv rfl rfl ?_
              obtain ⟨r259, h260, h172⟩ := bindE h172
              refine ok_pc [.d (.agg [.int .i64 p0.Size.X, .int .i64 p0.Size.Y, .int .i64 p0.Size.Z]), .d (.int .i64 r257.1)] (r16_Coord_ok p0.Size r257.1 r259 h260) rfl rfl rfl (.inl rfl) ?_
              refine ok_v (.ref 0 7 0 4) rfl rfl ?_
              refine ok_v (.d (.agg [.int .i64 p0.Size.X, .int .i64 p0.Size.Y, .int .i64 p0.Size.Z])) rfl rfl ?_
              refine ok_mv rfl rfl ?_
              obtain ⟨r261, h262, h172⟩ := bindE h172
              refine ok_pc [.d (.agg [.int .i64 p0.Size.X, .int .i64 p0.Size.Y, .int .i64 p0.Size.Z]), .d (.int .i64 r244.1)] (r16_Coord_ok p0.Size r244.1 r261 h262) rfl rfl rfl (.inl rfl) ?_
              refine ok_v (.d (.agg [.int .i64 r259, .int .i64 r261, .int .i64 0])) rfl rfl ?_
              refine ok_alloc rfl rfl ?_
              refine ok_sto 6 (.dat 3 [[.int .i64 r259, .int .i64 r261, .int .i64 0]]) rfl rfl ?_
              refine ok_nil ?_
              refine rk_seq ?_
              refine rk_regionD [(some [], []), (some [7], [7]), (some [], [7]), (some [], []), (some [], []), (some [], []), (some [], []), (some [], []), (some [], []), (some [4], []), (some [6], []), (some [5], []), (some [0], [])] (by kernel_rfl) ?_
              refine ok_v (.d (.agg [.int .u8 p0.Frame.Turn, .int .i64 p0.Frame.At.X, .int .i64 p0.Frame.At.Y, .int .i64 p0.Frame.At.Z, .int .i64 p0.Size.X, .int .i64 p0.Size.Y, .int .i64 p0.Size.Z])) rfl rfl ?_
              refine ok_v (.d (.agg [.int .i64 b252.1, .int .i64 b252.2.1, .int .i64 b252.2.2])) rfl rfl ?_
              refine ok_v (.d (.agg [.int .i64 r259, .int .i64 r261, .int .i64 0])) rfl rfl ?_
              refine ok_v (.d (.agg [.int .i64 b224.1, .int .i64 b224.2.1, .int .i64 b224.2.2, .int .i64 r229.X, .int .i64 r229.Y, .int .i64 r229.Z, .int .i64 r227.X, .int .i64 r227.Y, .int .i64 r227.Z])) rfl rfl ?_
              obtain ⟨r263, h264, h172⟩ := bindE h172
              refine ok_pc [.d (.agg [.int .i64 b224.1, .int .i64 b224.2.1, .int .i64 b224.2.2, .int .i64 r229.X, .int .i64 r229.Y, .int .i64 r229.Z, .int .i64 r227.X, .int .i64 r227.Y, .int .i64 r227.Z])] (r16_Turned_ok (({ X := b224.1, Y := b224.2.1, Z := b224.2.2 } : api_Vec), r229, r227) r263 h264) rfl rfl rfl (.inl rfl) ?_
              refine ok_v (.d (.int .u8 (IntKind.wrap .u8 r263))) rfl rfl ?_
              obtain ⟨r265, h266, h172⟩ := bindE h172
              refine ok_pc [.d (.agg [.int .u8 p0.Frame.Turn, .int .i64 p0.Frame.At.X, .int .i64 p0.Frame.At.Y, .int .i64 p0.Frame.At.Z, .int .i64 p0.Size.X, .int .i64 p0.Size.Y, .int .i64 p0.Size.Z]), .d (.agg [.int .i64 b252.1, .int .i64 b252.2.1, .int .i64 b252.2.2]), .d (.agg [.int .i64 r259, .int .i64 r261, .int .i64 0]), .d (.int .u8 (IntKind.wrap .u8 r263))] (r16_Inside_ok p0 ({ X := b252.1, Y := b252.2.1, Z := b252.2.2 } : api_Vec) ({ X := r259, Y := r261, Z := 0 } : api_Vec) (IntKind.wrap .u8 r263) r265 h266) rfl rfl rfl (.inl rfl) ?_
              refine ok_mv rfl rfl ?_
              refine ok_v (.d (.agg [.int .u8 r265.1.Frame.Turn, .int .i64 r265.1.Frame.At.X, .int .i64 r265.1.Frame.At.Y, .int .i64 r265.1.Frame.At.Z, .int .i64 r265.1.Size.X, .int .i64 r265.1.Size.Y, .int .i64 r265.1.Size.Z])) rfl rfl ?_
              refine ok_v (.d (.int .i64 r265.2)) rfl rfl ?_
              refine ok_alloc rfl rfl ?_
              refine ok_sto 7 (.dat 7 [[.int .u8 r265.1.Frame.Turn, .int .i64 r265.1.Frame.At.X, .int .i64 r265.1.Frame.At.Y, .int .i64 r265.1.Frame.At.Z, .int .i64 r265.1.Size.X, .int .i64 r265.1.Size.Y, .int .i64 r265.1.Size.Z]]) rfl rfl ?_
              refine ok_as rfl rfl ?_
              refine ok_nil ?_
              refine rk_seq ?_
              refine rk_seq ?_
              refine rk_region ?_
              refine ok_mv rfl rfl ?_
              refine ok_v (.d (.bool (r265.2 != 0))) rfl rfl ?_
              refine ok_nil ?_
              refine rk_condH rfl h172 (fun _ h172 => ?_) (fun _ h172 => ?_)
              · refine rk_seq ?_
                refine rk_region ?_
                refine ok_v (.d (.agg [.int .u8 0, .int .i64 0, .int .i64 0, .int .i64 0, .int .i64 0, .int .i64 0, .int .i64 0, .int .u8 0, .int .i64 0, .int .i64 0, .int .i64 0, .int .i64 0, .int .i64 0, .int .i64 0, .int .u8 0, .int .i64 0, .int .i64 0, .int .i64 0, .int .i64 0, .int .i64 0, .int .i64 0, .int .u8 0, .int .i64 0, .int .i64 0, .int .i64 0, .int .i64 0, .int .i64 0, .int .i64 0, .int .u8 0, .int .i64 0, .int .i64 0, .int .i64 0, .int .i64 0, .int .i64 0, .int .i64 0, .int .u8 0, .int .i64 0, .int .i64 0, .int .i64 0, .int .i64 0, .int .i64 0, .int .i64 0])) rfl rfl ?_
                refine ok_mv rfl rfl ?_
                refine ok_sto 1 (.dat 42 [[.int .u8 0, .int .i64 0, .int .i64 0, .int .i64 0, .int .i64 0, .int .i64 0, .int .i64 0, .int .u8 0, .int .i64 0, .int .i64 0, .int .i64 0, .int .i64 0, .int .i64 0, .int .i64 0, .int .u8 0, .int .i64 0, .int .i64 0, .int .i64 0, .int .i64 0, .int .i64 0, .int .i64 0, .int .u8 0, .int .i64 0, .int .i64 0, .int .i64 0, .int .i64 0, .int .i64 0, .int .i64 0, .int .u8 0, .int .i64 0, .int .i64 0, .int .i64 0, .int .i64 0, .int .i64 0, .int .i64 0, .int .u8 0, .int .i64 0, .int .i64 0, .int .i64 0, .int .i64 0, .int .i64 0, .int .i64 0]]) rfl rfl ?_
                refine ok_as rfl rfl ?_
                refine ok_nil ?_
                refine rk_ret ?_
                refine ⟨_, (Option.some.inj h172).symm, fun hm => ?_⟩
                subst hm
                obtain rfl := someE h0
                exact finD (.inr rfl) (v := .d (.tup [.agg [.int .u8 0, .int .i64 0, .int .i64 0, .int .i64 0, .int .i64 0, .int .i64 0, .int .i64 0, .int .u8 0, .int .i64 0, .int .i64 0, .int .i64 0, .int .i64 0, .int .i64 0, .int .i64 0, .int .u8 0, .int .i64 0, .int .i64 0, .int .i64 0, .int .i64 0, .int .i64 0, .int .i64 0, .int .u8 0, .int .i64 0, .int .i64 0, .int .i64 0, .int .i64 0, .int .i64 0, .int .i64 0, .int .u8 0, .int .i64 0, .int .i64 0, .int .i64 0, .int .i64 0, .int .i64 0, .int .i64 0, .int .u8 0, .int .i64 0, .int .i64 0, .int .i64 0, .int .i64 0, .int .i64 0, .int .i64 0], .int .i64 r265.2])) rfl rfl (.refl _)
              · refine rk_skip ?_
                refine rk_region ?_
                refine ok_mv rfl rfl ?_
                refine ok_v (.d (.agg [.int .u8 r265.1.Frame.Turn, .int .i64 r265.1.Frame.At.X, .int .i64 r265.1.Frame.At.Y, .int .i64 r265.1.Frame.At.Z, .int .i64 r265.1.Size.X, .int .i64 r265.1.Size.Y, .int .i64 r265.1.Size.Z])) rfl rfl ?_
                obtain ⟨v267, h268, h172⟩ := bindE h172
                refine ok_iaA h268 rfl rfl rfl rfl rfl ?_
                refine ok_stA (enc := enc_api_Scope) r265.1 h268 (fun _ => rfl) rfl rfl rfl rfl rfl rfl rfl rfl ?_
                refine ok_nil ?_
                refine rk_nil ?_
                refine blk_nor ?_
                refine rk_region ?_
                refine ok_mv rfl rfl ?_
                refine ok_v (.d (.int .i64 (w64 (a173.1 + 1)))) rfl rfl ?_
                refine ok_as rfl rfl ?_
                refine ok_nil ?_
                refine rk_nil ?_
                exact ⟨_, (Option.some.inj h172).symm, wkE [(0, 0), (1, 1), (2, 2)] [] [] rfl ⟨⟨_, rfl, .ref rfl (by decide) (ltd rfl)⟩, ⟨_, rfl, .ref rfl (by decide) (ltd rfl)⟩, ⟨_, rfl, .ref rfl (by decide) (ltd rfl)⟩, ⟨_, rfl, .d (.refl _)⟩, trivial⟩ ⟨⟨ltd rfl, .inr ⟨by decide, _, rfl, .dat _ _⟩⟩, ⟨ltd rfl, .inr ⟨by decide, _, rfl, .dat _ _⟩⟩, ⟨ltd rfl, .inr ⟨by decide, _, rfl, .dat _ _⟩⟩, trivial⟩⟩
      · refine rk_exit ?_
        refine ⟨_, (Option.some.inj h172).symm, fun hm => ?_⟩
        subst hm
        exact ⟨_, rfl, wkE [(0, 1), (1, 2)] [] [] rfl ⟨⟨_, rfl, .ref rfl (by decide) (ltd rfl)⟩, ⟨_, rfl, .ref rfl (by decide) (ltd rfl)⟩, trivial⟩ ⟨⟨ltd rfl, .inr ⟨by decide, _, rfl, .dat _ _⟩⟩, ⟨ltd rfl, .inr ⟨by decide, _, rfl, .dat _ _⟩⟩, trivial⟩⟩
    · intro b176 hb
      subst hb
      refine rk_seq ?_
      refine rk_region ?_
      obtain ⟨v269, h270, h0⟩ := bindE h0
      refine ok_ldW (enc := enc_api_Scope) (.d (.agg [.int .u8 v269.1.Frame.Turn, .int .i64 v269.1.Frame.At.X, .int .i64 v269.1.Frame.At.Y, .int .i64 v269.1.Frame.At.Z, .int .i64 v269.1.Size.X, .int .i64 v269.1.Size.Y, .int .i64 v269.1.Size.Z, .int .u8 v269.2.1.Frame.Turn, .int .i64 v269.2.1.Frame.At.X, .int .i64 v269.2.1.Frame.At.Y, .int .i64 v269.2.1.Frame.At.Z, .int .i64 v269.2.1.Size.X, .int .i64 v269.2.1.Size.Y, .int .i64 v269.2.1.Size.Z, .int .u8 v269.2.2.1.Frame.Turn, .int .i64 v269.2.2.1.Frame.At.X, .int .i64 v269.2.2.1.Frame.At.Y, .int .i64 v269.2.2.1.Frame.At.Z, .int .i64 v269.2.2.1.Size.X, .int .i64 v269.2.2.1.Size.Y, .int .i64 v269.2.2.1.Size.Z, .int .u8 v269.2.2.2.1.Frame.Turn, .int .i64 v269.2.2.2.1.Frame.At.X, .int .i64 v269.2.2.2.1.Frame.At.Y, .int .i64 v269.2.2.2.1.Frame.At.Z, .int .i64 v269.2.2.2.1.Size.X, .int .i64 v269.2.2.2.1.Size.Y, .int .i64 v269.2.2.2.1.Size.Z, .int .u8 v269.2.2.2.2.1.Frame.Turn, .int .i64 v269.2.2.2.2.1.Frame.At.X, .int .i64 v269.2.2.2.2.1.Frame.At.Y, .int .i64 v269.2.2.2.2.1.Frame.At.Z, .int .i64 v269.2.2.2.2.1.Size.X, .int .i64 v269.2.2.2.2.1.Size.Y, .int .i64 v269.2.2.2.2.1.Size.Z, .int .u8 v269.2.2.2.2.2.Frame.Turn, .int .i64 v269.2.2.2.2.2.Frame.At.X, .int .i64 v269.2.2.2.2.2.Frame.At.Y, .int .i64 v269.2.2.2.2.2.Frame.At.Z, .int .i64 v269.2.2.2.2.2.Size.X, .int .i64 v269.2.2.2.2.2.Size.Y, .int .i64 v269.2.2.2.2.2.Size.Z])) (arr6_flat h270) rfl rfl rfl rfl rfl rfl ?_
      refine ok_sto 0 (.dat 42 [[.int .u8 v269.1.Frame.Turn, .int .i64 v269.1.Frame.At.X, .int .i64 v269.1.Frame.At.Y, .int .i64 v269.1.Frame.At.Z, .int .i64 v269.1.Size.X, .int .i64 v269.1.Size.Y, .int .i64 v269.1.Size.Z, .int .u8 v269.2.1.Frame.Turn, .int .i64 v269.2.1.Frame.At.X, .int .i64 v269.2.1.Frame.At.Y, .int .i64 v269.2.1.Frame.At.Z, .int .i64 v269.2.1.Size.X, .int .i64 v269.2.1.Size.Y, .int .i64 v269.2.1.Size.Z, .int .u8 v269.2.2.1.Frame.Turn, .int .i64 v269.2.2.1.Frame.At.X, .int .i64 v269.2.2.1.Frame.At.Y, .int .i64 v269.2.2.1.Frame.At.Z, .int .i64 v269.2.2.1.Size.X, .int .i64 v269.2.2.1.Size.Y, .int .i64 v269.2.2.1.Size.Z, .int .u8 v269.2.2.2.1.Frame.Turn, .int .i64 v269.2.2.2.1.Frame.At.X, .int .i64 v269.2.2.2.1.Frame.At.Y, .int .i64 v269.2.2.2.1.Frame.At.Z, .int .i64 v269.2.2.2.1.Size.X, .int .i64 v269.2.2.2.1.Size.Y, .int .i64 v269.2.2.2.1.Size.Z, .int .u8 v269.2.2.2.2.1.Frame.Turn, .int .i64 v269.2.2.2.2.1.Frame.At.X, .int .i64 v269.2.2.2.2.1.Frame.At.Y, .int .i64 v269.2.2.2.2.1.Frame.At.Z, .int .i64 v269.2.2.2.2.1.Size.X, .int .i64 v269.2.2.2.2.1.Size.Y, .int .i64 v269.2.2.2.2.1.Size.Z, .int .u8 v269.2.2.2.2.2.Frame.Turn, .int .i64 v269.2.2.2.2.2.Frame.At.X, .int .i64 v269.2.2.2.2.2.Frame.At.Y, .int .i64 v269.2.2.2.2.2.Frame.At.Z, .int .i64 v269.2.2.2.2.2.Size.X, .int .i64 v269.2.2.2.2.2.Size.Y, .int .i64 v269.2.2.2.2.2.Size.Z]]) rfl rfl ?_
      refine ok_as rfl rfl ?_
      refine ok_nil ?_
      refine rk_ret ?_
      obtain rfl := someE h0
      exact finD (.inr rfl) (v := .d (.tup [.agg [.int .u8 v269.1.Frame.Turn, .int .i64 v269.1.Frame.At.X, .int .i64 v269.1.Frame.At.Y, .int .i64 v269.1.Frame.At.Z, .int .i64 v269.1.Size.X, .int .i64 v269.1.Size.Y, .int .i64 v269.1.Size.Z, .int .u8 v269.2.1.Frame.Turn, .int .i64 v269.2.1.Frame.At.X, .int .i64 v269.2.1.Frame.At.Y, .int .i64 v269.2.1.Frame.At.Z, .int .i64 v269.2.1.Size.X, .int .i64 v269.2.1.Size.Y, .int .i64 v269.2.1.Size.Z, .int .u8 v269.2.2.1.Frame.Turn, .int .i64 v269.2.2.1.Frame.At.X, .int .i64 v269.2.2.1.Frame.At.Y, .int .i64 v269.2.2.1.Frame.At.Z, .int .i64 v269.2.2.1.Size.X, .int .i64 v269.2.2.1.Size.Y, .int .i64 v269.2.2.1.Size.Z, .int .u8 v269.2.2.2.1.Frame.Turn, .int .i64 v269.2.2.2.1.Frame.At.X, .int .i64 v269.2.2.2.1.Frame.At.Y, .int .i64 v269.2.2.2.1.Frame.At.Z, .int .i64 v269.2.2.2.1.Size.X, .int .i64 v269.2.2.2.1.Size.Y, .int .i64 v269.2.2.2.1.Size.Z, .int .u8 v269.2.2.2.2.1.Frame.Turn, .int .i64 v269.2.2.2.2.1.Frame.At.X, .int .i64 v269.2.2.2.2.1.Frame.At.Y, .int .i64 v269.2.2.2.2.1.Frame.At.Z, .int .i64 v269.2.2.2.2.1.Size.X, .int .i64 v269.2.2.2.2.1.Size.Y, .int .i64 v269.2.2.2.2.1.Size.Z, .int .u8 v269.2.2.2.2.2.Frame.Turn, .int .i64 v269.2.2.2.2.2.Frame.At.X, .int .i64 v269.2.2.2.2.2.Frame.At.Y, .int .i64 v269.2.2.2.2.2.Frame.At.Z, .int .i64 v269.2.2.2.2.2.Size.X, .int .i64 v269.2.2.2.2.2.Size.Y, .int .i64 v269.2.2.2.2.2.Size.Z], .int .i64 0])) rfl rfl (.refl _)

set_option maxRecDepth 100000 in
set_option maxHeartbeats 8000000 in
theorem raise_Raise_ok (p0 : api_Scope) (p1 : Int) (r : api_Scope × Int) (h0 : raise_Raise p0 p1 = some r) : Pure Try.prog tab 7 [.agg [.int .u8 p0.Frame.Turn, .int .i64 p0.Frame.At.X, .int .i64 p0.Frame.At.Y, .int .i64 p0.Frame.At.Z, .int .i64 p0.Size.X, .int .i64 p0.Size.Y, .int .i64 p0.Size.Z], .int .i64 p1] (.tup [.agg [.int .u8 r.1.Frame.Turn, .int .i64 r.1.Frame.At.X, .int .i64 r.1.Frame.At.Y, .int .i64 r.1.Frame.At.Z, .int .i64 r.1.Size.X, .int .i64 r.1.Size.Y, .int .i64 r.1.Size.Z], .int .i64 r.2]) := by
  unfold raise_Raise at h0
  refine pure_of_run Try.func7 rfl (by kernel_rfl) (by kernel_rfl) rfl ?_
  refine rk_seq ?_
  refine rk_region ?_
  refine ok_new (.ref 0 7 0 0) (.dat 7 [[.int .u8 p0.Frame.Turn, .int .i64 p0.Frame.At.X, .int .i64 p0.Frame.At.Y, .int .i64 p0.Frame.At.Z, .int .i64 p0.Size.X, .int .i64 p0.Size.Y, .int .i64 p0.Size.Z]]) rfl rfl ?_
  refine ok_alloc rfl rfl ?_
  refine ok_as rfl rfl ?_
  refine ok_nil ?_
  refine rk_seq ?_
  refine rk_seq ?_
  refine rk_region ?_
  refine ok_v (.d (.agg [.int .u8 p0.Frame.Turn, .int .i64 p0.Frame.At.X, .int .i64 p0.Frame.At.Y, .int .i64 p0.Frame.At.Z, .int .i64 p0.Size.X, .int .i64 p0.Size.Y, .int .i64 p0.Size.Z])) rfl rfl ?_
  obtain ⟨r1, h2, h0⟩ := bindE h0
  refine ok_pc [.d (.agg [.int .u8 p0.Frame.Turn, .int .i64 p0.Frame.At.X, .int .i64 p0.Frame.At.Y, .int .i64 p0.Frame.At.Z, .int .i64 p0.Size.X, .int .i64 p0.Size.Y, .int .i64 p0.Size.Z])] (raise_checked_ok p0 r1 h2) rfl rfl rfl (.inl rfl) ?_
  refine ok_as rfl rfl ?_
  refine ok_nil ?_
  refine rk_seq ?_
  refine rk_region ?_
  refine ok_mv rfl rfl ?_
  refine ok_v (.d (.bool (r1 != 0))) rfl rfl ?_
  refine ok_nil ?_
  refine rk_condH rfl h0 (fun _ h0 => ?_) (fun _ h0 => ?_)
  · refine rk_seq ?_
    refine rk_region ?_
    refine ok_v (.d (.agg [.int .u8 0, .int .i64 0, .int .i64 0, .int .i64 0, .int .i64 0, .int .i64 0, .int .i64 0])) rfl rfl ?_
    refine ok_mv rfl rfl ?_
    refine ok_sto 1 (.dat 7 [[.int .u8 0, .int .i64 0, .int .i64 0, .int .i64 0, .int .i64 0, .int .i64 0, .int .i64 0]]) rfl rfl ?_
    refine ok_as rfl rfl ?_
    refine ok_nil ?_
    refine rk_ret ?_
    obtain rfl := someE h0
    exact finD (.inr rfl) (v := .d (.tup [.agg [.int .u8 0, .int .i64 0, .int .i64 0, .int .i64 0, .int .i64 0, .int .i64 0, .int .i64 0], .int .i64 r1])) rfl rfl (.refl _)
  · refine rk_skip ?_
    refine rk_seq ?_
    refine rk_seq ?_
    refine rk_region ?_
    refine ok_mv rfl rfl ?_
    refine ok_v (.d (.bool (decide (p1 < 0)))) rfl rfl ?_
    obtain ⟨c3, h4, h0⟩ := bindE h0
    refine ok_cutQ 4 (fun A st => ∃ (j5 j6 j7 : V), st = A [(18, .d (.bool c3)), (17, j7), (16, j6), (15, j5)]) ?_ ?_
    · refine ok_mvB rfl rfl h4 (fun h4 => ?_) (fun h4 => ?_)
      · refine ok_sg rfl ?_
        refine ok_sg rfl ?_
        refine ok_v (.d (.bool true)) rfl rfl ?_
        refine ok_nil ?_
        obtain rfl := someE h4
        exact ⟨_, _, _, rfl⟩
      · refine ok_mv rfl rfl ?_
        refine ok_v (.d (.bool (decide (p1 > 1000000)))) rfl rfl ?_
        refine ok_v (.d (.bool (decide (p1 > 1000000)))) rfl rfl ?_
        refine ok_nil ?_
        obtain rfl := someE h4
        exact ⟨_, _, _, rfl⟩
    · rintro _ ⟨j5, j6, j7, rfl⟩
      refine ok_nil ?_
      refine rk_condH rfl h0 (fun _ h0 => ?_) (fun _ h0 => ?_)
      · refine rk_seq ?_
        refine rk_region ?_
        refine ok_v (.d (.agg [.int .u8 0, .int .i64 0, .int .i64 0, .int .i64 0, .int .i64 0, .int .i64 0, .int .i64 0])) rfl rfl ?_
        refine ok_sto 1 (.dat 7 [[.int .u8 0, .int .i64 0, .int .i64 0, .int .i64 0, .int .i64 0, .int .i64 0, .int .i64 0]]) rfl rfl ?_
        refine ok_as rfl rfl ?_
        refine ok_nil ?_
        refine rk_ret ?_
        obtain rfl := someE h0
        exact finD (.inr rfl) (v := .d (.tup [.agg [.int .u8 0, .int .i64 0, .int .i64 0, .int .i64 0, .int .i64 0, .int .i64 0, .int .i64 0], .int .i64 2])) rfl rfl (.refl _)
      · refine rk_skip ?_
        refine rk_seq ?_
        refine rk_region ?_
        refine ok_mv rfl rfl ?_
        refine ok_v (.ref 0 7 0 4) rfl rfl ?_
        refine ok_v (.ref 0 7 0 6) rfl rfl ?_
        refine ok_sto 0 (.dat 7 [[.int .u8 p0.Frame.Turn, .int .i64 p0.Frame.At.X, .int .i64 p0.Frame.At.Y, .int .i64 p0.Frame.At.Z, .int .i64 p0.Size.X, .int .i64 p0.Size.Y, .int .i64 p1]]) rfl rfl ?_
        refine ok_nil ?_
        refine rk_seq ?_
        refine rk_region ?_
        refine ok_v (.d (.agg [.int .u8 p0.Frame.Turn, .int .i64 p0.Frame.At.X, .int .i64 p0.Frame.At.Y, .int .i64 p0.Frame.At.Z, .int .i64 p0.Size.X, .int .i64 p0.Size.Y, .int .i64 p1])) rfl rfl ?_
        refine ok_sto 1 (.dat 7 [[.int .u8 p0.Frame.Turn, .int .i64 p0.Frame.At.X, .int .i64 p0.Frame.At.Y, .int .i64 p0.Frame.At.Z, .int .i64 p0.Size.X, .int .i64 p0.Size.Y, .int .i64 p1]]) rfl rfl ?_
        refine ok_as rfl rfl ?_
        refine ok_nil ?_
        refine rk_ret ?_
        obtain rfl := someE h0
        exact finD (.inr rfl) (v := .d (.tup [.agg [.int .u8 p0.Frame.Turn, .int .i64 p0.Frame.At.X, .int .i64 p0.Frame.At.Y, .int .i64 p0.Frame.At.Z, .int .i64 p0.Size.X, .int .i64 p0.Size.Y, .int .i64 p1], .int .i64 0])) rfl rfl (.refl _)

set_option maxRecDepth 100000 in
set_option maxHeartbeats 8000000 in
theorem r20_Raise_ok (p0 : api_Scope) (p1 : Int) (r : api_Scope × Int) (h0 : r20_Raise p0 p1 = some r) : Pure Try.prog tab 8 [.agg [.int .u8 p0.Frame.Turn, .int .i64 p0.Frame.At.X, .int .i64 p0.Frame.At.Y, .int .i64 p0.Frame.At.Z, .int .i64 p0.Size.X, .int .i64 p0.Size.Y, .int .i64 p0.Size.Z], .int .i64 p1] (.tup [.agg [.int .u8 r.1.Frame.Turn, .int .i64 r.1.Frame.At.X, .int .i64 r.1.Frame.At.Y, .int .i64 r.1.Frame.At.Z, .int .i64 r.1.Size.X, .int .i64 r.1.Size.Y, .int .i64 r.1.Size.Z], .int .i64 r.2]) := by
  unfold r20_Raise at h0
  refine pure_of_run Try.func8 rfl (by kernel_rfl) (by kernel_rfl) rfl ?_
  refine rk_seq ?_
  refine rk_region ?_
  refine ok_new (.ref 0 7 0 0) (.dat 7 [[.int .u8 p0.Frame.Turn, .int .i64 p0.Frame.At.X, .int .i64 p0.Frame.At.Y, .int .i64 p0.Frame.At.Z, .int .i64 p0.Size.X, .int .i64 p0.Size.Y, .int .i64 p0.Size.Z]]) rfl rfl ?_
  refine ok_alloc rfl rfl ?_
  refine ok_as rfl rfl ?_
  refine ok_nil ?_
  refine rk_seq ?_
  refine rk_seq ?_
  refine rk_region ?_
  refine ok_v (.d (.agg [.int .u8 p0.Frame.Turn, .int .i64 p0.Frame.At.X, .int .i64 p0.Frame.At.Y, .int .i64 p0.Frame.At.Z, .int .i64 p0.Size.X, .int .i64 p0.Size.Y, .int .i64 p0.Size.Z])) rfl rfl ?_
  obtain ⟨r1, h2, h0⟩ := bindE h0
  refine ok_pc [.d (.agg [.int .u8 p0.Frame.Turn, .int .i64 p0.Frame.At.X, .int .i64 p0.Frame.At.Y, .int .i64 p0.Frame.At.Z, .int .i64 p0.Size.X, .int .i64 p0.Size.Y, .int .i64 p0.Size.Z])] (r16_Scoped_ok p0 r1 h2) rfl rfl rfl (.inl rfl) ?_
  refine ok_v (.d (.bool (r1 != 0))) rfl rfl ?_
  refine ok_nil ?_
  refine rk_condH rfl h0 (fun _ h0 => ?_) (fun _ h0 => ?_)
  · refine rk_seq ?_
    refine rk_region ?_
    refine ok_v (.d (.agg [.int .u8 0, .int .i64 0, .int .i64 0, .int .i64 0, .int .i64 0, .int .i64 0, .int .i64 0])) rfl rfl ?_
    refine ok_sto 1 (.dat 7 [[.int .u8 0, .int .i64 0, .int .i64 0, .int .i64 0, .int .i64 0, .int .i64 0, .int .i64 0]]) rfl rfl ?_
    refine ok_as rfl rfl ?_
    refine ok_nil ?_
    refine rk_ret ?_
    obtain rfl := someE h0
    exact finD (.inr rfl) (v := .d (.tup [.agg [.int .u8 0, .int .i64 0, .int .i64 0, .int .i64 0, .int .i64 0, .int .i64 0, .int .i64 0], .int .i64 8])) rfl rfl (.refl _)
  · refine rk_skip ?_
    refine rk_seq ?_
    refine rk_seq ?_
    refine rk_region ?_
    refine ok_mv rfl rfl ?_
    refine ok_v (.d (.bool (decide (p1 < 0)))) rfl rfl ?_
    obtain ⟨c3, h4, h0⟩ := bindE h0
    refine ok_cutQ 4 (fun A st => ∃ (j5 j6 j7 : V), st = A [(15, .d (.bool c3)), (14, j7), (13, j6), (12, j5)]) ?_ ?_
    · refine ok_mvB rfl rfl h4 (fun h4 => ?_) (fun h4 => ?_)
      · refine ok_sg rfl ?_
        refine ok_sg rfl ?_
        refine ok_v (.d (.bool true)) rfl rfl ?_
        refine ok_nil ?_
        obtain rfl := someE h4
        exact ⟨_, _, _, rfl⟩
      · refine ok_mv rfl rfl ?_
        refine ok_v (.d (.bool (decide (p1 > 1000000)))) rfl rfl ?_
        refine ok_v (.d (.bool (decide (p1 > 1000000)))) rfl rfl ?_
        refine ok_nil ?_
        obtain rfl := someE h4
        exact ⟨_, _, _, rfl⟩
    · rintro _ ⟨j5, j6, j7, rfl⟩
      refine ok_nil ?_
      refine rk_condH rfl h0 (fun _ h0 => ?_) (fun _ h0 => ?_)
      · refine rk_seq ?_
        refine rk_region ?_
        refine ok_v (.d (.agg [.int .u8 0, .int .i64 0, .int .i64 0, .int .i64 0, .int .i64 0, .int .i64 0, .int .i64 0])) rfl rfl ?_
        refine ok_sto 1 (.dat 7 [[.int .u8 0, .int .i64 0, .int .i64 0, .int .i64 0, .int .i64 0, .int .i64 0, .int .i64 0]]) rfl rfl ?_
        refine ok_as rfl rfl ?_
        refine ok_nil ?_
        refine rk_ret ?_
        obtain rfl := someE h0
        exact finD (.inr rfl) (v := .d (.tup [.agg [.int .u8 0, .int .i64 0, .int .i64 0, .int .i64 0, .int .i64 0, .int .i64 0, .int .i64 0], .int .i64 2])) rfl rfl (.refl _)
      · refine rk_skip ?_
        refine rk_seq ?_
        refine rk_region ?_
        refine ok_v (.ref 0 7 0 0) rfl rfl ?_
        refine ok_v (.d (.agg [.int .u8 p0.Frame.Turn, .int .i64 p0.Frame.At.X, .int .i64 p0.Frame.At.Y, .int .i64 p0.Frame.At.Z])) rfl rfl ?_
        refine ok_v (.ref 0 7 0 4) rfl rfl ?_
        refine ok_v (.ref 0 7 0 4) rfl rfl ?_
        refine ok_v (.d (.int .i64 p0.Size.X)) rfl rfl ?_
        refine ok_v (.ref 0 7 0 4) rfl rfl ?_
        refine ok_v (.ref 0 7 0 5) rfl rfl ?_
        refine ok_v (.d (.int .i64 p0.Size.Y)) rfl rfl ?_
        refine ok_mv rfl rfl ?_
        refine ok_v (.d (.agg [.int .i64 p0.Size.X, .int .i64 p0.Size.Y, .int .i64 p1])) rfl rfl ?_
        refine ok_v (.d (.agg [.int .u8 p0.Frame.Turn, .int .i64 p0.Frame.At.X, .int .i64 p0.Frame.At.Y, .int .i64 p0.Frame.At.Z, .int .i64 p0.Size.X, .int .i64 p0.Size.Y, .int .i64 p1])) rfl rfl ?_
        refine ok_sto 1 (.dat 7 [[.int .u8 p0.Frame.Turn, .int .i64 p0.Frame.At.X, .int .i64 p0.Frame.At.Y, .int .i64 p0.Frame.At.Z, .int .i64 p0.Size.X, .int .i64 p0.Size.Y, .int .i64 p1]]) rfl rfl ?_
        refine ok_as rfl rfl ?_
        refine ok_nil ?_
        refine rk_ret ?_
        obtain rfl := someE h0
        exact finD (.inr rfl) (v := .d (.tup [.agg [.int .u8 p0.Frame.Turn, .int .i64 p0.Frame.At.X, .int .i64 p0.Frame.At.Y, .int .i64 p0.Frame.At.Z, .int .i64 p0.Size.X, .int .i64 p0.Size.Y, .int .i64 p1], .int .i64 0])) rfl rfl (.refl _)

set_option maxRecDepth 100000 in
set_option maxHeartbeats 8000000 in
theorem raise_Inset_ok (p0 : api_Scope) (p1 : Int) (r : api_Scope × Int) (h0 : raise_Inset p0 p1 = some r) : Pure Try.prog tab 9 [.agg [.int .u8 p0.Frame.Turn, .int .i64 p0.Frame.At.X, .int .i64 p0.Frame.At.Y, .int .i64 p0.Frame.At.Z, .int .i64 p0.Size.X, .int .i64 p0.Size.Y, .int .i64 p0.Size.Z], .int .i64 p1] (.tup [.agg [.int .u8 r.1.Frame.Turn, .int .i64 r.1.Frame.At.X, .int .i64 r.1.Frame.At.Y, .int .i64 r.1.Frame.At.Z, .int .i64 r.1.Size.X, .int .i64 r.1.Size.Y, .int .i64 r.1.Size.Z], .int .i64 r.2]) := by
  unfold raise_Inset at h0
  refine pure_of_run Try.func9 rfl (by kernel_rfl) (by kernel_rfl) rfl ?_
  refine rk_seq ?_
  refine rk_region ?_
  refine ok_new (.ref 0 7 0 0) (.dat 7 [[.int .u8 p0.Frame.Turn, .int .i64 p0.Frame.At.X, .int .i64 p0.Frame.At.Y, .int .i64 p0.Frame.At.Z, .int .i64 p0.Size.X, .int .i64 p0.Size.Y, .int .i64 p0.Size.Z]]) rfl rfl ?_
  refine ok_alloc rfl rfl ?_
  refine ok_as rfl rfl ?_
  refine ok_nil ?_
  refine rk_seq ?_
  refine rk_seq ?_
  refine rk_region ?_
  refine ok_v (.d (.agg [.int .u8 p0.Frame.Turn, .int .i64 p0.Frame.At.X, .int .i64 p0.Frame.At.Y, .int .i64 p0.Frame.At.Z, .int .i64 p0.Size.X, .int .i64 p0.Size.Y, .int .i64 p0.Size.Z])) rfl rfl ?_
  obtain ⟨r1, h2, h0⟩ := bindE h0
  refine ok_pc [.d (.agg [.int .u8 p0.Frame.Turn, .int .i64 p0.Frame.At.X, .int .i64 p0.Frame.At.Y, .int .i64 p0.Frame.At.Z, .int .i64 p0.Size.X, .int .i64 p0.Size.Y, .int .i64 p0.Size.Z])] (raise_checked_ok p0 r1 h2) rfl rfl rfl (.inl rfl) ?_
  refine ok_as rfl rfl ?_
  refine ok_nil ?_
  refine rk_seq ?_
  refine rk_region ?_
  refine ok_mv rfl rfl ?_
  refine ok_v (.d (.bool (r1 != 0))) rfl rfl ?_
  refine ok_nil ?_
  refine rk_condH rfl h0 (fun _ h0 => ?_) (fun _ h0 => ?_)
  · refine rk_seq ?_
    refine rk_region ?_
    refine ok_v (.d (.agg [.int .u8 0, .int .i64 0, .int .i64 0, .int .i64 0, .int .i64 0, .int .i64 0, .int .i64 0])) rfl rfl ?_
    refine ok_mv rfl rfl ?_
    refine ok_sto 1 (.dat 7 [[.int .u8 0, .int .i64 0, .int .i64 0, .int .i64 0, .int .i64 0, .int .i64 0, .int .i64 0]]) rfl rfl ?_
    refine ok_as rfl rfl ?_
    refine ok_nil ?_
    refine rk_ret ?_
    obtain rfl := someE h0
    exact finD (.inr rfl) (v := .d (.tup [.agg [.int .u8 0, .int .i64 0, .int .i64 0, .int .i64 0, .int .i64 0, .int .i64 0, .int .i64 0], .int .i64 r1])) rfl rfl (.refl _)
  · refine rk_skip ?_
    refine rk_seq ?_
    refine rk_seq ?_
    refine rk_region ?_
    refine ok_mv rfl rfl ?_
    refine ok_v (.d (.bool (decide (p1 < 0)))) rfl rfl ?_
    obtain ⟨c3, h4, h0⟩ := bindE h0
    refine ok_cutQ 4 (fun A st => ∃ (j5 j6 j7 : V), st = A [(19, .d (.bool c3)), (18, j7), (17, j6), (16, j5)]) ?_ ?_
    · refine ok_mvB rfl rfl h4 (fun h4 => ?_) (fun h4 => ?_)
      · refine ok_sg rfl ?_
        refine ok_sg rfl ?_
        refine ok_v (.d (.bool true)) rfl rfl ?_
        refine ok_nil ?_
        obtain rfl := someE h4
        exact ⟨_, _, _, rfl⟩
      · refine ok_mv rfl rfl ?_
        refine ok_v (.d (.bool (decide (p1 > 1000000)))) rfl rfl ?_
        refine ok_v (.d (.bool (decide (p1 > 1000000)))) rfl rfl ?_
        refine ok_nil ?_
        obtain rfl := someE h4
        exact ⟨_, _, _, rfl⟩
    · rintro _ ⟨j5, j6, j7, rfl⟩
      refine ok_nil ?_
      refine rk_condH rfl h0 (fun _ h0 => ?_) (fun _ h0 => ?_)
      · refine rk_seq ?_
        refine rk_region ?_
        refine ok_v (.d (.agg [.int .u8 0, .int .i64 0, .int .i64 0, .int .i64 0, .int .i64 0, .int .i64 0, .int .i64 0])) rfl rfl ?_
        refine ok_sto 1 (.dat 7 [[.int .u8 0, .int .i64 0, .int .i64 0, .int .i64 0, .int .i64 0, .int .i64 0, .int .i64 0]]) rfl rfl ?_
        refine ok_as rfl rfl ?_
        refine ok_nil ?_
        refine rk_ret ?_
        obtain rfl := someE h0
        exact finD (.inr rfl) (v := .d (.tup [.agg [.int .u8 0, .int .i64 0, .int .i64 0, .int .i64 0, .int .i64 0, .int .i64 0, .int .i64 0], .int .i64 2])) rfl rfl (.refl _)
      · refine rk_skip ?_
        refine rk_seq ?_
        refine rk_region ?_
        refine ok_v (.ref 0 7 0 4) rfl rfl ?_
        refine ok_v (.ref 0 7 0 4) rfl rfl ?_
        refine ok_v (.d (.int .i64 p0.Size.X)) rfl rfl ?_
        refine ok_mv rfl rfl ?_
        refine ok_v (.d (.int .i64 (w64 (2 * p1)))) rfl rfl ?_
        refine ok_v (.d (.int .i64 (w64 (p0.Size.X - (w64 (2 * p1)))))) rfl rfl ?_
        refine ok_v (.ref 0 7 0 4) rfl rfl ?_
        refine ok_v (.ref 0 7 0 5) rfl rfl ?_
        refine ok_v (.d (.int .i64 p0.Size.Y)) rfl rfl ?_
        refine ok_mv rfl rfl ?_
        refine ok_v (.d (.int .i64 (w64 (2 * p1)))) rfl rfl ?_
        refine ok_v (.d (.int .i64 (w64 (p0.Size.Y - (w64 (2 * p1)))))) rfl rfl ?_
        refine ok_v (.ref 0 7 0 4) rfl rfl ?_
        refine ok_v (.ref 0 7 0 6) rfl rfl ?_
        refine ok_v (.d (.int .i64 p0.Size.Z)) rfl rfl ?_
        refine ok_v (.d (.agg [.int .i64 (w64 (p0.Size.X - (w64 (2 * p1)))), .int .i64 (w64 (p0.Size.Y - (w64 (2 * p1)))), .int .i64 p0.Size.Z])) rfl rfl ?_
        refine ok_alloc rfl rfl ?_
        refine ok_sto 2 (.dat 3 [[.int .i64 (w64 (p0.Size.X - (w64 (2 * p1)))), .int .i64 (w64 (p0.Size.Y - (w64 (2 * p1)))), .int .i64 p0.Size.Z]]) rfl rfl ?_
        refine ok_nil ?_
        refine rk_seq ?_
        refine rk_seq ?_
        refine rk_region ?_
        refine ok_v (.ref 2 3 0 0) rfl rfl ?_
        refine ok_v (.d (.int .i64 (w64 (p0.Size.X - (w64 (2 * p1)))))) rfl rfl ?_
        refine ok_v (.ref 2 3 0 1) rfl rfl ?_
        refine ok_v (.d (.int .i64 (w64 (p0.Size.Y - (w64 (2 * p1)))))) rfl rfl ?_
        refine ok_min (r := min (w64 (p0.Size.X - (w64 (2 * p1)))) (w64 (p0.Size.Y - (w64 (2 * p1))))) rfl rfl (by simp only [minI_min]; rfl) ?_
        refine ok_v (.d (.bool (decide ((min (w64 (p0.Size.X - (w64 (2 * p1)))) (w64 (p0.Size.Y - (w64 (2 * p1))))) < 0)))) rfl rfl ?_
        refine ok_nil ?_
        refine rk_condH rfl h0 (fun _ h0 => ?_) (fun _ h0 => ?_)
        · refine rk_seq ?_
          refine rk_region ?_
          refine ok_v (.d (.agg [.int .u8 0, .int .i64 0, .int .i64 0, .int .i64 0, .int .i64 0, .int .i64 0, .int .i64 0])) rfl rfl ?_
          refine ok_sto 1 (.dat 7 [[.int .u8 0, .int .i64 0, .int .i64 0, .int .i64 0, .int .i64 0, .int .i64 0, .int .i64 0]]) rfl rfl ?_
          refine ok_as rfl rfl ?_
          refine ok_nil ?_
          refine rk_ret ?_
          obtain rfl := someE h0
          exact finD (.inr rfl) (v := .d (.tup [.agg [.int .u8 0, .int .i64 0, .int .i64 0, .int .i64 0, .int .i64 0, .int .i64 0, .int .i64 0], .int .i64 16])) rfl rfl (.refl _)
        · refine rk_skip ?_
          refine rk_seq ?_
          refine rk_region ?_
          refine ok_v (.d (.agg [.int .u8 p0.Frame.Turn, .int .i64 p0.Frame.At.X, .int .i64 p0.Frame.At.Y, .int .i64 p0.Frame.At.Z, .int .i64 p0.Size.X, .int .i64 p0.Size.Y, .int .i64 p0.Size.Z])) rfl rfl ?_
          refine ok_mv rfl rfl ?_
          refine ok_mv rfl rfl ?_
          refine ok_v (.d (.agg [.int .i64 p1, .int .i64 p1, .int .i64 0])) rfl rfl ?_
          refine ok_v (.d (.agg [.int .i64 (w64 (p0.Size.X - (w64 (2 * p1)))), .int .i64 (w64 (p0.Size.Y - (w64 (2 * p1)))), .int .i64 p0.Size.Z])) rfl rfl ?_
          obtain ⟨r8, h9, h0⟩ := bindE h0
          refine ok_pc [.d (.agg [.int .u8 p0.Frame.Turn, .int .i64 p0.Frame.At.X, .int .i64 p0.Frame.At.Y, .int .i64 p0.Frame.At.Z, .int .i64 p0.Size.X, .int .i64 p0.Size.Y, .int .i64 p0.Size.Z]), .d (.agg [.int .i64 p1, .int .i64 p1, .int .i64 0]), .d (.agg [.int .i64 (w64 (p0.Size.X - (w64 (2 * p1)))), .int .i64 (w64 (p0.Size.Y - (w64 (2 * p1)))), .int .i64 p0.Size.Z]), .d (.int .u8 0)] (frame_Inside_ok p0 ({ X := p1, Y := p1, Z := 0 } : api_Vec) ({ X := w64 (p0.Size.X - (w64 (2 * p1))), Y := w64 (p0.Size.Y - (w64 (2 * p1))), Z := p0.Size.Z } : api_Vec) 0 r8 h9) rfl rfl rfl (.inl rfl) ?_
          refine ok_v (.d (.agg [.int .u8 r8.1.Frame.Turn, .int .i64 r8.1.Frame.At.X, .int .i64 r8.1.Frame.At.Y, .int .i64 r8.1.Frame.At.Z, .int .i64 r8.1.Size.X, .int .i64 r8.1.Size.Y, .int .i64 r8.1.Size.Z])) rfl rfl ?_
          refine ok_v (.d (.int .i64 r8.2)) rfl rfl ?_
          refine ok_sto 1 (.dat 7 [[.int .u8 r8.1.Frame.Turn, .int .i64 r8.1.Frame.At.X, .int .i64 r8.1.Frame.At.Y, .int .i64 r8.1.Frame.At.Z, .int .i64 r8.1.Size.X, .int .i64 r8.1.Size.Y, .int .i64 r8.1.Size.Z]]) rfl rfl ?_
          refine ok_as rfl rfl ?_
          refine ok_nil ?_
          refine rk_ret ?_
          obtain rfl := someE h0
          exact finD (.inr rfl) (v := .d (.tup [.agg [.int .u8 r8.1.Frame.Turn, .int .i64 r8.1.Frame.At.X, .int .i64 r8.1.Frame.At.Y, .int .i64 r8.1.Frame.At.Z, .int .i64 r8.1.Size.X, .int .i64 r8.1.Size.Y, .int .i64 r8.1.Size.Z], .int .i64 r8.2])) rfl rfl (.refl _)

set_option maxRecDepth 100000 in
set_option maxHeartbeats 8000000 in
theorem r20_Inset_ok (p0 : api_Scope) (p1 : Int) (r : api_Scope × Int) (h0 : r20_Inset p0 p1 = some r) : Pure Try.prog tab 10 [.agg [.int .u8 p0.Frame.Turn, .int .i64 p0.Frame.At.X, .int .i64 p0.Frame.At.Y, .int .i64 p0.Frame.At.Z, .int .i64 p0.Size.X, .int .i64 p0.Size.Y, .int .i64 p0.Size.Z], .int .i64 p1] (.tup [.agg [.int .u8 r.1.Frame.Turn, .int .i64 r.1.Frame.At.X, .int .i64 r.1.Frame.At.Y, .int .i64 r.1.Frame.At.Z, .int .i64 r.1.Size.X, .int .i64 r.1.Size.Y, .int .i64 r.1.Size.Z], .int .i64 r.2]) := by
  unfold r20_Inset at h0
  refine pure_of_run Try.func10 rfl (by kernel_rfl) (by kernel_rfl) rfl ?_
  refine rk_seq ?_
  refine rk_region ?_
  refine ok_new (.ref 0 7 0 0) (.dat 7 [[.int .u8 p0.Frame.Turn, .int .i64 p0.Frame.At.X, .int .i64 p0.Frame.At.Y, .int .i64 p0.Frame.At.Z, .int .i64 p0.Size.X, .int .i64 p0.Size.Y, .int .i64 p0.Size.Z]]) rfl rfl ?_
  refine ok_alloc rfl rfl ?_
  refine ok_as rfl rfl ?_
  refine ok_nil ?_
  refine rk_seq ?_
  refine rk_seq ?_
  refine rk_region ?_
  refine ok_v (.d (.agg [.int .u8 p0.Frame.Turn, .int .i64 p0.Frame.At.X, .int .i64 p0.Frame.At.Y, .int .i64 p0.Frame.At.Z, .int .i64 p0.Size.X, .int .i64 p0.Size.Y, .int .i64 p0.Size.Z])) rfl rfl ?_
  obtain ⟨r1, h2, h0⟩ := bindE h0
  refine ok_pc [.d (.agg [.int .u8 p0.Frame.Turn, .int .i64 p0.Frame.At.X, .int .i64 p0.Frame.At.Y, .int .i64 p0.Frame.At.Z, .int .i64 p0.Size.X, .int .i64 p0.Size.Y, .int .i64 p0.Size.Z])] (r16_Scoped_ok p0 r1 h2) rfl rfl rfl (.inl rfl) ?_
  refine ok_v (.d (.bool (r1 != 0))) rfl rfl ?_
  refine ok_nil ?_
  refine rk_condH rfl h0 (fun _ h0 => ?_) (fun _ h0 => ?_)
  · refine rk_seq ?_
    refine rk_region ?_
    refine ok_v (.d (.agg [.int .u8 0, .int .i64 0, .int .i64 0, .int .i64 0, .int .i64 0, .int .i64 0, .int .i64 0])) rfl rfl ?_
    refine ok_sto 1 (.dat 7 [[.int .u8 0, .int .i64 0, .int .i64 0, .int .i64 0, .int .i64 0, .int .i64 0, .int .i64 0]]) rfl rfl ?_
    refine ok_as rfl rfl ?_
    refine ok_nil ?_
    refine rk_ret ?_
    obtain rfl := someE h0
    exact finD (.inr rfl) (v := .d (.tup [.agg [.int .u8 0, .int .i64 0, .int .i64 0, .int .i64 0, .int .i64 0, .int .i64 0, .int .i64 0], .int .i64 8])) rfl rfl (.refl _)
  · refine rk_skip ?_
    refine rk_seq ?_
    refine rk_seq ?_
    refine rk_region ?_
    refine ok_mv rfl rfl ?_
    refine ok_v (.d (.bool (decide (p1 < 0)))) rfl rfl ?_
    obtain ⟨c3, h4, h0⟩ := bindE h0
    refine ok_cutQ 4 (fun A st => ∃ (j5 j6 j7 : V), st = A [(15, .d (.bool c3)), (14, j7), (13, j6), (12, j5)]) ?_ ?_
    · refine ok_mvB rfl rfl h4 (fun h4 => ?_) (fun h4 => ?_)
      · refine ok_sg rfl ?_
        refine ok_sg rfl ?_
        refine ok_v (.d (.bool true)) rfl rfl ?_
        refine ok_nil ?_
        obtain rfl := someE h4
        exact ⟨_, _, _, rfl⟩
      · refine ok_mv rfl rfl ?_
        refine ok_v (.d (.bool (decide (p1 > 1000000)))) rfl rfl ?_
        refine ok_v (.d (.bool (decide (p1 > 1000000)))) rfl rfl ?_
        refine ok_nil ?_
        obtain rfl := someE h4
        exact ⟨_, _, _, rfl⟩
    · rintro _ ⟨j5, j6, j7, rfl⟩
      refine ok_nil ?_
      refine rk_condH rfl h0 (fun _ h0 => ?_) (fun _ h0 => ?_)
      · refine rk_seq ?_
        refine rk_region ?_
        refine ok_v (.d (.agg [.int .u8 0, .int .i64 0, .int .i64 0, .int .i64 0, .int .i64 0, .int .i64 0, .int .i64 0])) rfl rfl ?_
        refine ok_sto 1 (.dat 7 [[.int .u8 0, .int .i64 0, .int .i64 0, .int .i64 0, .int .i64 0, .int .i64 0, .int .i64 0]]) rfl rfl ?_
        refine ok_as rfl rfl ?_
        refine ok_nil ?_
        refine rk_ret ?_
        obtain rfl := someE h0
        exact finD (.inr rfl) (v := .d (.tup [.agg [.int .u8 0, .int .i64 0, .int .i64 0, .int .i64 0, .int .i64 0, .int .i64 0, .int .i64 0], .int .i64 2])) rfl rfl (.refl _)
      · refine rk_skip ?_
        refine rk_seq ?_
        refine rk_seq ?_
        refine rk_region ?_
        refine ok_v (.ref 0 7 0 4) rfl rfl ?_
        refine ok_v (.ref 0 7 0 4) rfl rfl ?_
        refine ok_v (.d (.int .i64 p0.Size.X)) rfl rfl ?_
        refine ok_mv rfl rfl ?_
        refine ok_v (.d (.int .i64 (w64 (2 * p1)))) rfl rfl ?_
        refine ok_v (.d (.bool (decide (p0.Size.X < (w64 (2 * p1)))))) rfl rfl ?_
        obtain ⟨c8, h9, h0⟩ := bindE h0
        refine ok_cutQ 8 (fun A st => ∃ (j10 j11 j12 j13 j14 j15 j16 : V), st = A [(30, .d (.bool c8)), (29, j16), (28, j15), (27, j14), (26, j13), (25, j12), (24, j11), (23, j10)]) ?_ ?_
        · refine ok_mvB rfl rfl h9 (fun h9 => ?_) (fun h9 => ?_)
          · refine ok_sg rfl ?_
            refine ok_sg rfl ?_
            refine ok_sg rfl ?_
            refine ok_sg rfl ?_
            refine ok_sg rfl ?_
            refine ok_sg rfl ?_
            refine ok_v (.d (.bool true)) rfl rfl ?_
            refine ok_nil ?_
            obtain rfl := someE h9
            exact ⟨_, _, _, _, _, _, _, rfl⟩
          · refine ok_v (.ref 0 7 0 4) rfl rfl ?_
            refine ok_v (.ref 0 7 0 5) rfl rfl ?_
            refine ok_v (.d (.int .i64 p0.Size.Y)) rfl rfl ?_
            refine ok_mv rfl rfl ?_
            refine ok_v (.d (.int .i64 (w64 (2 * p1)))) rfl rfl ?_
            refine ok_v (.d (.bool (decide (p0.Size.Y < (w64 (2 * p1)))))) rfl rfl ?_
            refine ok_v (.d (.bool (decide (p0.Size.Y < (w64 (2 * p1)))))) rfl rfl ?_
            refine ok_nil ?_
            obtain rfl := someE h9
            exact ⟨_, _, _, _, _, _, _, rfl⟩
        · rintro _ ⟨j10, j11, j12, j13, j14, j15, j16, rfl⟩
          refine ok_nil ?_
          refine rk_condH rfl h0 (fun _ h0 => ?_) (fun _ h0 => ?_)
          · refine rk_seq ?_
            refine rk_region ?_
            refine ok_v (.d (.agg [.int .u8 0, .int .i64 0, .int .i64 0, .int .i64 0, .int .i64 0, .int .i64 0, .int .i64 0])) rfl rfl ?_
            refine ok_sto 1 (.dat 7 [[.int .u8 0, .int .i64 0, .int .i64 0, .int .i64 0, .int .i64 0, .int .i64 0, .int .i64 0]]) rfl rfl ?_
            refine ok_as rfl rfl ?_
            refine ok_nil ?_
            refine rk_ret ?_
            obtain rfl := someE h0
            exact finD (.inr rfl) (v := .d (.tup [.agg [.int .u8 0, .int .i64 0, .int .i64 0, .int .i64 0, .int .i64 0, .int .i64 0, .int .i64 0], .int .i64 16])) rfl rfl (.refl _)
          · refine rk_skip ?_
            refine rk_seq ?_
            refine rk_region ?_
            refine ok_v (.d (.agg [.int .u8 p0.Frame.Turn, .int .i64 p0.Frame.At.X, .int .i64 p0.Frame.At.Y, .int .i64 p0.Frame.At.Z, .int .i64 p0.Size.X, .int .i64 p0.Size.Y, .int .i64 p0.Size.Z])) rfl rfl ?_
            refine ok_mv rfl rfl ?_
            refine ok_mv rfl rfl ?_
            refine ok_v (.d (.agg [.int .i64 p1, .int .i64 p1, .int .i64 0])) rfl rfl ?_
            refine ok_v (.ref 0 7 0 4) rfl rfl ?_
            refine ok_v (.ref 0 7 0 4) rfl rfl ?_
            refine ok_v (.d (.int .i64 p0.Size.X)) rfl rfl ?_
            refine ok_mv rfl rfl ?_
            refine ok_v (.d (.int .i64 (w64 (2 * p1)))) rfl rfl ?_
            refine ok_v (.d (.int .i64 (w64 (p0.Size.X - (w64 (2 * p1)))))) rfl rfl ?_
            refine ok_v (.ref 0 7 0 4) rfl rfl ?_
            refine ok_v (.ref 0 7 0 5) rfl rfl ?_
            refine ok_v (.d (.int .i64 p0.Size.Y)) rfl rfl ?_
            refine ok_mv rfl rfl ?_
            refine ok_v (.d (.int .i64 (w64 (2 * p1)))) rfl rfl ?_
            refine ok_v (.d (.int .i64 (w64 (p0.Size.Y - (w64 (2 * p1)))))) rfl rfl ?_
            refine ok_v (.ref 0 7 0 4) rfl rfl ?_
            refine ok_v (.ref 0 7 0 6) rfl rfl ?_
            refine ok_v (.d (.int .i64 p0.Size.Z)) rfl rfl ?_
            refine ok_v (.d (.agg [.int .i64 (w64 (p0.Size.X - (w64 (2 * p1)))), .int .i64 (w64 (p0.Size.Y - (w64 (2 * p1)))), .int .i64 p0.Size.Z])) rfl rfl ?_
            obtain ⟨r17, h18, h0⟩ := bindE h0
            refine ok_pc [.d (.agg [.int .u8 p0.Frame.Turn, .int .i64 p0.Frame.At.X, .int .i64 p0.Frame.At.Y, .int .i64 p0.Frame.At.Z, .int .i64 p0.Size.X, .int .i64 p0.Size.Y, .int .i64 p0.Size.Z]), .d (.agg [.int .i64 p1, .int .i64 p1, .int .i64 0]), .d (.agg [.int .i64 (w64 (p0.Size.X - (w64 (2 * p1)))), .int .i64 (w64 (p0.Size.Y - (w64 (2 * p1)))), .int .i64 p0.Size.Z]), .d (.int .u8 0)] (r16_Inside_ok p0 ({ X := p1, Y := p1, Z := 0 } : api_Vec) ({ X := w64 (p0.Size.X - (w64 (2 * p1))), Y := w64 (p0.Size.Y - (w64 (2 * p1))), Z := p0.Size.Z } : api_Vec) 0 r17 h18) rfl rfl rfl (.inl rfl) ?_
            refine ok_v (.d (.agg [.int .u8 r17.1.Frame.Turn, .int .i64 r17.1.Frame.At.X, .int .i64 r17.1.Frame.At.Y, .int .i64 r17.1.Frame.At.Z, .int .i64 r17.1.Size.X, .int .i64 r17.1.Size.Y, .int .i64 r17.1.Size.Z])) rfl rfl ?_
            refine ok_v (.d (.int .i64 r17.2)) rfl rfl ?_
            refine ok_sto 1 (.dat 7 [[.int .u8 r17.1.Frame.Turn, .int .i64 r17.1.Frame.At.X, .int .i64 r17.1.Frame.At.Y, .int .i64 r17.1.Frame.At.Z, .int .i64 r17.1.Size.X, .int .i64 r17.1.Size.Y, .int .i64 r17.1.Size.Z]]) rfl rfl ?_
            refine ok_as rfl rfl ?_
            refine ok_nil ?_
            refine rk_ret ?_
            obtain rfl := someE h0
            exact finD (.inr rfl) (v := .d (.tup [.agg [.int .u8 r17.1.Frame.Turn, .int .i64 r17.1.Frame.At.X, .int .i64 r17.1.Frame.At.Y, .int .i64 r17.1.Frame.At.Z, .int .i64 r17.1.Size.X, .int .i64 r17.1.Size.Y, .int .i64 r17.1.Size.Z], .int .i64 r17.2])) rfl rfl (.refl _)

set_option maxRecDepth 100000 in
set_option maxHeartbeats 8000000 in
theorem l20_RaiseFaces_ok (p0 : api_Scope) (p1 : Int) (r : Bool) (h0 : l20_RaiseFaces p0 p1 = some r) : Pure Try.prog tab 3 [.agg [.int .u8 p0.Frame.Turn, .int .i64 p0.Frame.At.X, .int .i64 p0.Frame.At.Y, .int .i64 p0.Frame.At.Z, .int .i64 p0.Size.X, .int .i64 p0.Size.Y, .int .i64 p0.Size.Z], .int .i64 p1] (.bool r) := by
  unfold l20_RaiseFaces at h0
  refine pure_of_run Try.func3 rfl (by kernel_rfl) (by kernel_rfl) rfl ?_
  refine rk_seq ?_
  refine rk_region ?_
  refine ok_new (.ref 0 7 0 0) (.dat 7 [[.int .u8 p0.Frame.Turn, .int .i64 p0.Frame.At.X, .int .i64 p0.Frame.At.Y, .int .i64 p0.Frame.At.Z, .int .i64 p0.Size.X, .int .i64 p0.Size.Y, .int .i64 p0.Size.Z]]) rfl rfl ?_
  refine ok_as rfl rfl ?_
  refine ok_nil ?_
  refine rk_seq ?_
  refine rk_region ?_
  refine ok_v (.d (.agg [.int .u8 p0.Frame.Turn, .int .i64 p0.Frame.At.X, .int .i64 p0.Frame.At.Y, .int .i64 p0.Frame.At.Z, .int .i64 p0.Size.X, .int .i64 p0.Size.Y, .int .i64 p0.Size.Z])) rfl rfl ?_
  obtain ⟨r1, h2, h0⟩ := bindE h0
  refine ok_pc [.d (.agg [.int .u8 p0.Frame.Turn, .int .i64 p0.Frame.At.X, .int .i64 p0.Frame.At.Y, .int .i64 p0.Frame.At.Z, .int .i64 p0.Size.X, .int .i64 p0.Size.Y, .int .i64 p0.Size.Z])] (raise_Faces_ok p0 r1 h2) rfl rfl rfl (.inl rfl) ?_
  refine ok_mv rfl rfl ?_
  refine ok_v (.d (.agg [.int .u8 r1.1.1.Frame.Turn, .int .i64 r1.1.1.Frame.At.X, .int .i64 r1.1.1.Frame.At.Y, .int .i64 r1.1.1.Frame.At.Z, .int .i64 r1.1.1.Size.X, .int .i64 r1.1.1.Size.Y, .int .i64 r1.1.1.Size.Z, .int .u8 r1.1.2.1.Frame.Turn, .int .i64 r1.1.2.1.Frame.At.X, .int .i64 r1.1.2.1.Frame.At.Y, .int .i64 r1.1.2.1.Frame.At.Z, .int .i64 r1.1.2.1.Size.X, .int .i64 r1.1.2.1.Size.Y, .int .i64 r1.1.2.1.Size.Z, .int .u8 r1.1.2.2.1.Frame.Turn, .int .i64 r1.1.2.2.1.Frame.At.X, .int .i64 r1.1.2.2.1.Frame.At.Y, .int .i64 r1.1.2.2.1.Frame.At.Z, .int .i64 r1.1.2.2.1.Size.X, .int .i64 r1.1.2.2.1.Size.Y, .int .i64 r1.1.2.2.1.Size.Z, .int .u8 r1.1.2.2.2.1.Frame.Turn, .int .i64 r1.1.2.2.2.1.Frame.At.X, .int .i64 r1.1.2.2.2.1.Frame.At.Y, .int .i64 r1.1.2.2.2.1.Frame.At.Z, .int .i64 r1.1.2.2.2.1.Size.X, .int .i64 r1.1.2.2.2.1.Size.Y, .int .i64 r1.1.2.2.2.1.Size.Z, .int .u8 r1.1.2.2.2.2.1.Frame.Turn, .int .i64 r1.1.2.2.2.2.1.Frame.At.X, .int .i64 r1.1.2.2.2.2.1.Frame.At.Y, .int .i64 r1.1.2.2.2.2.1.Frame.At.Z, .int .i64 r1.1.2.2.2.2.1.Size.X, .int .i64 r1.1.2.2.2.2.1.Size.Y, .int .i64 r1.1.2.2.2.2.1.Size.Z, .int .u8 r1.1.2.2.2.2.2.Frame.Turn, .int .i64 r1.1.2.2.2.2.2.Frame.At.X, .int .i64 r1.1.2.2.2.2.2.Frame.At.Y, .int .i64 r1.1.2.2.2.2.2.Frame.At.Z, .int .i64 r1.1.2.2.2.2.2.Size.X, .int .i64 r1.1.2.2.2.2.2.Size.Y, .int .i64 r1.1.2.2.2.2.2.Size.Z])) rfl rfl ?_
  refine ok_v (.d (.int .i64 r1.2)) rfl rfl ?_
  refine ok_alloc rfl rfl ?_
  refine ok_sto 1 (.dat 42 [[.int .u8 r1.1.1.Frame.Turn, .int .i64 r1.1.1.Frame.At.X, .int .i64 r1.1.1.Frame.At.Y, .int .i64 r1.1.1.Frame.At.Z, .int .i64 r1.1.1.Size.X, .int .i64 r1.1.1.Size.Y, .int .i64 r1.1.1.Size.Z, .int .u8 r1.1.2.1.Frame.Turn, .int .i64 r1.1.2.1.Frame.At.X, .int .i64 r1.1.2.1.Frame.At.Y, .int .i64 r1.1.2.1.Frame.At.Z, .int .i64 r1.1.2.1.Size.X, .int .i64 r1.1.2.1.Size.Y, .int .i64 r1.1.2.1.Size.Z, .int .u8 r1.1.2.2.1.Frame.Turn, .int .i64 r1.1.2.2.1.Frame.At.X, .int .i64 r1.1.2.2.1.Frame.At.Y, .int .i64 r1.1.2.2.1.Frame.At.Z, .int .i64 r1.1.2.2.1.Size.X, .int .i64 r1.1.2.2.1.Size.Y, .int .i64 r1.1.2.2.1.Size.Z, .int .u8 r1.1.2.2.2.1.Frame.Turn, .int .i64 r1.1.2.2.2.1.Frame.At.X, .int .i64 r1.1.2.2.2.1.Frame.At.Y, .int .i64 r1.1.2.2.2.1.Frame.At.Z, .int .i64 r1.1.2.2.2.1.Size.X, .int .i64 r1.1.2.2.2.1.Size.Y, .int .i64 r1.1.2.2.2.1.Size.Z, .int .u8 r1.1.2.2.2.2.1.Frame.Turn, .int .i64 r1.1.2.2.2.2.1.Frame.At.X, .int .i64 r1.1.2.2.2.2.1.Frame.At.Y, .int .i64 r1.1.2.2.2.2.1.Frame.At.Z, .int .i64 r1.1.2.2.2.2.1.Size.X, .int .i64 r1.1.2.2.2.2.1.Size.Y, .int .i64 r1.1.2.2.2.2.1.Size.Z, .int .u8 r1.1.2.2.2.2.2.Frame.Turn, .int .i64 r1.1.2.2.2.2.2.Frame.At.X, .int .i64 r1.1.2.2.2.2.2.Frame.At.Y, .int .i64 r1.1.2.2.2.2.2.Frame.At.Z, .int .i64 r1.1.2.2.2.2.2.Size.X, .int .i64 r1.1.2.2.2.2.2.Size.Y, .int .i64 r1.1.2.2.2.2.2.Size.Z]]) rfl rfl ?_
  refine ok_as rfl rfl ?_
  refine ok_nil ?_
  refine rk_seq ?_
  refine rk_region ?_
  refine ok_v (.d (.agg [.int .u8 p0.Frame.Turn, .int .i64 p0.Frame.At.X, .int .i64 p0.Frame.At.Y, .int .i64 p0.Frame.At.Z, .int .i64 p0.Size.X, .int .i64 p0.Size.Y, .int .i64 p0.Size.Z])) rfl rfl ?_
  obtain ⟨r3, h4, h0⟩ := bindE h0
  refine ok_pc [.d (.agg [.int .u8 p0.Frame.Turn, .int .i64 p0.Frame.At.X, .int .i64 p0.Frame.At.Y, .int .i64 p0.Frame.At.Z, .int .i64 p0.Size.X, .int .i64 p0.Size.Y, .int .i64 p0.Size.Z])] (r20_Faces_ok p0 r3 h4) rfl rfl rfl (.inl rfl) ?_
  refine ok_mv rfl rfl ?_
  refine ok_v (.d (.agg [.int .u8 r3.1.1.Frame.Turn, .int .i64 r3.1.1.Frame.At.X, .int .i64 r3.1.1.Frame.At.Y, .int .i64 r3.1.1.Frame.At.Z, .int .i64 r3.1.1.Size.X, .int .i64 r3.1.1.Size.Y, .int .i64 r3.1.1.Size.Z, .int .u8 r3.1.2.1.Frame.Turn, .int .i64 r3.1.2.1.Frame.At.X, .int .i64 r3.1.2.1.Frame.At.Y, .int .i64 r3.1.2.1.Frame.At.Z, .int .i64 r3.1.2.1.Size.X, .int .i64 r3.1.2.1.Size.Y, .int .i64 r3.1.2.1.Size.Z, .int .u8 r3.1.2.2.1.Frame.Turn, .int .i64 r3.1.2.2.1.Frame.At.X, .int .i64 r3.1.2.2.1.Frame.At.Y, .int .i64 r3.1.2.2.1.Frame.At.Z, .int .i64 r3.1.2.2.1.Size.X, .int .i64 r3.1.2.2.1.Size.Y, .int .i64 r3.1.2.2.1.Size.Z, .int .u8 r3.1.2.2.2.1.Frame.Turn, .int .i64 r3.1.2.2.2.1.Frame.At.X, .int .i64 r3.1.2.2.2.1.Frame.At.Y, .int .i64 r3.1.2.2.2.1.Frame.At.Z, .int .i64 r3.1.2.2.2.1.Size.X, .int .i64 r3.1.2.2.2.1.Size.Y, .int .i64 r3.1.2.2.2.1.Size.Z, .int .u8 r3.1.2.2.2.2.1.Frame.Turn, .int .i64 r3.1.2.2.2.2.1.Frame.At.X, .int .i64 r3.1.2.2.2.2.1.Frame.At.Y, .int .i64 r3.1.2.2.2.2.1.Frame.At.Z, .int .i64 r3.1.2.2.2.2.1.Size.X, .int .i64 r3.1.2.2.2.2.1.Size.Y, .int .i64 r3.1.2.2.2.2.1.Size.Z, .int .u8 r3.1.2.2.2.2.2.Frame.Turn, .int .i64 r3.1.2.2.2.2.2.Frame.At.X, .int .i64 r3.1.2.2.2.2.2.Frame.At.Y, .int .i64 r3.1.2.2.2.2.2.Frame.At.Z, .int .i64 r3.1.2.2.2.2.2.Size.X, .int .i64 r3.1.2.2.2.2.2.Size.Y, .int .i64 r3.1.2.2.2.2.2.Size.Z])) rfl rfl ?_
  refine ok_v (.d (.int .i64 r3.2)) rfl rfl ?_
  refine ok_alloc rfl rfl ?_
  refine ok_sto 2 (.dat 42 [[.int .u8 r3.1.1.Frame.Turn, .int .i64 r3.1.1.Frame.At.X, .int .i64 r3.1.1.Frame.At.Y, .int .i64 r3.1.1.Frame.At.Z, .int .i64 r3.1.1.Size.X, .int .i64 r3.1.1.Size.Y, .int .i64 r3.1.1.Size.Z, .int .u8 r3.1.2.1.Frame.Turn, .int .i64 r3.1.2.1.Frame.At.X, .int .i64 r3.1.2.1.Frame.At.Y, .int .i64 r3.1.2.1.Frame.At.Z, .int .i64 r3.1.2.1.Size.X, .int .i64 r3.1.2.1.Size.Y, .int .i64 r3.1.2.1.Size.Z, .int .u8 r3.1.2.2.1.Frame.Turn, .int .i64 r3.1.2.2.1.Frame.At.X, .int .i64 r3.1.2.2.1.Frame.At.Y, .int .i64 r3.1.2.2.1.Frame.At.Z, .int .i64 r3.1.2.2.1.Size.X, .int .i64 r3.1.2.2.1.Size.Y, .int .i64 r3.1.2.2.1.Size.Z, .int .u8 r3.1.2.2.2.1.Frame.Turn, .int .i64 r3.1.2.2.2.1.Frame.At.X, .int .i64 r3.1.2.2.2.1.Frame.At.Y, .int .i64 r3.1.2.2.2.1.Frame.At.Z, .int .i64 r3.1.2.2.2.1.Size.X, .int .i64 r3.1.2.2.2.1.Size.Y, .int .i64 r3.1.2.2.2.1.Size.Z, .int .u8 r3.1.2.2.2.2.1.Frame.Turn, .int .i64 r3.1.2.2.2.2.1.Frame.At.X, .int .i64 r3.1.2.2.2.2.1.Frame.At.Y, .int .i64 r3.1.2.2.2.2.1.Frame.At.Z, .int .i64 r3.1.2.2.2.2.1.Size.X, .int .i64 r3.1.2.2.2.2.1.Size.Y, .int .i64 r3.1.2.2.2.2.1.Size.Z, .int .u8 r3.1.2.2.2.2.2.Frame.Turn, .int .i64 r3.1.2.2.2.2.2.Frame.At.X, .int .i64 r3.1.2.2.2.2.2.Frame.At.Y, .int .i64 r3.1.2.2.2.2.2.Frame.At.Z, .int .i64 r3.1.2.2.2.2.2.Size.X, .int .i64 r3.1.2.2.2.2.2.Size.Y, .int .i64 r3.1.2.2.2.2.2.Size.Z]]) rfl rfl ?_
  refine ok_as rfl rfl ?_
  refine ok_nil ?_
  refine rk_seq ?_
  refine rk_region ?_
  refine ok_v (.d (.agg [.int .u8 p0.Frame.Turn, .int .i64 p0.Frame.At.X, .int .i64 p0.Frame.At.Y, .int .i64 p0.Frame.At.Z, .int .i64 p0.Size.X, .int .i64 p0.Size.Y, .int .i64 p0.Size.Z])) rfl rfl ?_
  refine ok_mv rfl rfl ?_
  obtain ⟨r5, h6, h0⟩ := bindE h0
  refine ok_pc [.d (.agg [.int .u8 p0.Frame.Turn, .int .i64 p0.Frame.At.X, .int .i64 p0.Frame.At.Y, .int .i64 p0.Frame.At.Z, .int .i64 p0.Size.X, .int .i64 p0.Size.Y, .int .i64 p0.Size.Z]), .d (.int .i64 p1)] (raise_Raise_ok p0 p1 r5 h6) rfl rfl rfl (.inl rfl) ?_
  refine ok_mv rfl rfl ?_
  refine ok_v (.d (.agg [.int .u8 r5.1.Frame.Turn, .int .i64 r5.1.Frame.At.X, .int .i64 r5.1.Frame.At.Y, .int .i64 r5.1.Frame.At.Z, .int .i64 r5.1.Size.X, .int .i64 r5.1.Size.Y, .int .i64 r5.1.Size.Z])) rfl rfl ?_
  refine ok_v (.d (.int .i64 r5.2)) rfl rfl ?_
  refine ok_alloc rfl rfl ?_
  refine ok_sto 3 (.dat 7 [[.int .u8 r5.1.Frame.Turn, .int .i64 r5.1.Frame.At.X, .int .i64 r5.1.Frame.At.Y, .int .i64 r5.1.Frame.At.Z, .int .i64 r5.1.Size.X, .int .i64 r5.1.Size.Y, .int .i64 r5.1.Size.Z]]) rfl rfl ?_
  refine ok_as rfl rfl ?_
  refine ok_nil ?_
  refine rk_seq ?_
  refine rk_region ?_
  refine ok_v (.d (.agg [.int .u8 p0.Frame.Turn, .int .i64 p0.Frame.At.X, .int .i64 p0.Frame.At.Y, .int .i64 p0.Frame.At.Z, .int .i64 p0.Size.X, .int .i64 p0.Size.Y, .int .i64 p0.Size.Z])) rfl rfl ?_
  refine ok_mv rfl rfl ?_
  obtain ⟨r7, h8, h0⟩ := bindE h0
  refine ok_pc [.d (.agg [.int .u8 p0.Frame.Turn, .int .i64 p0.Frame.At.X, .int .i64 p0.Frame.At.Y, .int .i64 p0.Frame.At.Z, .int .i64 p0.Size.X, .int .i64 p0.Size.Y, .int .i64 p0.Size.Z]), .d (.int .i64 p1)] (r20_Raise_ok p0 p1 r7 h8) rfl rfl rfl (.inl rfl) ?_
  refine ok_mv rfl rfl ?_
  refine ok_v (.d (.agg [.int .u8 r7.1.Frame.Turn, .int .i64 r7.1.Frame.At.X, .int .i64 r7.1.Frame.At.Y, .int .i64 r7.1.Frame.At.Z, .int .i64 r7.1.Size.X, .int .i64 r7.1.Size.Y, .int .i64 r7.1.Size.Z])) rfl rfl ?_
  refine ok_v (.d (.int .i64 r7.2)) rfl rfl ?_
  refine ok_alloc rfl rfl ?_
  refine ok_sto 4 (.dat 7 [[.int .u8 r7.1.Frame.Turn, .int .i64 r7.1.Frame.At.X, .int .i64 r7.1.Frame.At.Y, .int .i64 r7.1.Frame.At.Z, .int .i64 r7.1.Size.X, .int .i64 r7.1.Size.Y, .int .i64 r7.1.Size.Z]]) rfl rfl ?_
  refine ok_as rfl rfl ?_
  refine ok_nil ?_
  refine rk_seq ?_
  refine rk_region ?_
  refine ok_v (.d (.agg [.int .u8 p0.Frame.Turn, .int .i64 p0.Frame.At.X, .int .i64 p0.Frame.At.Y, .int .i64 p0.Frame.At.Z, .int .i64 p0.Size.X, .int .i64 p0.Size.Y, .int .i64 p0.Size.Z])) rfl rfl ?_
  refine ok_mv rfl rfl ?_
  obtain ⟨r9, h10, h0⟩ := bindE h0
  refine ok_pc [.d (.agg [.int .u8 p0.Frame.Turn, .int .i64 p0.Frame.At.X, .int .i64 p0.Frame.At.Y, .int .i64 p0.Frame.At.Z, .int .i64 p0.Size.X, .int .i64 p0.Size.Y, .int .i64 p0.Size.Z]), .d (.int .i64 p1)] (raise_Inset_ok p0 p1 r9 h10) rfl rfl rfl (.inl rfl) ?_
  refine ok_mv rfl rfl ?_
  refine ok_v (.d (.agg [.int .u8 r9.1.Frame.Turn, .int .i64 r9.1.Frame.At.X, .int .i64 r9.1.Frame.At.Y, .int .i64 r9.1.Frame.At.Z, .int .i64 r9.1.Size.X, .int .i64 r9.1.Size.Y, .int .i64 r9.1.Size.Z])) rfl rfl ?_
  refine ok_v (.d (.int .i64 r9.2)) rfl rfl ?_
  refine ok_alloc rfl rfl ?_
  refine ok_sto 5 (.dat 7 [[.int .u8 r9.1.Frame.Turn, .int .i64 r9.1.Frame.At.X, .int .i64 r9.1.Frame.At.Y, .int .i64 r9.1.Frame.At.Z, .int .i64 r9.1.Size.X, .int .i64 r9.1.Size.Y, .int .i64 r9.1.Size.Z]]) rfl rfl ?_
  refine ok_as rfl rfl ?_
  refine ok_nil ?_
  refine rk_seq ?_
  refine rk_region ?_
  refine ok_v (.d (.agg [.int .u8 p0.Frame.Turn, .int .i64 p0.Frame.At.X, .int .i64 p0.Frame.At.Y, .int .i64 p0.Frame.At.Z, .int .i64 p0.Size.X, .int .i64 p0.Size.Y, .int .i64 p0.Size.Z])) rfl rfl ?_
  refine ok_mv rfl rfl ?_
  obtain ⟨r11, h12, h0⟩ := bindE h0
  refine ok_pc [.d (.agg [.int .u8 p0.Frame.Turn, .int .i64 p0.Frame.At.X, .int .i64 p0.Frame.At.Y, .int .i64 p0.Frame.At.Z, .int .i64 p0.Size.X, .int .i64 p0.Size.Y, .int .i64 p0.Size.Z]), .d (.int .i64 p1)] (r20_Inset_ok p0 p1 r11 h12) rfl rfl rfl (.inl rfl) ?_
  refine ok_mv rfl rfl ?_
  refine ok_v (.d (.agg [.int .u8 r11.1.Frame.Turn, .int .i64 r11.1.Frame.At.X, .int .i64 r11.1.Frame.At.Y, .int .i64 r11.1.Frame.At.Z, .int .i64 r11.1.Size.X, .int .i64 r11.1.Size.Y, .int .i64 r11.1.Size.Z])) rfl rfl ?_
  refine ok_v (.d (.int .i64 r11.2)) rfl rfl ?_
  refine ok_alloc rfl rfl ?_
  refine ok_sto 6 (.dat 7 [[.int .u8 r11.1.Frame.Turn, .int .i64 r11.1.Frame.At.X, .int .i64 r11.1.Frame.At.Y, .int .i64 r11.1.Frame.At.Z, .int .i64 r11.1.Size.X, .int .i64 r11.1.Size.Y, .int .i64 r11.1.Size.Z]]) rfl rfl ?_
  refine ok_as rfl rfl ?_
  refine ok_nil ?_
  refine rk_seq ?_
  refine rk_region ?_
  refine ok_v (.d (.agg [.int .u8 r1.1.1.Frame.Turn, .int .i64 r1.1.1.Frame.At.X, .int .i64 r1.1.1.Frame.At.Y, .int .i64 r1.1.1.Frame.At.Z, .int .i64 r1.1.1.Size.X, .int .i64 r1.1.1.Size.Y, .int .i64 r1.1.1.Size.Z, .int .u8 r1.1.2.1.Frame.Turn, .int .i64 r1.1.2.1.Frame.At.X, .int .i64 r1.1.2.1.Frame.At.Y, .int .i64 r1.1.2.1.Frame.At.Z, .int .i64 r1.1.2.1.Size.X, .int .i64 r1.1.2.1.Size.Y, .int .i64 r1.1.2.1.Size.Z, .int .u8 r1.1.2.2.1.Frame.Turn, .int .i64 r1.1.2.2.1.Frame.At.X, .int .i64 r1.1.2.2.1.Frame.At.Y, .int .i64 r1.1.2.2.1.Frame.At.Z, .int .i64 r1.1.2.2.1.Size.X, .int .i64 r1.1.2.2.1.Size.Y, .int .i64 r1.1.2.2.1.Size.Z, .int .u8 r1.1.2.2.2.1.Frame.Turn, .int .i64 r1.1.2.2.2.1.Frame.At.X, .int .i64 r1.1.2.2.2.1.Frame.At.Y, .int .i64 r1.1.2.2.2.1.Frame.At.Z, .int .i64 r1.1.2.2.2.1.Size.X, .int .i64 r1.1.2.2.2.1.Size.Y, .int .i64 r1.1.2.2.2.1.Size.Z, .int .u8 r1.1.2.2.2.2.1.Frame.Turn, .int .i64 r1.1.2.2.2.2.1.Frame.At.X, .int .i64 r1.1.2.2.2.2.1.Frame.At.Y, .int .i64 r1.1.2.2.2.2.1.Frame.At.Z, .int .i64 r1.1.2.2.2.2.1.Size.X, .int .i64 r1.1.2.2.2.2.1.Size.Y, .int .i64 r1.1.2.2.2.2.1.Size.Z, .int .u8 r1.1.2.2.2.2.2.Frame.Turn, .int .i64 r1.1.2.2.2.2.2.Frame.At.X, .int .i64 r1.1.2.2.2.2.2.Frame.At.Y, .int .i64 r1.1.2.2.2.2.2.Frame.At.Z, .int .i64 r1.1.2.2.2.2.2.Size.X, .int .i64 r1.1.2.2.2.2.2.Size.Y, .int .i64 r1.1.2.2.2.2.2.Size.Z])) rfl rfl ?_
  refine ok_v (.d (.agg [.int .u8 r3.1.1.Frame.Turn, .int .i64 r3.1.1.Frame.At.X, .int .i64 r3.1.1.Frame.At.Y, .int .i64 r3.1.1.Frame.At.Z, .int .i64 r3.1.1.Size.X, .int .i64 r3.1.1.Size.Y, .int .i64 r3.1.1.Size.Z, .int .u8 r3.1.2.1.Frame.Turn, .int .i64 r3.1.2.1.Frame.At.X, .int .i64 r3.1.2.1.Frame.At.Y, .int .i64 r3.1.2.1.Frame.At.Z, .int .i64 r3.1.2.1.Size.X, .int .i64 r3.1.2.1.Size.Y, .int .i64 r3.1.2.1.Size.Z, .int .u8 r3.1.2.2.1.Frame.Turn, .int .i64 r3.1.2.2.1.Frame.At.X, .int .i64 r3.1.2.2.1.Frame.At.Y, .int .i64 r3.1.2.2.1.Frame.At.Z, .int .i64 r3.1.2.2.1.Size.X, .int .i64 r3.1.2.2.1.Size.Y, .int .i64 r3.1.2.2.1.Size.Z, .int .u8 r3.1.2.2.2.1.Frame.Turn, .int .i64 r3.1.2.2.2.1.Frame.At.X, .int .i64 r3.1.2.2.2.1.Frame.At.Y, .int .i64 r3.1.2.2.2.1.Frame.At.Z, .int .i64 r3.1.2.2.2.1.Size.X, .int .i64 r3.1.2.2.2.1.Size.Y, .int .i64 r3.1.2.2.2.1.Size.Z, .int .u8 r3.1.2.2.2.2.1.Frame.Turn, .int .i64 r3.1.2.2.2.2.1.Frame.At.X, .int .i64 r3.1.2.2.2.2.1.Frame.At.Y, .int .i64 r3.1.2.2.2.2.1.Frame.At.Z, .int .i64 r3.1.2.2.2.2.1.Size.X, .int .i64 r3.1.2.2.2.2.1.Size.Y, .int .i64 r3.1.2.2.2.2.1.Size.Z, .int .u8 r3.1.2.2.2.2.2.Frame.Turn, .int .i64 r3.1.2.2.2.2.2.Frame.At.X, .int .i64 r3.1.2.2.2.2.2.Frame.At.Y, .int .i64 r3.1.2.2.2.2.2.Frame.At.Z, .int .i64 r3.1.2.2.2.2.2.Size.X, .int .i64 r3.1.2.2.2.2.2.Size.Y, .int .i64 r3.1.2.2.2.2.2.Size.Z])) rfl rfl ?_
  refine ok_v (.d (.bool ((r1.1.1.Frame.Turn == r3.1.1.Frame.Turn) && ((r1.1.1.Frame.At.X == r3.1.1.Frame.At.X) && ((r1.1.1.Frame.At.Y == r3.1.1.Frame.At.Y) && ((r1.1.1.Frame.At.Z == r3.1.1.Frame.At.Z) && ((r1.1.1.Size.X == r3.1.1.Size.X) && ((r1.1.1.Size.Y == r3.1.1.Size.Y) && ((r1.1.1.Size.Z == r3.1.1.Size.Z) && ((r1.1.2.1.Frame.Turn == r3.1.2.1.Frame.Turn) && ((r1.1.2.1.Frame.At.X == r3.1.2.1.Frame.At.X) && ((r1.1.2.1.Frame.At.Y == r3.1.2.1.Frame.At.Y) && ((r1.1.2.1.Frame.At.Z == r3.1.2.1.Frame.At.Z) && ((r1.1.2.1.Size.X == r3.1.2.1.Size.X) && ((r1.1.2.1.Size.Y == r3.1.2.1.Size.Y) && ((r1.1.2.1.Size.Z == r3.1.2.1.Size.Z) && ((r1.1.2.2.1.Frame.Turn == r3.1.2.2.1.Frame.Turn) && ((r1.1.2.2.1.Frame.At.X == r3.1.2.2.1.Frame.At.X) && ((r1.1.2.2.1.Frame.At.Y == r3.1.2.2.1.Frame.At.Y) && ((r1.1.2.2.1.Frame.At.Z == r3.1.2.2.1.Frame.At.Z) && ((r1.1.2.2.1.Size.X == r3.1.2.2.1.Size.X) && ((r1.1.2.2.1.Size.Y == r3.1.2.2.1.Size.Y) && ((r1.1.2.2.1.Size.Z == r3.1.2.2.1.Size.Z) && ((r1.1.2.2.2.1.Frame.Turn == r3.1.2.2.2.1.Frame.Turn) && ((r1.1.2.2.2.1.Frame.At.X == r3.1.2.2.2.1.Frame.At.X) && ((r1.1.2.2.2.1.Frame.At.Y == r3.1.2.2.2.1.Frame.At.Y) && ((r1.1.2.2.2.1.Frame.At.Z == r3.1.2.2.2.1.Frame.At.Z) && ((r1.1.2.2.2.1.Size.X == r3.1.2.2.2.1.Size.X) && ((r1.1.2.2.2.1.Size.Y == r3.1.2.2.2.1.Size.Y) && ((r1.1.2.2.2.1.Size.Z == r3.1.2.2.2.1.Size.Z) && ((r1.1.2.2.2.2.1.Frame.Turn == r3.1.2.2.2.2.1.Frame.Turn) && ((r1.1.2.2.2.2.1.Frame.At.X == r3.1.2.2.2.2.1.Frame.At.X) && ((r1.1.2.2.2.2.1.Frame.At.Y == r3.1.2.2.2.2.1.Frame.At.Y) && ((r1.1.2.2.2.2.1.Frame.At.Z == r3.1.2.2.2.2.1.Frame.At.Z) && ((r1.1.2.2.2.2.1.Size.X == r3.1.2.2.2.2.1.Size.X) && ((r1.1.2.2.2.2.1.Size.Y == r3.1.2.2.2.2.1.Size.Y) && ((r1.1.2.2.2.2.1.Size.Z == r3.1.2.2.2.2.1.Size.Z) && ((r1.1.2.2.2.2.2.Frame.Turn == r3.1.2.2.2.2.2.Frame.Turn) && ((r1.1.2.2.2.2.2.Frame.At.X == r3.1.2.2.2.2.2.Frame.At.X) && ((r1.1.2.2.2.2.2.Frame.At.Y == r3.1.2.2.2.2.2.Frame.At.Y) && ((r1.1.2.2.2.2.2.Frame.At.Z == r3.1.2.2.2.2.2.Frame.At.Z) && ((r1.1.2.2.2.2.2.Size.X == r3.1.2.2.2.2.2.Size.X) && ((r1.1.2.2.2.2.2.Size.Y == r3.1.2.2.2.2.2.Size.Y) && ((r1.1.2.2.2.2.2.Size.Z == r3.1.2.2.2.2.2.Size.Z) && true)))))))))))))))))))))))))))))))))))))))))))) rfl rfl ?_
  obtain ⟨c13, h14, h0⟩ := bindE h0
  refine ok_cutQ 5 (fun A st => ∃ (j15 j16 j17 j18 : V), st = A [(58, .d (.bool c13)), (57, j18), (56, j17), (55, j16), (54, j15)]) ?_ ?_
  · refine ok_mvB rfl rfl h14 (fun h14 => ?_) (fun h14 => ?_)
    · refine ok_mv rfl rfl ?_
      refine ok_mv rfl rfl ?_
      refine ok_v (.d (.bool (r1.2 == r3.2))) rfl rfl ?_
      refine ok_v (.d (.bool (r1.2 == r3.2))) rfl rfl ?_
      refine ok_nil ?_
      obtain rfl := someE h14
      exact ⟨_, _, _, _, rfl⟩
    · refine ok_sg rfl ?_
      refine ok_sg rfl ?_
      refine ok_sg rfl ?_
      refine ok_v (.d (.bool false)) rfl rfl ?_
      refine ok_nil ?_
      obtain rfl := someE h14
      exact ⟨_, _, _, _, rfl⟩
  · rintro _ ⟨j15, j16, j17, j18, rfl⟩
    obtain ⟨c19, h20, h0⟩ := bindE h0
    refine ok_cutQ 5 (fun A st => ∃ (j21 j22 j23 j24 : V), st = A [(63, .d (.bool c19)), (62, j24), (61, j23), (60, j22), (59, j21)]) ?_ ?_
    · refine ok_mvB rfl rfl h20 (fun h20 => ?_) (fun h20 => ?_)
      · refine ok_v (.d (.agg [.int .u8 r5.1.Frame.Turn, .int .i64 r5.1.Frame.At.X, .int .i64 r5.1.Frame.At.Y, .int .i64 r5.1.Frame.At.Z, .int .i64 r5.1.Size.X, .int .i64 r5.1.Size.Y, .int .i64 r5.1.Size.Z])) rfl rfl ?_
        refine ok_v (.d (.agg [.int .u8 r7.1.Frame.Turn, .int .i64 r7.1.Frame.At.X, .int .i64 r7.1.Frame.At.Y, .int .i64 r7.1.Frame.At.Z, .int .i64 r7.1.Size.X, .int .i64 r7.1.Size.Y, .int .i64 r7.1.Size.Z])) rfl rfl ?_
        refine ok_v (.d (.bool ((r5.1.Frame.Turn == r7.1.Frame.Turn) && ((r5.1.Frame.At.X == r7.1.Frame.At.X) && ((r5.1.Frame.At.Y == r7.1.Frame.At.Y) && ((r5.1.Frame.At.Z == r7.1.Frame.At.Z) && ((r5.1.Size.X == r7.1.Size.X) && ((r5.1.Size.Y == r7.1.Size.Y) && ((r5.1.Size.Z == r7.1.Size.Z) && true))))))))) rfl rfl ?_
        refine ok_v (.d (.bool ((r5.1.Frame.Turn == r7.1.Frame.Turn) && ((r5.1.Frame.At.X == r7.1.Frame.At.X) && ((r5.1.Frame.At.Y == r7.1.Frame.At.Y) && ((r5.1.Frame.At.Z == r7.1.Frame.At.Z) && ((r5.1.Size.X == r7.1.Size.X) && ((r5.1.Size.Y == r7.1.Size.Y) && ((r5.1.Size.Z == r7.1.Size.Z) && true))))))))) rfl rfl ?_
        refine ok_nil ?_
        obtain rfl := someE h20
        exact ⟨_, _, _, _, rfl⟩
      · refine ok_sg rfl ?_
        refine ok_sg rfl ?_
        refine ok_sg rfl ?_
        refine ok_v (.d (.bool false)) rfl rfl ?_
        refine ok_nil ?_
        obtain rfl := someE h20
        exact ⟨_, _, _, _, rfl⟩
    · rintro _ ⟨j21, j22, j23, j24, rfl⟩
      obtain ⟨c25, h26, h0⟩ := bindE h0
      refine ok_cutQ 5 (fun A st => ∃ (j27 j28 j29 j30 : V), st = A [(68, .d (.bool c25)), (67, j30), (66, j29), (65, j28), (64, j27)]) ?_ ?_
      · refine ok_mvB rfl rfl h26 (fun h26 => ?_) (fun h26 => ?_)
        · refine ok_mv rfl rfl ?_
          refine ok_mv rfl rfl ?_
          refine ok_v (.d (.bool (r5.2 == r7.2))) rfl rfl ?_
          refine ok_v (.d (.bool (r5.2 == r7.2))) rfl rfl ?_
          refine ok_nil ?_
          obtain rfl := someE h26
          exact ⟨_, _, _, _, rfl⟩
        · refine ok_sg rfl ?_
          refine ok_sg rfl ?_
          refine ok_sg rfl ?_
          refine ok_v (.d (.bool false)) rfl rfl ?_
          refine ok_nil ?_
          obtain rfl := someE h26
          exact ⟨_, _, _, _, rfl⟩
      · rintro _ ⟨j27, j28, j29, j30, rfl⟩
        obtain ⟨c31, h32, h0⟩ := bindE h0
        refine ok_cutQ 5 (fun A st => ∃ (j33 j34 j35 j36 : V), st = A [(73, .d (.bool c31)), (72, j36), (71, j35), (70, j34), (69, j33)]) ?_ ?_
        · refine ok_mvB rfl rfl h32 (fun h32 => ?_) (fun h32 => ?_)
          · refine ok_v (.d (.agg [.int .u8 r9.1.Frame.Turn, .int .i64 r9.1.Frame.At.X, .int .i64 r9.1.Frame.At.Y, .int .i64 r9.1.Frame.At.Z, .int .i64 r9.1.Size.X, .int .i64 r9.1.Size.Y, .int .i64 r9.1.Size.Z])) rfl rfl ?_
            refine ok_v (.d (.agg [.int .u8 r11.1.Frame.Turn, .int .i64 r11.1.Frame.At.X, .int .i64 r11.1.Frame.At.Y, .int .i64 r11.1.Frame.At.Z, .int .i64 r11.1.Size.X, .int .i64 r11.1.Size.Y, .int .i64 r11.1.Size.Z])) rfl rfl ?_
            refine ok_v (.d (.bool ((r9.1.Frame.Turn == r11.1.Frame.Turn) && ((r9.1.Frame.At.X == r11.1.Frame.At.X) && ((r9.1.Frame.At.Y == r11.1.Frame.At.Y) && ((r9.1.Frame.At.Z == r11.1.Frame.At.Z) && ((r9.1.Size.X == r11.1.Size.X) && ((r9.1.Size.Y == r11.1.Size.Y) && ((r9.1.Size.Z == r11.1.Size.Z) && true))))))))) rfl rfl ?_
            refine ok_v (.d (.bool ((r9.1.Frame.Turn == r11.1.Frame.Turn) && ((r9.1.Frame.At.X == r11.1.Frame.At.X) && ((r9.1.Frame.At.Y == r11.1.Frame.At.Y) && ((r9.1.Frame.At.Z == r11.1.Frame.At.Z) && ((r9.1.Size.X == r11.1.Size.X) && ((r9.1.Size.Y == r11.1.Size.Y) && ((r9.1.Size.Z == r11.1.Size.Z) && true))))))))) rfl rfl ?_
            refine ok_nil ?_
            obtain rfl := someE h32
            exact ⟨_, _, _, _, rfl⟩
          · refine ok_sg rfl ?_
            refine ok_sg rfl ?_
            refine ok_sg rfl ?_
            refine ok_v (.d (.bool false)) rfl rfl ?_
            refine ok_nil ?_
            obtain rfl := someE h32
            exact ⟨_, _, _, _, rfl⟩
        · rintro _ ⟨j33, j34, j35, j36, rfl⟩
          obtain ⟨c37, h38, h0⟩ := bindE h0
          refine ok_cutQ 5 (fun A st => ∃ (j39 j40 j41 j42 : V), st = A [(78, .d (.bool c37)), (77, j42), (76, j41), (75, j40), (74, j39)]) ?_ ?_
          · refine ok_mvB rfl rfl h38 (fun h38 => ?_) (fun h38 => ?_)
            · refine ok_mv rfl rfl ?_
              refine ok_mv rfl rfl ?_
              refine ok_v (.d (.bool (r9.2 == r11.2))) rfl rfl ?_
              refine ok_v (.d (.bool (r9.2 == r11.2))) rfl rfl ?_
              refine ok_nil ?_
              obtain rfl := someE h38
              exact ⟨_, _, _, _, rfl⟩
            · refine ok_sg rfl ?_
              refine ok_sg rfl ?_
              refine ok_sg rfl ?_
              refine ok_v (.d (.bool false)) rfl rfl ?_
              refine ok_nil ?_
              obtain rfl := someE h38
              exact ⟨_, _, _, _, rfl⟩
          · rintro _ ⟨j39, j40, j41, j42, rfl⟩
            refine ok_as rfl rfl ?_
            refine ok_nil ?_
            refine rk_ret ?_
            obtain rfl := someE h0
            exact finD (.inr rfl) (v := .d (.bool c37)) rfl rfl (.refl _)
end Go.Proofs.Ytlchefooafpdlaa
