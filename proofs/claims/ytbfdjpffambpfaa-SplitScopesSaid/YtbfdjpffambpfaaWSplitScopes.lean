/- THE WALKS, lifted by program. -/
import Derived.Test.YtbfdjpffambpfaaPsplit
import Derived.Test.YtbfdjpffambpfaaTabsplit
namespace Go.Proofs.Ytbfdjpffambpfaa
open Go Go.Am Go.Sh
theorem frame_fine_ok (p0 : api_Vec) (p1 : Int) (r : Bool) (h0 : frame_fine p0 p1 = some r) : Pure Try.prog tab 56 [.agg [.int .i64 p0.X, .int .i64 p0.Y, .int .i64 p0.Z], .int .i64 p1] (.bool r) := by
  unfold frame_fine at h0
  refine pure_of_run Try.func56 rfl (by kernel_rfl) (by kernel_rfl) rfl ?_
  refine rk_seq ?_
  refine rk_region ?_
  refine ok_new (.ref 0 3 0 0) (.dat 3 [[.int .i64 p0.X, .int .i64 p0.Y, .int .i64 p0.Z]]) rfl rfl ?_
  refine ok_as rfl rfl ?_
  refine ok_nil ?_
  refine rk_seq ?_
  refine rk_region ?_
  refine ok_v (.ref 0 3 0 0) rfl rfl ?_
  refine ok_v (.d (.int .i64 p0.X)) rfl rfl ?_
  refine ok_v (.ref 0 3 0 1) rfl rfl ?_
  refine ok_v (.d (.int .i64 p0.Y)) rfl rfl ?_
  refine ok_v (.ref 0 3 0 2) rfl rfl ?_
  refine ok_v (.d (.int .i64 p0.Z)) rfl rfl ?_
  refine ok_min (r := min (min p0.X p0.Y) p0.Z) rfl rfl (by simp only [minI_min]; rfl) ?_
  refine ok_mv rfl rfl ?_
  refine ok_v (.d (.bool (decide ((min (min p0.X p0.Y) p0.Z) ≥ p1)))) rfl rfl ?_
  obtain ⟨c1, h2, h0⟩ := bindE h0
  refine ok_cutQ 10 (fun A st => ∃ (j3 j4 j5 j6 j7 j8 j9 j10 j11 : V), st = A [(23, .d (.bool c1)), (22, j11), (21, j10), (20, j9), (19, j8), (18, j7), (17, j6), (16, j5), (15, j4), (14, j3)]) ?_ ?_
  · refine ok_mvB rfl rfl h2 (fun h2 => ?_) (fun h2 => ?_)
    · refine ok_v (.ref 0 3 0 0) rfl rfl ?_
      refine ok_v (.d (.int .i64 p0.X)) rfl rfl ?_
      refine ok_v (.ref 0 3 0 1) rfl rfl ?_
      refine ok_v (.d (.int .i64 p0.Y)) rfl rfl ?_
      refine ok_v (.ref 0 3 0 2) rfl rfl ?_
      refine ok_v (.d (.int .i64 p0.Z)) rfl rfl ?_
      refine ok_max (r := max (max p0.X p0.Y) p0.Z) rfl rfl (by simp only [minI_max]; rfl) ?_
      refine ok_v (.d (.bool (decide ((max (max p0.X p0.Y) p0.Z) ≤ 1000000)))) rfl rfl ?_
      refine ok_v (.d (.bool (decide ((max (max p0.X p0.Y) p0.Z) ≤ 1000000)))) rfl rfl ?_
      refine ok_nil ?_
      obtain rfl := someE h2
      exact ⟨_, _, _, _, _, _, _, _, _, rfl⟩
    · refine ok_sg rfl ?_
      refine ok_sg rfl ?_
      refine ok_sg rfl ?_
      refine ok_sg rfl ?_
      refine ok_sg rfl ?_
      refine ok_sg rfl ?_
      refine ok_sg rfl ?_
      refine ok_sg rfl ?_
      refine ok_v (.d (.bool false)) rfl rfl ?_
      refine ok_nil ?_
      obtain rfl := someE h2
      exact ⟨_, _, _, _, _, _, _, _, _, rfl⟩
  · rintro _ ⟨j3, j4, j5, j6, j7, j8, j9, j10, j11, rfl⟩
    refine ok_as rfl rfl ?_
    refine ok_nil ?_
    refine rk_ret ?_
    obtain rfl := someE h0
    exact finD (.inr rfl) (v := .d (.bool c1)) rfl rfl (.refl _)

theorem frame_Check_ok (p0 : api_Frame) (r : Int) (h0 : frame_Check p0 = some r) : Pure Try.prog tab 55 [.agg [.int .u8 p0.Turn, .int .i64 p0.At.X, .int .i64 p0.At.Y, .int .i64 p0.At.Z]] (.int .i64 r) := by
  unfold frame_Check at h0
  refine pure_of_run Try.func55 rfl (by kernel_rfl) (by kernel_rfl) rfl ?_
  refine rk_seq ?_
  refine rk_region ?_
  refine ok_new (.ref 0 4 0 0) (.dat 4 [[.int .u8 p0.Turn, .int .i64 p0.At.X, .int .i64 p0.At.Y, .int .i64 p0.At.Z]]) rfl rfl ?_
  refine ok_as rfl rfl ?_
  refine ok_nil ?_
  refine rk_seq ?_
  refine rk_seq ?_
  refine rk_region ?_
  refine ok_v (.ref 0 4 0 0) rfl rfl ?_
  refine ok_v (.d (.int .u8 p0.Turn)) rfl rfl ?_
  refine ok_v (.d (.bool (decide (p0.Turn ≥ 24)))) rfl rfl ?_
  obtain ⟨c3, h4, h0⟩ := bindE h0
  refine ok_cutQ 6 (fun A st => ∃ (j5 j6 j7 j8 j9 : V), st = A [(11, .d (.bool c3)), (10, j9), (9, j8), (8, j7), (7, j6), (6, j5)]) ?_ ?_
  · refine ok_mvB rfl rfl h4 (fun h4 => ?_) (fun h4 => ?_)
    · refine ok_sg rfl ?_
      refine ok_sg rfl ?_
      refine ok_sg rfl ?_
      refine ok_sg rfl ?_
      refine ok_v (.d (.bool true)) rfl rfl ?_
      refine ok_nil ?_
      obtain rfl := someE h4
      exact ⟨_, _, _, _, _, rfl⟩
    · refine ok_v (.ref 0 4 0 1) rfl rfl ?_
      refine ok_v (.d (.agg [.int .i64 p0.At.X, .int .i64 p0.At.Y, .int .i64 p0.At.Z])) rfl rfl ?_
      obtain ⟨r10, h11, h4⟩ := bindE h4
      refine ok_pc [.d (.agg [.int .i64 p0.At.X, .int .i64 p0.At.Y, .int .i64 p0.At.Z]), .d (.int .i64 (-1000000))] (frame_fine_ok p0.At (-1000000) r10 h11) rfl rfl rfl (.inl rfl) ?_
      refine ok_v (.d (.bool (!r10))) rfl rfl ?_
      refine ok_v (.d (.bool (!r10))) rfl rfl ?_
      refine ok_nil ?_
      obtain rfl := someE h4
      exact ⟨_, _, _, _, _, rfl⟩
  · rintro _ ⟨j5, j6, j7, j8, j9, rfl⟩
    refine ok_nil ?_
    refine rk_condH rfl h0 (fun _ h0 => ?_) (fun _ h0 => ?_)
    · refine rk_seq ?_
      refine rk_region ?_
      refine ok_as rfl rfl ?_
      refine ok_nil ?_
      refine rk_ret ?_
      obtain rfl := someE h0
      exact finD (.inr rfl) (v := .d (.int .i64 8)) rfl rfl (.refl _)
    · refine rk_skip ?_
      refine rk_seq ?_
      refine rk_region ?_
      refine ok_as rfl rfl ?_
      refine ok_nil ?_
      refine rk_ret ?_
      obtain rfl := someE h0
      exact finD (.inr rfl) (v := .d (.int .i64 0)) rfl rfl (.refl _)

theorem frame_checked_ok (p0 : api_Scope) (r : Int) (h0 : frame_checked p0 = some r) : Pure Try.prog tab 54 [.agg [.int .u8 p0.Frame.Turn, .int .i64 p0.Frame.At.X, .int .i64 p0.Frame.At.Y, .int .i64 p0.Frame.At.Z, .int .i64 p0.Size.X, .int .i64 p0.Size.Y, .int .i64 p0.Size.Z]] (.int .i64 r) := by
  unfold frame_checked at h0
  refine pure_of_run Try.func54 rfl (by kernel_rfl) (by kernel_rfl) rfl ?_
  refine rk_seq ?_
  refine rk_region ?_
  refine ok_new (.ref 0 7 0 0) (.dat 7 [[.int .u8 p0.Frame.Turn, .int .i64 p0.Frame.At.X, .int .i64 p0.Frame.At.Y, .int .i64 p0.Frame.At.Z, .int .i64 p0.Size.X, .int .i64 p0.Size.Y, .int .i64 p0.Size.Z]]) rfl rfl ?_
  refine ok_as rfl rfl ?_
  refine ok_nil ?_
  refine rk_seq ?_
  refine rk_seq ?_
  refine rk_region ?_
  refine ok_v (.ref 0 7 0 0) rfl rfl ?_
  refine ok_v (.d (.agg [.int .u8 p0.Frame.Turn, .int .i64 p0.Frame.At.X, .int .i64 p0.Frame.At.Y, .int .i64 p0.Frame.At.Z])) rfl rfl ?_
  obtain ⟨r1, h2, h0⟩ := bindE h0
  refine ok_pc [.d (.agg [.int .u8 p0.Frame.Turn, .int .i64 p0.Frame.At.X, .int .i64 p0.Frame.At.Y, .int .i64 p0.Frame.At.Z])] (frame_Check_ok p0.Frame r1 h2) rfl rfl rfl (.inl rfl) ?_
  refine ok_v (.d (.bool (r1 != 0))) rfl rfl ?_
  obtain ⟨c5, h6, h0⟩ := bindE h0
  refine ok_cutQ 6 (fun A st => ∃ (j7 j8 j9 j10 j11 : V), st = A [(12, .d (.bool c5)), (11, j11), (10, j10), (9, j9), (8, j8), (7, j7)]) ?_ ?_
  · refine ok_mvB rfl rfl h6 (fun h6 => ?_) (fun h6 => ?_)
    · refine ok_sg rfl ?_
      refine ok_sg rfl ?_
      refine ok_sg rfl ?_
      refine ok_sg rfl ?_
      refine ok_v (.d (.bool true)) rfl rfl ?_
      refine ok_nil ?_
      obtain rfl := someE h6
      exact ⟨_, _, _, _, _, rfl⟩
    · refine ok_v (.ref 0 7 0 4) rfl rfl ?_
      refine ok_v (.d (.agg [.int .i64 p0.Size.X, .int .i64 p0.Size.Y, .int .i64 p0.Size.Z])) rfl rfl ?_
      obtain ⟨r12, h13, h6⟩ := bindE h6
      refine ok_pc [.d (.agg [.int .i64 p0.Size.X, .int .i64 p0.Size.Y, .int .i64 p0.Size.Z]), .d (.int .i64 0)] (frame_fine_ok p0.Size 0 r12 h13) rfl rfl rfl (.inl rfl) ?_
      refine ok_v (.d (.bool (!r12))) rfl rfl ?_
      refine ok_v (.d (.bool (!r12))) rfl rfl ?_
      refine ok_nil ?_
      obtain rfl := someE h6
      exact ⟨_, _, _, _, _, rfl⟩
  · rintro _ ⟨j7, j8, j9, j10, j11, rfl⟩
    refine ok_nil ?_
    refine rk_condH rfl h0 (fun _ h0 => ?_) (fun _ h0 => ?_)
    · refine rk_seq ?_
      refine rk_region ?_
      refine ok_as rfl rfl ?_
      refine ok_nil ?_
      refine rk_ret ?_
      obtain rfl := someE h0
      exact finD (.inr rfl) (v := .d (.int .i64 8)) rfl rfl (.refl _)
    · refine rk_skip ?_
      refine rk_seq ?_
      refine rk_region ?_
      refine ok_as rfl rfl ?_
      refine ok_nil ?_
      refine rk_ret ?_
      obtain rfl := someE h0
      exact finD (.inr rfl) (v := .d (.int .i64 0)) rfl rfl (.refl _)

theorem frame_direction_ok (p0 : Int) (r : api_Vec) (h0 : frame_direction p0 = some r) : Pure Try.prog tab 77 [.int .u8 p0] (.agg [.int .i64 r.X, .int .i64 r.Y, .int .i64 r.Z]) := by
  unfold frame_direction at h0
  refine pure_of_run Try.func77 rfl (by kernel_rfl) (by kernel_rfl) rfl ?_
  refine rk_seq ?_
  refine rk_region ?_
  refine ok_alloc rfl rfl ?_
  refine ok_nil ?_
  refine rk_seq ?_
  refine rk_region ?_
  refine ok_mv rfl rfl ?_
  refine ok_v (.d (.int .u8 (Int.tmod p0 2))) rfl rfl ?_
  refine ok_v (.d (.int .i64 (w64 (Int.tmod p0 2)))) rfl rfl ?_
  refine ok_v (.d (.int .i64 (w64 (2 * (w64 (Int.tmod p0 2)))))) rfl rfl ?_
  refine ok_v (.d (.int .i64 (w64 (1 - (w64 (2 * (w64 (Int.tmod p0 2)))))))) rfl rfl ?_
  refine ok_as rfl rfl ?_
  refine ok_nil ?_
  refine rk_seq ?_
  refine rk_seq ?_
  refine rk_region ?_
  refine ok_mv rfl rfl ?_
  refine ok_v (.d (.int .u8 (IntKind.wrap .u8 (Int.tdiv p0 2)))) rfl rfl ?_
  refine ok_nil ?_
  refine rk_block ?_
  refine rk_seq ?_
  refine rk_region ?_
  refine ok_v (.d (.bool ((IntKind.wrap .u8 (Int.tdiv p0 2)) == 0))) rfl rfl ?_
  refine ok_as rfl rfl ?_
  refine ok_nil ?_
  refine rk_condH rfl h0 (fun _ h0 => ?_) (fun _ h0 => ?_)
  · refine rk_seq ?_
    refine rk_region ?_
    refine ok_mv rfl rfl ?_
    refine ok_v (.d (.agg [.int .i64 (w64 (1 - (w64 (2 * (w64 (Int.tmod p0 2)))))), .int .i64 0, .int .i64 0])) rfl rfl ?_
    refine ok_sto 0 (.dat 3 [[.int .i64 (w64 (1 - (w64 (2 * (w64 (Int.tmod p0 2)))))), .int .i64 0, .int .i64 0]]) rfl rfl ?_
    refine ok_nil ?_
    refine rk_ret ?_
    obtain rfl := someE h0
    exact finD (.inr rfl) (v := .d (.agg [.int .i64 (w64 (1 - (w64 (2 * (w64 (Int.tmod p0 2)))))), .int .i64 0, .int .i64 0])) rfl rfl (.refl _)
  · refine rk_seq ?_
    refine rk_region ?_
    refine ok_v (.d (.bool ((IntKind.wrap .u8 (Int.tdiv p0 2)) == 1))) rfl rfl ?_
    refine ok_as rfl rfl ?_
    refine ok_nil ?_
    refine rk_condH rfl h0 (fun _ h0 => ?_) (fun _ h0 => ?_)
    · refine rk_seq ?_
      refine rk_region ?_
      refine ok_mv rfl rfl ?_
      refine ok_v (.d (.agg [.int .i64 0, .int .i64 (w64 (1 - (w64 (2 * (w64 (Int.tmod p0 2)))))), .int .i64 0])) rfl rfl ?_
      refine ok_sto 0 (.dat 3 [[.int .i64 0, .int .i64 (w64 (1 - (w64 (2 * (w64 (Int.tmod p0 2)))))), .int .i64 0]]) rfl rfl ?_
      refine ok_nil ?_
      refine rk_ret ?_
      obtain rfl := someE h0
      exact finD (.inr rfl) (v := .d (.agg [.int .i64 0, .int .i64 (w64 (1 - (w64 (2 * (w64 (Int.tmod p0 2)))))), .int .i64 0])) rfl rfl (.refl _)
    · refine rk_skip ?_
      refine rk_nil ?_
      refine blk_nor ?_
      refine rk_seq ?_
      refine rk_region ?_
      refine ok_mv rfl rfl ?_
      refine ok_v (.d (.agg [.int .i64 0, .int .i64 0, .int .i64 (w64 (1 - (w64 (2 * (w64 (Int.tmod p0 2))))))])) rfl rfl ?_
      refine ok_sto 0 (.dat 3 [[.int .i64 0, .int .i64 0, .int .i64 (w64 (1 - (w64 (2 * (w64 (Int.tmod p0 2))))))]]) rfl rfl ?_
      refine ok_nil ?_
      refine rk_ret ?_
      obtain rfl := someE h0
      exact finD (.inr rfl) (v := .d (.agg [.int .i64 0, .int .i64 0, .int .i64 (w64 (1 - (w64 (2 * (w64 (Int.tmod p0 2))))))])) rfl rfl (.refl _)

theorem frame_cross_ok (p0 : api_Vec) (p1 : api_Vec) (r : api_Vec) (h0 : frame_cross p0 p1 = some r) : Pure Try.prog tab 78 [.agg [.int .i64 p0.X, .int .i64 p0.Y, .int .i64 p0.Z], .agg [.int .i64 p1.X, .int .i64 p1.Y, .int .i64 p1.Z]] (.agg [.int .i64 r.X, .int .i64 r.Y, .int .i64 r.Z]) := by
  unfold frame_cross at h0
  refine pure_of_run Try.func78 rfl (by kernel_rfl) (by kernel_rfl) rfl ?_
  refine rk_seq ?_
  refine rk_region ?_
  refine ok_new (.ref 0 3 0 0) (.dat 3 [[.int .i64 p0.X, .int .i64 p0.Y, .int .i64 p0.Z]]) rfl rfl ?_
  refine ok_new (.ref 1 3 0 0) (.dat 3 [[.int .i64 p1.X, .int .i64 p1.Y, .int .i64 p1.Z]]) rfl rfl ?_
  refine ok_alloc rfl rfl ?_
  refine ok_nil ?_
  refine rk_seq ?_
  refine rk_region ?_
  refine ok_v (.ref 0 3 0 1) rfl rfl ?_
  refine ok_v (.d (.int .i64 p0.Y)) rfl rfl ?_
  refine ok_v (.ref 1 3 0 2) rfl rfl ?_
  refine ok_v (.d (.int .i64 p1.Z)) rfl rfl ?_
  refine ok_v (.d (.int .i64 (w64 (p0.Y * p1.Z)))) rfl rfl ?_
  refine ok_v (.ref 0 3 0 2) rfl rfl ?_
  refine ok_v (.d (.int .i64 p0.Z)) rfl rfl ?_
  refine ok_v (.ref 1 3 0 1) rfl rfl ?_
  refine ok_v (.d (.int .i64 p1.Y)) rfl rfl ?_
  refine ok_v (.d (.int .i64 (w64 (p0.Z * p1.Y)))) rfl rfl ?_
  refine ok_v (.d (.int .i64 (w64 ((w64 (p0.Y * p1.Z)) - (w64 (p0.Z * p1.Y)))))) rfl rfl ?_
  refine ok_v (.ref 0 3 0 2) rfl rfl ?_
  refine ok_v (.d (.int .i64 p0.Z)) rfl rfl ?_
  refine ok_v (.ref 1 3 0 0) rfl rfl ?_
  refine ok_v (.d (.int .i64 p1.X)) rfl rfl ?_
  refine ok_v (.d (.int .i64 (w64 (p0.Z * p1.X)))) rfl rfl ?_
  refine ok_v (.ref 0 3 0 0) rfl rfl ?_
  refine ok_v (.d (.int .i64 p0.X)) rfl rfl ?_
  refine ok_v (.ref 1 3 0 2) rfl rfl ?_
  refine ok_v (.d (.int .i64 p1.Z)) rfl rfl ?_
  refine ok_v (.d (.int .i64 (w64 (p0.X * p1.Z)))) rfl rfl ?_
  refine ok_v (.d (.int .i64 (w64 ((w64 (p0.Z * p1.X)) - (w64 (p0.X * p1.Z)))))) rfl rfl ?_
  refine ok_v (.ref 0 3 0 0) rfl rfl ?_
  refine ok_v (.d (.int .i64 p0.X)) rfl rfl ?_
  refine ok_v (.ref 1 3 0 1) rfl rfl ?_
  refine ok_v (.d (.int .i64 p1.Y)) rfl rfl ?_
  refine ok_v (.d (.int .i64 (w64 (p0.X * p1.Y)))) rfl rfl ?_
  refine ok_v (.ref 0 3 0 1) rfl rfl ?_
  refine ok_v (.d (.int .i64 p0.Y)) rfl rfl ?_
  refine ok_v (.ref 1 3 0 0) rfl rfl ?_
  refine ok_v (.d (.int .i64 p1.X)) rfl rfl ?_
  refine ok_v (.d (.int .i64 (w64 (p0.Y * p1.X)))) rfl rfl ?_
  refine ok_v (.d (.int .i64 (w64 ((w64 (p0.X * p1.Y)) - (w64 (p0.Y * p1.X)))))) rfl rfl ?_
  refine ok_v (.d (.agg [.int .i64 (w64 ((w64 (p0.Y * p1.Z)) - (w64 (p0.Z * p1.Y)))), .int .i64 (w64 ((w64 (p0.Z * p1.X)) - (w64 (p0.X * p1.Z)))), .int .i64 (w64 ((w64 (p0.X * p1.Y)) - (w64 (p0.Y * p1.X))))])) rfl rfl ?_
  refine ok_sto 2 (.dat 3 [[.int .i64 (w64 ((w64 (p0.Y * p1.Z)) - (w64 (p0.Z * p1.Y)))), .int .i64 (w64 ((w64 (p0.Z * p1.X)) - (w64 (p0.X * p1.Z)))), .int .i64 (w64 ((w64 (p0.X * p1.Y)) - (w64 (p0.Y * p1.X))))]]) rfl rfl ?_
  refine ok_nil ?_
  refine rk_ret ?_
  obtain rfl := someE h0
  exact finD (.inr rfl) (v := .d (.agg [.int .i64 (w64 ((w64 (p0.Y * p1.Z)) - (w64 (p0.Z * p1.Y)))), .int .i64 (w64 ((w64 (p0.Z * p1.X)) - (w64 (p0.X * p1.Z)))), .int .i64 (w64 ((w64 (p0.X * p1.Y)) - (w64 (p0.Y * p1.X))))])) rfl rfl (.refl _)

theorem frame_axes_ok (p0 : Int) (r : (api_Vec × api_Vec × api_Vec)) (h0 : frame_axes p0 = some r) : Pure Try.prog tab 73 [.int .u8 p0] (.agg [.int .i64 r.1.X, .int .i64 r.1.Y, .int .i64 r.1.Z, .int .i64 r.2.1.X, .int .i64 r.2.1.Y, .int .i64 r.2.1.Z, .int .i64 r.2.2.X, .int .i64 r.2.2.Y, .int .i64 r.2.2.Z]) := by
  unfold frame_axes at h0
  refine pure_of_run Try.func73 rfl (by kernel_rfl) (by kernel_rfl) rfl ?_
  refine rk_seq ?_
  refine rk_region ?_
  refine ok_alloc rfl rfl ?_
  refine ok_nil ?_
  refine rk_seq ?_
  refine rk_region ?_
  refine ok_mv rfl rfl ?_
  refine ok_v (.d (.int .u8 (IntKind.wrap .u8 (Int.tdiv p0 4)))) rfl rfl ?_
  refine ok_as rfl rfl ?_
  refine ok_nil ?_
  refine rk_seq ?_
  refine rk_region ?_
  refine ok_mv rfl rfl ?_
  refine ok_v (.d (.int .u8 (Int.tmod p0 4))) rfl rfl ?_
  refine ok_as rfl rfl ?_
  refine ok_nil ?_
  refine rk_seq ?_
  refine rk_seq ?_
  refine rk_region ?_
  refine ok_mv rfl rfl ?_
  refine ok_mv rfl rfl ?_
  refine ok_v (.d (.int .u8 (IntKind.wrap .u8 (Int.tdiv (IntKind.wrap .u8 (Int.tdiv p0 4)) 2)))) rfl rfl ?_
  refine ok_v (.d (.int .u8 (IntKind.wrap .u8 ((IntKind.wrap .u8 (Int.tdiv (IntKind.wrap .u8 (Int.tdiv p0 4)) 2)) * 2)))) rfl rfl ?_
  refine ok_v (.d (.bool (decide ((Int.tmod p0 4) ≥ (IntKind.wrap .u8 ((IntKind.wrap .u8 (Int.tdiv (IntKind.wrap .u8 (Int.tdiv p0 4)) 2)) * 2)))))) rfl rfl ?_
  refine ok_nil ?_
  obtain ⟨m2, h1, h0⟩ := bindE h0
  refine rk_cut (fun b3 => b3 = m2) (fun (b3 : Int) => ⟨[(2, .ref 0 9 0 0), (3, .d (.int .u8 (IntKind.wrap .u8 (Int.tdiv p0 4)))), (4, .d (.int .u8 b3))], [(0, .dat 9 [[.int .i64 0, .int .i64 0, .int .i64 0, .int .i64 0, .int .i64 0, .int .i64 0, .int .i64 0, .int .i64 0, .int .i64 0]])], 1⟩) (by simp) ?_ ?_
  · refine rk_condH rfl h1 (fun _ h1 => ?_) (fun _ h1 => ?_)
    · refine rk_region ?_
      refine ok_mv rfl rfl ?_
      refine ok_v (.d (.int .u8 (IntKind.wrap .u8 ((Int.tmod p0 4) + 2)))) rfl rfl ?_
      refine ok_as rfl rfl ?_
      refine ok_nil ?_
      refine rk_nil ?_
      obtain rfl := someE h1
      exact ⟨_, rfl, wkE [(0, 0)] [] [] rfl ⟨⟨_, rfl, .ref rfl (by decide) (ltd rfl)⟩, ⟨_, rfl, .d (.refl _)⟩, ⟨_, rfl, .d (.refl _)⟩, trivial⟩ ⟨⟨ltd rfl, .inr ⟨by decide, _, rfl, .dat _ _⟩⟩, trivial⟩⟩
    · refine rk_skip ?_
      refine rk_nil ?_
      obtain rfl := someE h1
      exact ⟨_, rfl, wkE [(0, 0)] [] [] rfl ⟨⟨_, rfl, .ref rfl (by decide) (ltd rfl)⟩, ⟨_, rfl, .d (.refl _)⟩, ⟨_, rfl, .d (.refl _)⟩, trivial⟩ ⟨⟨ltd rfl, .inr ⟨by decide, _, rfl, .dat _ _⟩⟩, trivial⟩⟩
  · intro b3 hb
    subst hb
    refine rk_seq ?_
    refine rk_region ?_
    refine ok_mv rfl rfl ?_
    obtain ⟨r4, h5, h0⟩ := bindE h0
    refine ok_pc [.d (.int .u8 (IntKind.wrap .u8 (Int.tdiv p0 4)))] (frame_direction_ok (IntKind.wrap .u8 (Int.tdiv p0 4)) r4 h5) rfl rfl rfl (.inl rfl) ?_
    refine ok_mv rfl rfl ?_
    obtain ⟨r6, h7, h0⟩ := bindE h0
    refine ok_pc [.d (.int .u8 b3)] (frame_direction_ok b3 r6 h7) rfl rfl rfl (.inl rfl) ?_
    refine ok_alloc rfl rfl ?_
    refine ok_alloc rfl rfl ?_
    refine ok_sto 1 (.dat 3 [[.int .i64 r4.X, .int .i64 r4.Y, .int .i64 r4.Z]]) rfl rfl ?_
    refine ok_sto 2 (.dat 3 [[.int .i64 r6.X, .int .i64 r6.Y, .int .i64 r6.Z]]) rfl rfl ?_
    refine ok_nil ?_
    refine rk_seq ?_
    refine rk_regionD [(some [0], [0]), (some [], []), (some [], []), (some [2], []), (some [1], []), (some [2], []), (some [1], [])] (by kernel_rfl) ?_
    refine ok_v (.d (.agg [.int .i64 r4.X, .int .i64 r4.Y, .int .i64 r4.Z])) rfl rfl ?_
    refine ok_v (.d (.agg [.int .i64 r6.X, .int .i64 r6.Y, .int .i64 r6.Z])) rfl rfl ?_
    refine ok_v (.d (.agg [.int .i64 r4.X, .int .i64 r4.Y, .int .i64 r4.Z])) rfl rfl ?_
    refine ok_v (.d (.agg [.int .i64 r6.X, .int .i64 r6.Y, .int .i64 r6.Z])) rfl rfl ?_
    obtain ⟨r8, h9, h0⟩ := bindE h0
    refine ok_pc [.d (.agg [.int .i64 r4.X, .int .i64 r4.Y, .int .i64 r4.Z]), .d (.agg [.int .i64 r6.X, .int .i64 r6.Y, .int .i64 r6.Z])] (frame_cross_ok r4 r6 r8 h9) rfl rfl rfl (.inl rfl) ?_
    refine ok_v (.d (.agg [.int .i64 r4.X, .int .i64 r4.Y, .int .i64 r4.Z, .int .i64 r6.X, .int .i64 r6.Y, .int .i64 r6.Z, .int .i64 r8.X, .int .i64 r8.Y, .int .i64 r8.Z])) rfl rfl ?_
    refine ok_sto 0 (.dat 9 [[.int .i64 r4.X, .int .i64 r4.Y, .int .i64 r4.Z, .int .i64 r6.X, .int .i64 r6.Y, .int .i64 r6.Z, .int .i64 r8.X, .int .i64 r8.Y, .int .i64 r8.Z]]) rfl rfl ?_
    refine ok_nil ?_
    refine rk_ret ?_
    obtain rfl := someE h0
    exact finD (.inr rfl) (v := .d (.agg [.int .i64 r4.X, .int .i64 r4.Y, .int .i64 r4.Z, .int .i64 r6.X, .int .i64 r6.Y, .int .i64 r6.Z, .int .i64 r8.X, .int .i64 r8.Y, .int .i64 r8.Z])) rfl rfl (.refl _)

theorem frame_sum_ok (p0 : api_Vec × api_Vec × api_Vec) (p1 : api_Vec) (r : api_Vec) (h0 : frame_sum p0 p1 = some r) : Pure Try.prog tab 74 [.agg [.int .i64 p0.1.X, .int .i64 p0.1.Y, .int .i64 p0.1.Z, .int .i64 p0.2.1.X, .int .i64 p0.2.1.Y, .int .i64 p0.2.1.Z, .int .i64 p0.2.2.X, .int .i64 p0.2.2.Y, .int .i64 p0.2.2.Z], .agg [.int .i64 p1.X, .int .i64 p1.Y, .int .i64 p1.Z]] (.agg [.int .i64 r.X, .int .i64 r.Y, .int .i64 r.Z]) := by
  unfold frame_sum at h0
  refine pure_of_run Try.func74 rfl (by kernel_rfl) (by kernel_rfl) rfl ?_
  refine rk_seq ?_
  refine rk_region ?_
  refine ok_new (.ref 0 9 0 0) (.dat 9 [[.int .i64 p0.1.X, .int .i64 p0.1.Y, .int .i64 p0.1.Z, .int .i64 p0.2.1.X, .int .i64 p0.2.1.Y, .int .i64 p0.2.1.Z, .int .i64 p0.2.2.X, .int .i64 p0.2.2.Y, .int .i64 p0.2.2.Z]]) rfl rfl ?_
  refine ok_new (.ref 1 3 0 0) (.dat 3 [[.int .i64 p1.X, .int .i64 p1.Y, .int .i64 p1.Z]]) rfl rfl ?_
  refine ok_alloc rfl rfl ?_
  refine ok_nil ?_
  refine rk_seq ?_
  refine rk_region ?_
  refine ok_v (.ref 1 3 0 0) rfl rfl ?_
  refine ok_v (.d (.int .i64 p1.X)) rfl rfl ?_
  refine ok_v (.ref 0 9 0 0) rfl rfl ?_
  refine ok_v (.ref 0 9 0 0) rfl rfl ?_
  refine ok_v (.d (.int .i64 p0.1.X)) rfl rfl ?_
  refine ok_v (.d (.int .i64 (w64 (p1.X * p0.1.X)))) rfl rfl ?_
  refine ok_v (.ref 1 3 0 1) rfl rfl ?_
  refine ok_v (.d (.int .i64 p1.Y)) rfl rfl ?_
  refine ok_v (.ref 0 9 0 3) rfl rfl ?_
  refine ok_v (.ref 0 9 0 3) rfl rfl ?_
  refine ok_v (.d (.int .i64 p0.2.1.X)) rfl rfl ?_
  refine ok_v (.d (.int .i64 (w64 (p1.Y * p0.2.1.X)))) rfl rfl ?_
  refine ok_v (.d (.int .i64 (w64 ((w64 (p1.X * p0.1.X)) + (w64 (p1.Y * p0.2.1.X)))))) rfl rfl ?_
  refine ok_v (.ref 1 3 0 2) rfl rfl ?_
  refine ok_v (.d (.int .i64 p1.Z)) rfl rfl ?_
  refine ok_v (.ref 0 9 0 6) rfl rfl ?_
  refine ok_v (.ref 0 9 0 6) rfl rfl ?_
  refine ok_v (.d (.int .i64 p0.2.2.X)) rfl rfl ?_
  refine ok_v (.d (.int .i64 (w64 (p1.Z * p0.2.2.X)))) rfl rfl ?_
  refine ok_v (.d (.int .i64 (w64 ((w64 ((w64 (p1.X * p0.1.X)) + (w64 (p1.Y * p0.2.1.X)))) + (w64 (p1.Z * p0.2.2.X)))))) rfl rfl ?_
  refine ok_v (.ref 1 3 0 0) rfl rfl ?_
  refine ok_v (.d (.int .i64 p1.X)) rfl rfl ?_
  refine ok_v (.ref 0 9 0 0) rfl rfl ?_
  refine ok_v (.ref 0 9 0 1) rfl rfl ?_
  refine ok_v (.d (.int .i64 p0.1.Y)) rfl rfl ?_
  refine ok_v (.d (.int .i64 (w64 (p1.X * p0.1.Y)))) rfl rfl ?_
  refine ok_v (.ref 1 3 0 1) rfl rfl ?_
  refine ok_v (.d (.int .i64 p1.Y)) rfl rfl ?_
  refine ok_v (.ref 0 9 0 3) rfl rfl ?_
  refine ok_v (.ref 0 9 0 4) rfl rfl ?_
  refine ok_v (.d (.int .i64 p0.2.1.Y)) rfl rfl ?_
  refine ok_v (.d (.int .i64 (w64 (p1.Y * p0.2.1.Y)))) rfl rfl ?_
  refine ok_v (.d (.int .i64 (w64 ((w64 (p1.X * p0.1.Y)) + (w64 (p1.Y * p0.2.1.Y)))))) rfl rfl ?_
  refine ok_v (.ref 1 3 0 2) rfl rfl ?_
  refine ok_v (.d (.int .i64 p1.Z)) rfl rfl ?_
  refine ok_v (.ref 0 9 0 6) rfl rfl ?_
  refine ok_v (.ref 0 9 0 7) rfl rfl ?_
  refine ok_v (.d (.int .i64 p0.2.2.Y)) rfl rfl ?_
  refine ok_v (.d (.int .i64 (w64 (p1.Z * p0.2.2.Y)))) rfl rfl ?_
  refine ok_v (.d (.int .i64 (w64 ((w64 ((w64 (p1.X * p0.1.Y)) + (w64 (p1.Y * p0.2.1.Y)))) + (w64 (p1.Z * p0.2.2.Y)))))) rfl rfl ?_
  refine ok_v (.ref 1 3 0 0) rfl rfl ?_
  refine ok_v (.d (.int .i64 p1.X)) rfl rfl ?_
  refine ok_v (.ref 0 9 0 0) rfl rfl ?_
  refine ok_v (.ref 0 9 0 2) rfl rfl ?_
  refine ok_v (.d (.int .i64 p0.1.Z)) rfl rfl ?_
  refine ok_v (.d (.int .i64 (w64 (p1.X * p0.1.Z)))) rfl rfl ?_
  refine ok_v (.ref 1 3 0 1) rfl rfl ?_
  refine ok_v (.d (.int .i64 p1.Y)) rfl rfl ?_
  refine ok_v (.ref 0 9 0 3) rfl rfl ?_
  refine ok_v (.ref 0 9 0 5) rfl rfl ?_
  refine ok_v (.d (.int .i64 p0.2.1.Z)) rfl rfl ?_
  refine ok_v (.d (.int .i64 (w64 (p1.Y * p0.2.1.Z)))) rfl rfl ?_
  refine ok_v (.d (.int .i64 (w64 ((w64 (p1.X * p0.1.Z)) + (w64 (p1.Y * p0.2.1.Z)))))) rfl rfl ?_
  refine ok_v (.ref 1 3 0 2) rfl rfl ?_
  refine ok_v (.d (.int .i64 p1.Z)) rfl rfl ?_
  refine ok_v (.ref 0 9 0 6) rfl rfl ?_
  refine ok_v (.ref 0 9 0 8) rfl rfl ?_
  refine ok_v (.d (.int .i64 p0.2.2.Z)) rfl rfl ?_
  refine ok_v (.d (.int .i64 (w64 (p1.Z * p0.2.2.Z)))) rfl rfl ?_
  refine ok_v (.d (.int .i64 (w64 ((w64 ((w64 (p1.X * p0.1.Z)) + (w64 (p1.Y * p0.2.1.Z)))) + (w64 (p1.Z * p0.2.2.Z)))))) rfl rfl ?_
  refine ok_v (.d (.agg [.int .i64 (w64 ((w64 ((w64 (p1.X * p0.1.X)) + (w64 (p1.Y * p0.2.1.X)))) + (w64 (p1.Z * p0.2.2.X)))), .int .i64 (w64 ((w64 ((w64 (p1.X * p0.1.Y)) + (w64 (p1.Y * p0.2.1.Y)))) + (w64 (p1.Z * p0.2.2.Y)))), .int .i64 (w64 ((w64 ((w64 (p1.X * p0.1.Z)) + (w64 (p1.Y * p0.2.1.Z)))) + (w64 (p1.Z * p0.2.2.Z))))])) rfl rfl ?_
  refine ok_sto 2 (.dat 3 [[.int .i64 (w64 ((w64 ((w64 (p1.X * p0.1.X)) + (w64 (p1.Y * p0.2.1.X)))) + (w64 (p1.Z * p0.2.2.X)))), .int .i64 (w64 ((w64 ((w64 (p1.X * p0.1.Y)) + (w64 (p1.Y * p0.2.1.Y)))) + (w64 (p1.Z * p0.2.2.Y)))), .int .i64 (w64 ((w64 ((w64 (p1.X * p0.1.Z)) + (w64 (p1.Y * p0.2.1.Z)))) + (w64 (p1.Z * p0.2.2.Z))))]]) rfl rfl ?_
  refine ok_nil ?_
  refine rk_ret ?_
  obtain rfl := someE h0
  exact finD (.inr rfl) (v := .d (.agg [.int .i64 (w64 ((w64 ((w64 (p1.X * p0.1.X)) + (w64 (p1.Y * p0.2.1.X)))) + (w64 (p1.Z * p0.2.2.X)))), .int .i64 (w64 ((w64 ((w64 (p1.X * p0.1.Y)) + (w64 (p1.Y * p0.2.1.Y)))) + (w64 (p1.Z * p0.2.2.Y)))), .int .i64 (w64 ((w64 ((w64 (p1.X * p0.1.Z)) + (w64 (p1.Y * p0.2.1.Z)))) + (w64 (p1.Z * p0.2.2.Z))))])) rfl rfl (.refl _)

theorem frame_named_ok (p0 : api_Vec × api_Vec × api_Vec) (r : Int) (h0 : frame_named p0 = some r) : Pure Try.prog tab 75 [.agg [.int .i64 p0.1.X, .int .i64 p0.1.Y, .int .i64 p0.1.Z, .int .i64 p0.2.1.X, .int .i64 p0.2.1.Y, .int .i64 p0.2.1.Z, .int .i64 p0.2.2.X, .int .i64 p0.2.2.Y, .int .i64 p0.2.2.Z]] (.int .u8 r) := by
  unfold frame_named at h0
  refine pure_of_run Try.func75 rfl (by kernel_rfl) (by kernel_rfl) rfl ?_
  refine rk_seq ?_
  refine rk_region ?_
  refine ok_new (.ref 0 9 0 0) (.dat 9 [[.int .i64 p0.1.X, .int .i64 p0.1.Y, .int .i64 p0.1.Z, .int .i64 p0.2.1.X, .int .i64 p0.2.1.Y, .int .i64 p0.2.1.Z, .int .i64 p0.2.2.X, .int .i64 p0.2.2.Y, .int .i64 p0.2.2.Z]]) rfl rfl ?_
  refine ok_as rfl rfl ?_
  refine ok_nil ?_
  refine rk_seq ?_
  refine rk_seq ?_
  refine rk_region ?_
  refine ok_mv rfl rfl ?_
  refine ok_nil ?_
  obtain ⟨m12, h13, h0⟩ := bindE h0
  refine rk_blockcut (fun b14 => .inl b14 = m12) (fun (b14 : Unit) => ⟨[], [], 0⟩) (by simp) ?_ ?_
  · refine rk_loopF (frame_named_L1 p0) (fun (a11 : Int) => ⟨[(1, .ref 0 9 0 0), (4, .d (.int .u8 a11))], [(0, .dat 9 [[.int .i64 p0.1.X, .int .i64 p0.1.Y, .int .i64 p0.1.Z, .int .i64 p0.2.1.X, .int .i64 p0.2.1.Y, .int .i64 p0.2.1.Z, .int .i64 p0.2.2.X, .int .i64 p0.2.2.Y, .int .i64 p0.2.2.Z]])], 1⟩) 0 m12 h13 (wkE [(0, 0)] [] [] rfl ⟨⟨_, rfl, .ref rfl (by decide) (ltd rfl)⟩, ⟨_, rfl, .d (.refl _)⟩, trivial⟩ ⟨⟨ltd rfl, .inr ⟨by decide, _, rfl, .dat _ _⟩⟩, trivial⟩) ?_
    intro a11 y9 h10
    unfold frame_named_L1 at h10
    refine rk_seq ?_
    refine rk_region ?_
    refine ok_v (.d (.bool (decide (a11 < 24)))) rfl rfl ?_
    refine ok_nil ?_
    refine rk_seq ?_
    refine rk_condH rfl h10 (fun _ h10 => ?_) (fun _ h10 => ?_)
    · refine rk_skip ?_
      refine rk_seq ?_
      refine rk_block ?_
      refine rk_seq ?_
      refine rk_region ?_
      refine ok_mv rfl rfl ?_
      refine ok_as rfl rfl ?_
      refine ok_nil ?_
      refine rk_seq ?_
      refine rk_regionD [(some [], []), (some [0], []), (some [], []), (some [], [])] (by kernel_rfl) ?_
      refine ok_mv rfl rfl ?_
      obtain ⟨r17, h18, h10⟩ := bindE h10
      refine ok_pc [.d (.int .u8 a11)] (frame_axes_ok a11 r17 h18) rfl rfl rfl (.inl rfl) ?_
      refine ok_v (.d (.agg [.int .i64 p0.1.X, .int .i64 p0.1.Y, .int .i64 p0.1.Z, .int .i64 p0.2.1.X, .int .i64 p0.2.1.Y, .int .i64 p0.2.1.Z, .int .i64 p0.2.2.X, .int .i64 p0.2.2.Y, .int .i64 p0.2.2.Z])) rfl rfl ?_
      refine ok_v (.d (.bool ((r17.1.X == p0.1.X) && ((r17.1.Y == p0.1.Y) && ((r17.1.Z == p0.1.Z) && ((r17.2.1.X == p0.2.1.X) && ((r17.2.1.Y == p0.2.1.Y) && ((r17.2.1.Z == p0.2.1.Z) && ((r17.2.2.X == p0.2.2.X) && ((r17.2.2.Y == p0.2.2.Y) && ((r17.2.2.Z == p0.2.2.Z) && true))))))))))) rfl rfl ?_
      refine ok_nil ?_
      refine rk_condH rfl h10 (fun _ h10 => ?_) (fun _ h10 => ?_)
      · refine rk_seq ?_
        refine rk_region ?_
        refine ok_mv rfl rfl ?_
        refine ok_as rfl rfl ?_
        refine ok_nil ?_
        refine rk_ret ?_
        refine ⟨_, (Option.some.inj h10).symm, fun hm => ?_⟩
        subst hm
        obtain rfl := someE h0
        exact finD (.inr rfl) (v := .d (.int .u8 a11)) rfl rfl (.refl _)
      · refine rk_skip ?_
        refine rk_nil ?_
        refine blk_nor ?_
        refine rk_region ?_
        refine ok_v (.d (.int .u8 (IntKind.wrap .u8 (a11 + 1)))) rfl rfl ?_
        refine ok_mv rfl rfl ?_
        refine ok_nil ?_
        refine rk_nil ?_
        exact ⟨_, (Option.some.inj h10).symm, wkE [(0, 0)] [] [] rfl ⟨⟨_, rfl, .ref rfl (by decide) (ltd rfl)⟩, ⟨_, rfl, .d (.refl _)⟩, trivial⟩ ⟨⟨ltd rfl, .inr ⟨by decide, _, rfl, .dat _ _⟩⟩, trivial⟩⟩
    · refine rk_exit ?_
      refine ⟨_, (Option.some.inj h10).symm, fun hm => ?_⟩
      subst hm
      exact ⟨_, rfl, wkE [] [] [] rfl trivial trivial⟩
  · intro b14 hb
    subst hb
    refine rk_seq ?_
    refine rk_region ?_
    refine ok_as rfl rfl ?_
    refine ok_nil ?_
    refine rk_ret ?_
    obtain rfl := someE h0
    exact finD (.inr rfl) (v := .d (.int .u8 0)) rfl rfl (.refl _)

theorem frame_image_ok (p0 : api_Frame) (p1 : api_Vec) (r : api_Vec) (h0 : frame_image p0 p1 = some r) : Pure Try.prog tab 76 [.agg [.int .u8 p0.Turn, .int .i64 p0.At.X, .int .i64 p0.At.Y, .int .i64 p0.At.Z], .agg [.int .i64 p1.X, .int .i64 p1.Y, .int .i64 p1.Z]] (.agg [.int .i64 r.X, .int .i64 r.Y, .int .i64 r.Z]) := by
  unfold frame_image at h0
  refine pure_of_run Try.func76 rfl (by kernel_rfl) (by kernel_rfl) rfl ?_
  refine rk_seq ?_
  refine rk_region ?_
  refine ok_new (.ref 0 4 0 0) (.dat 4 [[.int .u8 p0.Turn, .int .i64 p0.At.X, .int .i64 p0.At.Y, .int .i64 p0.At.Z]]) rfl rfl ?_
  refine ok_new (.ref 1 3 0 0) (.dat 3 [[.int .i64 p1.X, .int .i64 p1.Y, .int .i64 p1.Z]]) rfl rfl ?_
  refine ok_alloc rfl rfl ?_
  refine ok_nil ?_
  refine rk_seq ?_
  refine rk_regionD [(some [1], [1]), (some [], []), (some [1], []), (some [], []), (some [0], []), (some [], [])] (by kernel_rfl) ?_
  refine ok_v (.ref 0 4 0 0) rfl rfl ?_
  refine ok_v (.d (.int .u8 p0.Turn)) rfl rfl ?_
  obtain ⟨r1, h2, h0⟩ := bindE h0
  refine ok_pc [.d (.int .u8 p0.Turn)] (frame_axes_ok p0.Turn r1 h2) rfl rfl rfl (.inl rfl) ?_
  refine ok_v (.d (.agg [.int .i64 p1.X, .int .i64 p1.Y, .int .i64 p1.Z])) rfl rfl ?_
  obtain ⟨r3, h4, h0⟩ := bindE h0
  refine ok_pc [.d (.agg [.int .i64 r1.1.X, .int .i64 r1.1.Y, .int .i64 r1.1.Z, .int .i64 r1.2.1.X, .int .i64 r1.2.1.Y, .int .i64 r1.2.1.Z, .int .i64 r1.2.2.X, .int .i64 r1.2.2.Y, .int .i64 r1.2.2.Z]), .d (.agg [.int .i64 p1.X, .int .i64 p1.Y, .int .i64 p1.Z])] (frame_sum_ok r1 p1 r3 h4) rfl rfl rfl (.inl rfl) ?_
  refine ok_sto 1 (.dat 3 [[.int .i64 r3.X, .int .i64 r3.Y, .int .i64 r3.Z]]) rfl rfl ?_
  refine ok_nil ?_
  refine rk_seq ?_
  refine rk_region ?_
  refine ok_v (.ref 1 3 0 0) rfl rfl ?_
  refine ok_v (.d (.int .i64 r3.X)) rfl rfl ?_
  refine ok_v (.ref 0 4 0 1) rfl rfl ?_
  refine ok_v (.ref 0 4 0 1) rfl rfl ?_
  refine ok_v (.d (.int .i64 p0.At.X)) rfl rfl ?_
  refine ok_v (.d (.int .i64 (w64 (r3.X + p0.At.X)))) rfl rfl ?_
  refine ok_v (.ref 1 3 0 1) rfl rfl ?_
  refine ok_v (.d (.int .i64 r3.Y)) rfl rfl ?_
  refine ok_v (.ref 0 4 0 1) rfl rfl ?_
  refine ok_v (.ref 0 4 0 2) rfl rfl ?_
  refine ok_v (.d (.int .i64 p0.At.Y)) rfl rfl ?_
  refine ok_v (.d (.int .i64 (w64 (r3.Y + p0.At.Y)))) rfl rfl ?_
  refine ok_v (.ref 1 3 0 2) rfl rfl ?_
  refine ok_v (.d (.int .i64 r3.Z)) rfl rfl ?_
  refine ok_v (.ref 0 4 0 1) rfl rfl ?_
  refine ok_v (.ref 0 4 0 3) rfl rfl ?_
  refine ok_v (.d (.int .i64 p0.At.Z)) rfl rfl ?_
  refine ok_v (.d (.int .i64 (w64 (r3.Z + p0.At.Z)))) rfl rfl ?_
  refine ok_v (.d (.agg [.int .i64 (w64 (r3.X + p0.At.X)), .int .i64 (w64 (r3.Y + p0.At.Y)), .int .i64 (w64 (r3.Z + p0.At.Z))])) rfl rfl ?_
  refine ok_sto 2 (.dat 3 [[.int .i64 (w64 (r3.X + p0.At.X)), .int .i64 (w64 (r3.Y + p0.At.Y)), .int .i64 (w64 (r3.Z + p0.At.Z))]]) rfl rfl ?_
  refine ok_nil ?_
  refine rk_ret ?_
  obtain rfl := someE h0
  exact finD (.inr rfl) (v := .d (.agg [.int .i64 (w64 (r3.X + p0.At.X)), .int .i64 (w64 (r3.Y + p0.At.Y)), .int .i64 (w64 (r3.Z + p0.At.Z))])) rfl rfl (.refl _)

theorem frame_within_ok (p0 : api_Frame) (p1 : api_Frame) (r : api_Frame) (h0 : frame_within p0 p1 = some r) : Pure Try.prog tab 69 [.agg [.int .u8 p0.Turn, .int .i64 p0.At.X, .int .i64 p0.At.Y, .int .i64 p0.At.Z], .agg [.int .u8 p1.Turn, .int .i64 p1.At.X, .int .i64 p1.At.Y, .int .i64 p1.At.Z]] (.agg [.int .u8 r.Turn, .int .i64 r.At.X, .int .i64 r.At.Y, .int .i64 r.At.Z]) := by
  unfold frame_within at h0
  refine pure_of_run Try.func69 rfl (by kernel_rfl) (by kernel_rfl) rfl ?_
  refine rk_seq ?_
  refine rk_region ?_
  refine ok_new (.ref 0 4 0 0) (.dat 4 [[.int .u8 p0.Turn, .int .i64 p0.At.X, .int .i64 p0.At.Y, .int .i64 p0.At.Z]]) rfl rfl ?_
  refine ok_new (.ref 1 4 0 0) (.dat 4 [[.int .u8 p1.Turn, .int .i64 p1.At.X, .int .i64 p1.At.Y, .int .i64 p1.At.Z]]) rfl rfl ?_
  refine ok_alloc rfl rfl ?_
  refine ok_nil ?_
  refine rk_seq ?_
  refine rk_regionD [(some [4], [4]), (some [3], [3]), (some [], [4]), (some [], [3]), (some [], []), (some [1], []), (some [], []), (some [], []), (some [0], []), (some [], [])] (by kernel_rfl) ?_
  refine ok_v (.ref 0 4 0 0) rfl rfl ?_
  refine ok_v (.d (.int .u8 p0.Turn)) rfl rfl ?_
  obtain ⟨r1, h2, h0⟩ := bindE h0
  refine ok_pc [.d (.int .u8 p0.Turn)] (frame_axes_ok p0.Turn r1 h2) rfl rfl rfl (.inl rfl) ?_
  refine ok_v (.ref 1 4 0 0) rfl rfl ?_
  refine ok_v (.d (.int .u8 p1.Turn)) rfl rfl ?_
  obtain ⟨r3, h4, h0⟩ := bindE h0
  refine ok_pc [.d (.int .u8 p1.Turn)] (frame_axes_ok p1.Turn r3 h4) rfl rfl rfl (.inl rfl) ?_
  refine ok_alloc rfl rfl ?_
  refine ok_alloc rfl rfl ?_
  refine ok_sto 3 (.dat 9 [[r1.1, r1.2.1, r1.2.2].flatMap enc_api_Vec]) rfl rfl ?_
  refine ok_sto 4 (.dat 9 [[.int .i64 r3.1.X, .int .i64 r3.1.Y, .int .i64 r3.1.Z, .int .i64 r3.2.1.X, .int .i64 r3.2.1.Y, .int .i64 r3.2.1.Z, .int .i64 r3.2.2.X, .int .i64 r3.2.2.Y, .int .i64 r3.2.2.Z]]) rfl rfl ?_
  refine ok_nil ?_
  refine rk_seq ?_
  refine rk_seq ?_
  refine rk_region ?_
  refine ok_mv rfl rfl ?_
  refine ok_nil ?_
  obtain ⟨m32, h33, h0⟩ := bindE h0
  refine rk_blockcut (fun b34 => b34 = m32) (fun (b34 : List api_Vec) => ⟨[(2, .ref 0 4 0 0), (3, .ref 1 4 0 0), (4, .ref 2 4 0 0), (5, .ref 3 9 0 0)], [(0, .dat 4 [[.int .u8 p0.Turn, .int .i64 p0.At.X, .int .i64 p0.At.Y, .int .i64 p0.At.Z]]), (1, .dat 4 [[.int .u8 p1.Turn, .int .i64 p1.At.X, .int .i64 p1.At.Y, .int .i64 p1.At.Z]]), (2, .dat 4 [[.int .u8 0, .int .i64 0, .int .i64 0, .int .i64 0]]), (3, .dat 9 [b34.flatMap enc_api_Vec])], 4⟩) (by simp) ?_ ?_
  · refine rk_loopF (frame_within_L1 r3) (fun (a31 : Int × List api_Vec) => ⟨[(2, .ref 0 4 0 0), (3, .ref 1 4 0 0), (4, .ref 2 4 0 0), (5, .ref 3 9 0 0), (6, .ref 4 9 0 0), (14, .d (.int .i64 a31.1))], [(0, .dat 4 [[.int .u8 p0.Turn, .int .i64 p0.At.X, .int .i64 p0.At.Y, .int .i64 p0.At.Z]]), (1, .dat 4 [[.int .u8 p1.Turn, .int .i64 p1.At.X, .int .i64 p1.At.Y, .int .i64 p1.At.Z]]), (2, .dat 4 [[.int .u8 0, .int .i64 0, .int .i64 0, .int .i64 0]]), (3, .dat 9 [a31.2.flatMap enc_api_Vec]), (4, .dat 9 [[.int .i64 r3.1.X, .int .i64 r3.1.Y, .int .i64 r3.1.Z, .int .i64 r3.2.1.X, .int .i64 r3.2.1.Y, .int .i64 r3.2.1.Z, .int .i64 r3.2.2.X, .int .i64 r3.2.2.Y, .int .i64 r3.2.2.Z]])], 5⟩) (0, [r1.1, r1.2.1, r1.2.2]) m32 h33 (wkE [(0, 0), (1, 1), (2, 2), (3, 3), (4, 4)] [] [] rfl ⟨⟨_, rfl, .ref rfl (by decide) (ltd rfl)⟩, ⟨_, rfl, .ref rfl (by decide) (ltd rfl)⟩, ⟨_, rfl, .ref rfl (by decide) (ltd rfl)⟩, ⟨_, rfl, .ref rfl (by decide) (ltd rfl)⟩, ⟨_, rfl, .ref rfl (by decide) (ltd rfl)⟩, ⟨_, rfl, .d (.refl _)⟩, trivial⟩ ⟨⟨ltd rfl, .inr ⟨by decide, _, rfl, .dat _ _⟩⟩, ⟨ltd rfl, .inr ⟨by decide, _, rfl, .dat _ _⟩⟩, ⟨ltd rfl, .inr ⟨by decide, _, rfl, .dat _ _⟩⟩, ⟨ltd rfl, .inr ⟨by decide, _, rfl, .dat _ _⟩⟩, ⟨ltd rfl, .inr ⟨by decide, _, rfl, .dat _ _⟩⟩, trivial⟩) ?_
    intro a31 y29 h30
    unfold frame_within_L1 at h30
    refine rk_seq ?_
    refine rk_region ?_
    refine ok_v (.d (.bool (decide (a31.1 < 3)))) rfl rfl ?_
    refine ok_nil ?_
    refine rk_seq ?_
    refine rk_condH rfl h30 (fun _ h30 => ?_) (fun _ h30 => ?_)
    · refine rk_skip ?_
      refine rk_seq ?_
      refine rk_block ?_
      refine rk_seq ?_
      refine rk_region ?_
      refine ok_mv rfl rfl ?_
      refine ok_as rfl rfl ?_
      refine ok_nil ?_
      refine rk_regionD [(some [3], [3]), (some [], []), (some [], []), (some [3], []), (some [], []), (some [], []), (some [4], []), (some [], [])] (by kernel_rfl) ?_
      refine ok_mv rfl rfl ?_
      refine ok_v (.d (.agg [.int .i64 r3.1.X, .int .i64 r3.1.Y, .int .i64 r3.1.Z, .int .i64 r3.2.1.X, .int .i64 r3.2.1.Y, .int .i64 r3.2.1.Z, .int .i64 r3.2.2.X, .int .i64 r3.2.2.Y, .int .i64 r3.2.2.Z])) rfl rfl ?_
      refine ok_mv rfl rfl ?_
      obtain ⟨v41, h42, h30⟩ := bindE h30
      refine ok_iaA h42 rfl rfl rfl rfl rfl ?_
      refine ok_ldA (enc := enc_api_Vec) (.d (.agg [.int .i64 v41.X, .int .i64 v41.Y, .int .i64 v41.Z])) h42 (fun _ => rfl) rfl rfl rfl rfl rfl rfl ?_
      obtain ⟨r43, h44, h30⟩ := bindE h30
      refine ok_pc [.d (.agg [.int .i64 r3.1.X, .int .i64 r3.1.Y, .int .i64 r3.1.Z, .int .i64 r3.2.1.X, .int .i64 r3.2.1.Y, .int .i64 r3.2.1.Z, .int .i64 r3.2.2.X, .int .i64 r3.2.2.Y, .int .i64 r3.2.2.Z]), .d (.agg [.int .i64 v41.X, .int .i64 v41.Y, .int .i64 v41.Z])] (frame_sum_ok r3 v41 r43 h44) rfl rfl rfl (.inl rfl) ?_
      obtain ⟨v45, h46, h30⟩ := bindE h30
      refine ok_iaA h46 rfl rfl rfl rfl rfl ?_
      refine ok_stA (enc := enc_api_Vec) r43 h46 (fun _ => rfl) rfl rfl rfl rfl rfl rfl rfl rfl ?_
      refine ok_nil ?_
      refine rk_nil ?_
      refine blk_nor ?_
      refine rk_region ?_
      refine ok_v (.d (.int .i64 (w64 (a31.1 + 1)))) rfl rfl ?_
      refine ok_mv rfl rfl ?_
      refine ok_nil ?_
      refine rk_nil ?_
      exact ⟨_, (Option.some.inj h30).symm, wkE [(0, 0), (1, 1), (2, 2), (3, 3), (4, 4)] [] [] rfl ⟨⟨_, rfl, .ref rfl (by decide) (ltd rfl)⟩, ⟨_, rfl, .ref rfl (by decide) (ltd rfl)⟩, ⟨_, rfl, .ref rfl (by decide) (ltd rfl)⟩, ⟨_, rfl, .ref rfl (by decide) (ltd rfl)⟩, ⟨_, rfl, .ref rfl (by decide) (ltd rfl)⟩, ⟨_, rfl, .d (.refl _)⟩, trivial⟩ ⟨⟨ltd rfl, .inr ⟨by decide, _, rfl, .dat _ _⟩⟩, ⟨ltd rfl, .inr ⟨by decide, _, rfl, .dat _ _⟩⟩, ⟨ltd rfl, .inr ⟨by decide, _, rfl, .dat _ _⟩⟩, ⟨ltd rfl, .inr ⟨by decide, _, rfl, .dat _ _⟩⟩, ⟨ltd rfl, .inr ⟨by decide, _, rfl, .dat _ _⟩⟩, trivial⟩⟩
    · refine rk_exit ?_
      refine ⟨_, (Option.some.inj h30).symm, fun hm => ?_⟩
      subst hm
      exact ⟨_, rfl, wkE [(0, 0), (1, 1), (2, 2), (3, 3)] [] [] rfl ⟨⟨_, rfl, .ref rfl (by decide) (ltd rfl)⟩, ⟨_, rfl, .ref rfl (by decide) (ltd rfl)⟩, ⟨_, rfl, .ref rfl (by decide) (ltd rfl)⟩, ⟨_, rfl, .ref rfl (by decide) (ltd rfl)⟩, trivial⟩ ⟨⟨ltd rfl, .inr ⟨by decide, _, rfl, .dat _ _⟩⟩, ⟨ltd rfl, .inr ⟨by decide, _, rfl, .dat _ _⟩⟩, ⟨ltd rfl, .inr ⟨by decide, _, rfl, .dat _ _⟩⟩, ⟨ltd rfl, .inr ⟨by decide, _, rfl, .dat _ _⟩⟩, trivial⟩⟩
  · intro b34 hb
    subst hb
    refine rk_seq ?_
    refine rk_regionD [(some [2], [2]), (some [], []), (some [], []), (some [0], []), (some [], []), (some [1], []), (some [], []), (some [3], [])] (by kernel_rfl) ?_
    obtain ⟨v47, h48, h0⟩ := bindE h0
    refine ok_ldW (enc := enc_api_Vec) (.d (.agg [.int .i64 v47.1.X, .int .i64 v47.1.Y, .int .i64 v47.1.Z, .int .i64 v47.2.1.X, .int .i64 v47.2.1.Y, .int .i64 v47.2.1.Z, .int .i64 v47.2.2.X, .int .i64 v47.2.2.Y, .int .i64 v47.2.2.Z])) (arr3_flat h48) rfl rfl rfl rfl rfl rfl ?_
    obtain ⟨r49, h50, h0⟩ := bindE h0
    refine ok_pc [.d (.agg [.int .i64 v47.1.X, .int .i64 v47.1.Y, .int .i64 v47.1.Z, .int .i64 v47.2.1.X, .int .i64 v47.2.1.Y, .int .i64 v47.2.1.Z, .int .i64 v47.2.2.X, .int .i64 v47.2.2.Y, .int .i64 v47.2.2.Z])] (frame_named_ok v47 r49 h50) rfl rfl rfl (.inl rfl) ?_
    refine ok_v (.d (.agg [.int .u8 p1.Turn, .int .i64 p1.At.X, .int .i64 p1.At.Y, .int .i64 p1.At.Z])) rfl rfl ?_
    refine ok_v (.ref 0 4 0 1) rfl rfl ?_
    refine ok_v (.d (.agg [.int .i64 p0.At.X, .int .i64 p0.At.Y, .int .i64 p0.At.Z])) rfl rfl ?_
    obtain ⟨r51, h52, h0⟩ := bindE h0
    refine ok_pc [.d (.agg [.int .u8 p1.Turn, .int .i64 p1.At.X, .int .i64 p1.At.Y, .int .i64 p1.At.Z]), .d (.agg [.int .i64 p0.At.X, .int .i64 p0.At.Y, .int .i64 p0.At.Z])] (frame_image_ok p1 p0.At r51 h52) rfl rfl rfl (.inl rfl) ?_
    refine ok_v (.d (.agg [.int .u8 r49, .int .i64 r51.X, .int .i64 r51.Y, .int .i64 r51.Z])) rfl rfl ?_
    refine ok_sto 2 (.dat 4 [[.int .u8 r49, .int .i64 r51.X, .int .i64 r51.Y, .int .i64 r51.Z]]) rfl rfl ?_
    refine ok_nil ?_
    refine rk_ret ?_
    obtain rfl := someE h0
    exact finD (.inr rfl) (v := .d (.agg [.int .u8 r49, .int .i64 r51.X, .int .i64 r51.Y, .int .i64 r51.Z])) rfl rfl (.refl _)

theorem frame_Within_ok (p0 : api_Frame) (p1 : api_Frame) (r : api_Frame × Int) (h0 : frame_Within p0 p1 = some r) : Pure Try.prog tab 57 [.agg [.int .u8 p0.Turn, .int .i64 p0.At.X, .int .i64 p0.At.Y, .int .i64 p0.At.Z], .agg [.int .u8 p1.Turn, .int .i64 p1.At.X, .int .i64 p1.At.Y, .int .i64 p1.At.Z]] (.tup [.agg [.int .u8 r.1.Turn, .int .i64 r.1.At.X, .int .i64 r.1.At.Y, .int .i64 r.1.At.Z], .int .i64 r.2]) := by
  unfold frame_Within at h0
  refine pure_of_run Try.func57 rfl (by kernel_rfl) (by kernel_rfl) rfl ?_
  refine rk_seq ?_
  refine rk_region ?_
  refine ok_new (.ref 0 4 0 0) (.dat 4 [[.int .u8 p0.Turn, .int .i64 p0.At.X, .int .i64 p0.At.Y, .int .i64 p0.At.Z]]) rfl rfl ?_
  refine ok_new (.ref 1 4 0 0) (.dat 4 [[.int .u8 p1.Turn, .int .i64 p1.At.X, .int .i64 p1.At.Y, .int .i64 p1.At.Z]]) rfl rfl ?_
  refine ok_alloc rfl rfl ?_
  refine ok_as rfl rfl ?_
  refine ok_nil ?_
  refine rk_seq ?_
  refine rk_seq ?_
  refine rk_region ?_
  refine ok_v (.d (.agg [.int .u8 p0.Turn, .int .i64 p0.At.X, .int .i64 p0.At.Y, .int .i64 p0.At.Z])) rfl rfl ?_
  obtain ⟨r1, h2, h0⟩ := bindE h0
  refine ok_pc [.d (.agg [.int .u8 p0.Turn, .int .i64 p0.At.X, .int .i64 p0.At.Y, .int .i64 p0.At.Z])] (frame_Check_ok p0 r1 h2) rfl rfl rfl (.inl rfl) ?_
  refine ok_as rfl rfl ?_
  refine ok_nil ?_
  refine rk_seq ?_
  refine rk_region ?_
  refine ok_mv rfl rfl ?_
  refine ok_v (.d (.bool (r1 != 0))) rfl rfl ?_
  refine ok_nil ?_
  refine rk_condH rfl h0 (fun _ h0 => ?_) (fun _ h0 => ?_)
  · refine rk_seq ?_
    refine rk_region ?_
    refine ok_v (.d (.agg [.int .u8 0, .int .i64 0, .int .i64 0, .int .i64 0])) rfl rfl ?_
    refine ok_mv rfl rfl ?_
    refine ok_sto 2 (.dat 4 [[.int .u8 0, .int .i64 0, .int .i64 0, .int .i64 0]]) rfl rfl ?_
    refine ok_as rfl rfl ?_
    refine ok_nil ?_
    refine rk_ret ?_
    obtain rfl := someE h0
    exact finD (.inr rfl) (v := .d (.tup [.agg [.int .u8 0, .int .i64 0, .int .i64 0, .int .i64 0], .int .i64 r1])) rfl rfl (.refl _)
  · refine rk_skip ?_
    refine rk_seq ?_
    refine rk_seq ?_
    refine rk_region ?_
    refine ok_v (.d (.agg [.int .u8 p1.Turn, .int .i64 p1.At.X, .int .i64 p1.At.Y, .int .i64 p1.At.Z])) rfl rfl ?_
    obtain ⟨r3, h4, h0⟩ := bindE h0
    refine ok_pc [.d (.agg [.int .u8 p1.Turn, .int .i64 p1.At.X, .int .i64 p1.At.Y, .int .i64 p1.At.Z])] (frame_Check_ok p1 r3 h4) rfl rfl rfl (.inl rfl) ?_
    refine ok_as rfl rfl ?_
    refine ok_nil ?_
    refine rk_seq ?_
    refine rk_region ?_
    refine ok_mv rfl rfl ?_
    refine ok_v (.d (.bool (r3 != 0))) rfl rfl ?_
    refine ok_nil ?_
    refine rk_condH rfl h0 (fun _ h0 => ?_) (fun _ h0 => ?_)
    · refine rk_seq ?_
      refine rk_region ?_
      refine ok_v (.d (.agg [.int .u8 0, .int .i64 0, .int .i64 0, .int .i64 0])) rfl rfl ?_
      refine ok_mv rfl rfl ?_
      refine ok_sto 2 (.dat 4 [[.int .u8 0, .int .i64 0, .int .i64 0, .int .i64 0]]) rfl rfl ?_
      refine ok_as rfl rfl ?_
      refine ok_nil ?_
      refine rk_ret ?_
      obtain rfl := someE h0
      exact finD (.inr rfl) (v := .d (.tup [.agg [.int .u8 0, .int .i64 0, .int .i64 0, .int .i64 0], .int .i64 r3])) rfl rfl (.refl _)
    · refine rk_skip ?_
      refine rk_seq ?_
      refine rk_region ?_
      refine ok_v (.d (.agg [.int .u8 p0.Turn, .int .i64 p0.At.X, .int .i64 p0.At.Y, .int .i64 p0.At.Z])) rfl rfl ?_
      refine ok_v (.d (.agg [.int .u8 p1.Turn, .int .i64 p1.At.X, .int .i64 p1.At.Y, .int .i64 p1.At.Z])) rfl rfl ?_
      obtain ⟨r5, h6, h0⟩ := bindE h0
      refine ok_pc [.d (.agg [.int .u8 p0.Turn, .int .i64 p0.At.X, .int .i64 p0.At.Y, .int .i64 p0.At.Z]), .d (.agg [.int .u8 p1.Turn, .int .i64 p1.At.X, .int .i64 p1.At.Y, .int .i64 p1.At.Z])] (frame_within_ok p0 p1 r5 h6) rfl rfl rfl (.inl rfl) ?_
      refine ok_alloc rfl rfl ?_
      refine ok_sto 3 (.dat 4 [[.int .u8 r5.Turn, .int .i64 r5.At.X, .int .i64 r5.At.Y, .int .i64 r5.At.Z]]) rfl rfl ?_
      refine ok_nil ?_
      refine rk_seq ?_
      refine rk_seq ?_
      refine rk_region ?_
      refine ok_v (.d (.agg [.int .u8 r5.Turn, .int .i64 r5.At.X, .int .i64 r5.At.Y, .int .i64 r5.At.Z])) rfl rfl ?_
      obtain ⟨r7, h8, h0⟩ := bindE h0
      refine ok_pc [.d (.agg [.int .u8 r5.Turn, .int .i64 r5.At.X, .int .i64 r5.At.Y, .int .i64 r5.At.Z])] (frame_Check_ok r5 r7 h8) rfl rfl rfl (.inl rfl) ?_
      refine ok_v (.d (.bool (r7 != 0))) rfl rfl ?_
      refine ok_nil ?_
      refine rk_condH rfl h0 (fun _ h0 => ?_) (fun _ h0 => ?_)
      · refine rk_seq ?_
        refine rk_region ?_
        refine ok_v (.d (.agg [.int .u8 0, .int .i64 0, .int .i64 0, .int .i64 0])) rfl rfl ?_
        refine ok_sto 2 (.dat 4 [[.int .u8 0, .int .i64 0, .int .i64 0, .int .i64 0]]) rfl rfl ?_
        refine ok_as rfl rfl ?_
        refine ok_nil ?_
        refine rk_ret ?_
        obtain rfl := someE h0
        exact finD (.inr rfl) (v := .d (.tup [.agg [.int .u8 0, .int .i64 0, .int .i64 0, .int .i64 0], .int .i64 16])) rfl rfl (.refl _)
      · refine rk_skip ?_
        refine rk_seq ?_
        refine rk_region ?_
        refine ok_v (.d (.agg [.int .u8 r5.Turn, .int .i64 r5.At.X, .int .i64 r5.At.Y, .int .i64 r5.At.Z])) rfl rfl ?_
        refine ok_sto 2 (.dat 4 [[.int .u8 r5.Turn, .int .i64 r5.At.X, .int .i64 r5.At.Y, .int .i64 r5.At.Z]]) rfl rfl ?_
        refine ok_as rfl rfl ?_
        refine ok_nil ?_
        refine rk_ret ?_
        obtain rfl := someE h0
        exact finD (.inr rfl) (v := .d (.tup [.agg [.int .u8 r5.Turn, .int .i64 r5.At.X, .int .i64 r5.At.Y, .int .i64 r5.At.Z], .int .i64 0])) rfl rfl (.refl _)

theorem frame_Inside_ok (p0 : api_Scope) (p1 : api_Vec) (p2 : api_Vec) (p3 : Int) (r : api_Scope × Int) (h0 : frame_Inside p0 p1 p2 p3 = some r) : Pure Try.prog tab 39 [.agg [.int .u8 p0.Frame.Turn, .int .i64 p0.Frame.At.X, .int .i64 p0.Frame.At.Y, .int .i64 p0.Frame.At.Z, .int .i64 p0.Size.X, .int .i64 p0.Size.Y, .int .i64 p0.Size.Z], .agg [.int .i64 p1.X, .int .i64 p1.Y, .int .i64 p1.Z], .agg [.int .i64 p2.X, .int .i64 p2.Y, .int .i64 p2.Z], .int .u8 p3] (.tup [.agg [.int .u8 r.1.Frame.Turn, .int .i64 r.1.Frame.At.X, .int .i64 r.1.Frame.At.Y, .int .i64 r.1.Frame.At.Z, .int .i64 r.1.Size.X, .int .i64 r.1.Size.Y, .int .i64 r.1.Size.Z], .int .i64 r.2]) := by
  unfold frame_Inside at h0
  refine pure_of_run Try.func39 rfl (by kernel_rfl) (by kernel_rfl) rfl ?_
  refine rk_seq ?_
  refine rk_region ?_
  refine ok_new (.ref 0 7 0 0) (.dat 7 [[.int .u8 p0.Frame.Turn, .int .i64 p0.Frame.At.X, .int .i64 p0.Frame.At.Y, .int .i64 p0.Frame.At.Z, .int .i64 p0.Size.X, .int .i64 p0.Size.Y, .int .i64 p0.Size.Z]]) rfl rfl ?_
  refine ok_new (.ref 1 3 0 0) (.dat 3 [[.int .i64 p1.X, .int .i64 p1.Y, .int .i64 p1.Z]]) rfl rfl ?_
  refine ok_new (.ref 2 3 0 0) (.dat 3 [[.int .i64 p2.X, .int .i64 p2.Y, .int .i64 p2.Z]]) rfl rfl ?_
  refine ok_alloc rfl rfl ?_
  refine ok_as rfl rfl ?_
  refine ok_nil ?_
  refine rk_seq ?_
  refine rk_seq ?_
  refine rk_region ?_
  refine ok_v (.d (.agg [.int .u8 p0.Frame.Turn, .int .i64 p0.Frame.At.X, .int .i64 p0.Frame.At.Y, .int .i64 p0.Frame.At.Z, .int .i64 p0.Size.X, .int .i64 p0.Size.Y, .int .i64 p0.Size.Z])) rfl rfl ?_
  obtain ⟨r1, h2, h0⟩ := bindE h0
  refine ok_pc [.d (.agg [.int .u8 p0.Frame.Turn, .int .i64 p0.Frame.At.X, .int .i64 p0.Frame.At.Y, .int .i64 p0.Frame.At.Z, .int .i64 p0.Size.X, .int .i64 p0.Size.Y, .int .i64 p0.Size.Z])] (frame_checked_ok p0 r1 h2) rfl rfl rfl (.inl rfl) ?_
  refine ok_as rfl rfl ?_
  refine ok_nil ?_
  refine rk_seq ?_
  refine rk_region ?_
  refine ok_mv rfl rfl ?_
  refine ok_v (.d (.bool (r1 != 0))) rfl rfl ?_
  refine ok_nil ?_
  refine rk_condH rfl h0 (fun _ h0 => ?_) (fun _ h0 => ?_)
  · refine rk_seq ?_
    refine rk_region ?_
    refine ok_v (.d (.agg [.int .u8 0, .int .i64 0, .int .i64 0, .int .i64 0, .int .i64 0, .int .i64 0, .int .i64 0])) rfl rfl ?_
    refine ok_mv rfl rfl ?_
    refine ok_sto 3 (.dat 7 [[.int .u8 0, .int .i64 0, .int .i64 0, .int .i64 0, .int .i64 0, .int .i64 0, .int .i64 0]]) rfl rfl ?_
    refine ok_as rfl rfl ?_
    refine ok_nil ?_
    refine rk_ret ?_
    obtain rfl := someE h0
    exact finD (.inr rfl) (v := .d (.tup [.agg [.int .u8 0, .int .i64 0, .int .i64 0, .int .i64 0, .int .i64 0, .int .i64 0, .int .i64 0], .int .i64 r1])) rfl rfl (.refl _)
  · refine rk_skip ?_
    refine rk_seq ?_
    refine rk_region ?_
    refine ok_mv rfl rfl ?_
    refine ok_v (.d (.agg [.int .i64 p1.X, .int .i64 p1.Y, .int .i64 p1.Z])) rfl rfl ?_
    refine ok_v (.d (.agg [.int .u8 p3, .int .i64 p1.X, .int .i64 p1.Y, .int .i64 p1.Z])) rfl rfl ?_
    refine ok_alloc rfl rfl ?_
    refine ok_sto 4 (.dat 4 [[.int .u8 p3, .int .i64 p1.X, .int .i64 p1.Y, .int .i64 p1.Z]]) rfl rfl ?_
    refine ok_nil ?_
    refine rk_seq ?_
    refine rk_seq ?_
    refine rk_region ?_
    refine ok_v (.d (.agg [.int .u8 p3, .int .i64 p1.X, .int .i64 p1.Y, .int .i64 p1.Z])) rfl rfl ?_
    obtain ⟨r3, h4, h0⟩ := bindE h0
    refine ok_pc [.d (.agg [.int .u8 p3, .int .i64 p1.X, .int .i64 p1.Y, .int .i64 p1.Z])] (frame_Check_ok ({ Turn := p3, At := p1 } : api_Frame) r3 h4) rfl rfl rfl (.inl rfl) ?_
    refine ok_v (.d (.bool (r3 != 0))) rfl rfl ?_
    obtain ⟨c7, h8, h0⟩ := bindE h0
    refine ok_cutQ 5 (fun A st => ∃ (j9 j10 j11 j12 : V), st = A [(29, .d (.bool c7)), (28, j12), (27, j11), (26, j10), (25, j9)]) ?_ ?_
    · refine ok_mvB rfl rfl h8 (fun h8 => ?_) (fun h8 => ?_)
      · refine ok_sg rfl ?_
        refine ok_sg rfl ?_
        refine ok_sg rfl ?_
        refine ok_v (.d (.bool true)) rfl rfl ?_
        refine ok_nil ?_
        obtain rfl := someE h8
        exact ⟨_, _, _, _, rfl⟩
      · refine ok_v (.d (.agg [.int .i64 p2.X, .int .i64 p2.Y, .int .i64 p2.Z])) rfl rfl ?_
        obtain ⟨r13, h14, h8⟩ := bindE h8
        refine ok_pc [.d (.agg [.int .i64 p2.X, .int .i64 p2.Y, .int .i64 p2.Z]), .d (.int .i64 0)] (frame_fine_ok p2 0 r13 h14) rfl rfl rfl (.inl rfl) ?_
        refine ok_v (.d (.bool (!r13))) rfl rfl ?_
        refine ok_v (.d (.bool (!r13))) rfl rfl ?_
        refine ok_nil ?_
        obtain rfl := someE h8
        exact ⟨_, _, _, _, rfl⟩
    · rintro _ ⟨j9, j10, j11, j12, rfl⟩
      refine ok_nil ?_
      refine rk_condH rfl h0 (fun _ h0 => ?_) (fun _ h0 => ?_)
      · refine rk_seq ?_
        refine rk_region ?_
        refine ok_v (.d (.agg [.int .u8 0, .int .i64 0, .int .i64 0, .int .i64 0, .int .i64 0, .int .i64 0, .int .i64 0])) rfl rfl ?_
        refine ok_sto 3 (.dat 7 [[.int .u8 0, .int .i64 0, .int .i64 0, .int .i64 0, .int .i64 0, .int .i64 0, .int .i64 0]]) rfl rfl ?_
        refine ok_as rfl rfl ?_
        refine ok_nil ?_
        refine rk_ret ?_
        obtain rfl := someE h0
        exact finD (.inr rfl) (v := .d (.tup [.agg [.int .u8 0, .int .i64 0, .int .i64 0, .int .i64 0, .int .i64 0, .int .i64 0, .int .i64 0], .int .i64 2])) rfl rfl (.refl _)
      · refine rk_skip ?_
        refine rk_seq ?_
        refine rk_region ?_
        refine ok_v (.d (.agg [.int .u8 p3, .int .i64 p1.X, .int .i64 p1.Y, .int .i64 p1.Z])) rfl rfl ?_
        refine ok_v (.ref 0 7 0 0) rfl rfl ?_
        refine ok_v (.d (.agg [.int .u8 p0.Frame.Turn, .int .i64 p0.Frame.At.X, .int .i64 p0.Frame.At.Y, .int .i64 p0.Frame.At.Z])) rfl rfl ?_
        obtain ⟨r15, h16, h0⟩ := bindE h0
        refine ok_pc [.d (.agg [.int .u8 p3, .int .i64 p1.X, .int .i64 p1.Y, .int .i64 p1.Z]), .d (.agg [.int .u8 p0.Frame.Turn, .int .i64 p0.Frame.At.X, .int .i64 p0.Frame.At.Y, .int .i64 p0.Frame.At.Z])] (frame_Within_ok ({ Turn := p3, At := p1 } : api_Frame) p0.Frame r15 h16) rfl rfl rfl (.inl rfl) ?_
        refine ok_mv rfl rfl ?_
        refine ok_v (.d (.agg [.int .u8 r15.1.Turn, .int .i64 r15.1.At.X, .int .i64 r15.1.At.Y, .int .i64 r15.1.At.Z])) rfl rfl ?_
        refine ok_v (.d (.int .i64 r15.2)) rfl rfl ?_
        refine ok_sto 4 (.dat 4 [[.int .u8 r15.1.Turn, .int .i64 r15.1.At.X, .int .i64 r15.1.At.Y, .int .i64 r15.1.At.Z]]) rfl rfl ?_
        refine ok_as rfl rfl ?_
        refine ok_nil ?_
        refine rk_seq ?_
        refine rk_seq ?_
        refine rk_region ?_
        refine ok_mv rfl rfl ?_
        refine ok_v (.d (.bool (r15.2 != 0))) rfl rfl ?_
        refine ok_nil ?_
        refine rk_condH rfl h0 (fun _ h0 => ?_) (fun _ h0 => ?_)
        · refine rk_seq ?_
          refine rk_region ?_
          refine ok_v (.d (.agg [.int .u8 0, .int .i64 0, .int .i64 0, .int .i64 0, .int .i64 0, .int .i64 0, .int .i64 0])) rfl rfl ?_
          refine ok_mv rfl rfl ?_
          refine ok_sto 3 (.dat 7 [[.int .u8 0, .int .i64 0, .int .i64 0, .int .i64 0, .int .i64 0, .int .i64 0, .int .i64 0]]) rfl rfl ?_
          refine ok_as rfl rfl ?_
          refine ok_nil ?_
          refine rk_ret ?_
          obtain rfl := someE h0
          exact finD (.inr rfl) (v := .d (.tup [.agg [.int .u8 0, .int .i64 0, .int .i64 0, .int .i64 0, .int .i64 0, .int .i64 0, .int .i64 0], .int .i64 r15.2])) rfl rfl (.refl _)
        · refine rk_skip ?_
          refine rk_seq ?_
          refine rk_region ?_
          refine ok_v (.d (.agg [.int .u8 r15.1.Turn, .int .i64 r15.1.At.X, .int .i64 r15.1.At.Y, .int .i64 r15.1.At.Z])) rfl rfl ?_
          refine ok_v (.d (.agg [.int .i64 p2.X, .int .i64 p2.Y, .int .i64 p2.Z])) rfl rfl ?_
          refine ok_v (.d (.agg [.int .u8 r15.1.Turn, .int .i64 r15.1.At.X, .int .i64 r15.1.At.Y, .int .i64 r15.1.At.Z, .int .i64 p2.X, .int .i64 p2.Y, .int .i64 p2.Z])) rfl rfl ?_
          refine ok_sto 3 (.dat 7 [[.int .u8 r15.1.Turn, .int .i64 r15.1.At.X, .int .i64 r15.1.At.Y, .int .i64 r15.1.At.Z, .int .i64 p2.X, .int .i64 p2.Y, .int .i64 p2.Z]]) rfl rfl ?_
          refine ok_as rfl rfl ?_
          refine ok_nil ?_
          refine rk_ret ?_
          obtain rfl := someE h0
          exact finD (.inr rfl) (v := .d (.tup [.agg [.int .u8 r15.1.Turn, .int .i64 r15.1.At.X, .int .i64 r15.1.At.Y, .int .i64 r15.1.At.Z, .int .i64 p2.X, .int .i64 p2.Y, .int .i64 p2.Z], .int .i64 0])) rfl rfl (.refl _)

theorem slices_IndexFunc_int_int_ok (p0 : List Int) (p1 : Int → Option Bool) (p1F : FuncId) (p1C : List DV) (p1Ok : ∀ (x0 : Int) (r : Bool), p1 x0 = some r → Pure Try.prog tab p1F ([.int .i64 x0] ++ p1C) (.bool r)) (r : Int) (h0 : slices_IndexFunc_int_int p0 p1 = some r) : Pure Try.prog tab 50 [.sl 1 (p0.map (eI .i64)), .fn p1F p1C] (.int .i64 r) := by
  unfold slices_IndexFunc_int_int at h0
  refine pure_of_run Try.func50 rfl (by kernel_rfl) (by kernel_rfl) rfl ?_
  refine rk_seq ?_
  refine rk_region ?_
  refine ok_as rfl rfl ?_
  refine ok_nil ?_
  refine rk_seq ?_
  refine rk_seq ?_
  refine rk_region ?_
  refine ok_mv rfl rfl ?_
  refine ok_ln rfl rfl rfl rfl ?_
  refine ok_mv rfl rfl ?_
  refine ok_nil ?_
  obtain ⟨m20, h21, h0⟩ := bindE h0
  refine rk_blockcut (fun b22 => .inl b22 = m20) (fun (b22 : Unit) => ⟨[], [], 0⟩) (by simp) ?_ ?_
  · refine rk_loopF (slices_IndexFunc_int_int_L1 p0 p1) (fun (a19 : Int) => ⟨[(0, .d (.sl 1 (p0.map (eI .i64)))), (1, .d (.fn p1F p1C)), (7, .d (.int .i64 (p0.length : Int))), (8, .d (.int .i64 a19))], [], 0⟩) 0 m20 h21 (wkE [] [] [] rfl ⟨⟨_, rfl, .d (.refl _)⟩, ⟨_, rfl, .d (.refl _)⟩, ⟨_, rfl, .d (.refl _)⟩, ⟨_, rfl, .d (.refl _)⟩, trivial⟩ trivial) ?_
    intro a19 y17 h18
    unfold slices_IndexFunc_int_int_L1 at h18
    refine rk_seq ?_
    refine rk_region ?_
    refine ok_v (.d (.bool (decide (a19 < (p0.length : Int))))) rfl rfl ?_
    refine ok_nil ?_
    refine rk_seq ?_
    refine rk_condH rfl h18 (fun _ h18 => ?_) (fun _ h18 => ?_)
    · refine rk_skip ?_
      refine rk_seq ?_
      refine rk_block ?_
      refine rk_seq ?_
      refine rk_region ?_
      refine ok_mv rfl rfl ?_
      refine ok_as rfl rfl ?_
      refine ok_nil ?_
      refine rk_seq ?_
      refine rk_region ?_
      refine ok_mv rfl rfl ?_
      refine ok_mv rfl rfl ?_
      refine ok_mv rfl rfl ?_
      obtain ⟨v27, h28, h18⟩ := bindE h18
      refine ok_ix (enc := (eI .i64)) h28 rfl rfl rfl rfl rfl rfl ?_
      refine ok_v (.d (.int .i64 v27)) rfl rfl ?_
      obtain ⟨r29, h30, h18⟩ := bindE h18
      refine ok_pf [.d (.int .i64 v27)] (p1Ok v27 r29 h30) rfl rfl rfl (.inl rfl) ?_
      refine ok_nil ?_
      refine rk_condH rfl h18 (fun _ h18 => ?_) (fun _ h18 => ?_)
      · refine rk_seq ?_
        refine rk_region ?_
        refine ok_mv rfl rfl ?_
        refine ok_as rfl rfl ?_
        refine ok_nil ?_
        refine rk_ret ?_
        refine ⟨_, (Option.some.inj h18).symm, fun hm => ?_⟩
        subst hm
        obtain rfl := someE h0
        exact finD (.inr rfl) (v := .d (.int .i64 a19)) rfl rfl (.refl _)
      · refine rk_skip ?_
        refine rk_nil ?_
        refine blk_nor ?_
        refine rk_region ?_
        refine ok_v (.d (.int .i64 (w64 (a19 + 1)))) rfl rfl ?_
        refine ok_mv rfl rfl ?_
        refine ok_nil ?_
        refine rk_nil ?_
        exact ⟨_, (Option.some.inj h18).symm, wkE [] [] [] rfl ⟨⟨_, rfl, .d (.refl _)⟩, ⟨_, rfl, .d (.refl _)⟩, ⟨_, rfl, .d (.refl _)⟩, ⟨_, rfl, .d (.refl _)⟩, trivial⟩ trivial⟩
    · refine rk_exit ?_
      refine ⟨_, (Option.some.inj h18).symm, fun hm => ?_⟩
      subst hm
      exact ⟨_, rfl, wkE [] [] [] rfl trivial trivial⟩
  · intro b22 hb
    subst hb
    refine rk_seq ?_
    refine rk_region ?_
    refine ok_as rfl rfl ?_
    refine ok_nil ?_
    refine rk_ret ?_
    obtain rfl := someE h0
    exact finD (.inr rfl) (v := .d (.int .i64 (-1))) rfl rfl (.refl _)

theorem slices_ContainsFunc_int_int_ok (p0 : List Int) (p1 : Int → Option Bool) (p1F : FuncId) (p1C : List DV) (p1Ok : ∀ (x0 : Int) (r : Bool), p1 x0 = some r → Pure Try.prog tab p1F ([.int .i64 x0] ++ p1C) (.bool r)) (r : Bool) (h0 : slices_ContainsFunc_int_int p0 p1 = some r) : Pure Try.prog tab 34 [.sl 1 (p0.map (eI .i64)), .fn p1F p1C] (.bool r) := by
  unfold slices_ContainsFunc_int_int at h0
  refine pure_of_run Try.func34 rfl (by kernel_rfl) (by kernel_rfl) rfl ?_
  refine rk_seq ?_
  refine rk_region ?_
  refine ok_as rfl rfl ?_
  refine ok_nil ?_
  refine rk_seq ?_
  refine rk_region ?_
  refine ok_mv rfl rfl ?_
  refine ok_mv rfl rfl ?_
  obtain ⟨r1, h2, h0⟩ := bindE h0
  refine ok_pc [.d (.sl 1 (p0.map (eI .i64))), .d (.fn p1F p1C)] (slices_IndexFunc_int_int_ok p0 p1 p1F p1C p1Ok r1 h2) rfl rfl rfl (.inl rfl) ?_
  refine ok_v (.d (.bool (decide (r1 ≥ 0)))) rfl rfl ?_
  refine ok_as rfl rfl ?_
  refine ok_nil ?_
  refine rk_ret ?_
  obtain rfl := someE h0
  exact finD (.inr rfl) (v := .d (.bool (decide (r1 ≥ 0)))) rfl rfl (.refl _)

theorem split_Cuts_1_ok (p0 : Int) (r : Bool) (h0 : split_Cuts_1 p0 = some r) : Pure Try.prog tab 35 [.int .i64 p0] (.bool r) := by
  unfold split_Cuts_1 at h0
  refine pure_of_run Try.func35 rfl (by kernel_rfl) (by kernel_rfl) rfl ?_
  refine rk_seq ?_
  refine rk_region ?_
  refine ok_as rfl rfl ?_
  refine ok_nil ?_
  refine rk_seq ?_
  refine rk_region ?_
  refine ok_mv rfl rfl ?_
  refine ok_v (.d (.bool (decide (p0 < 0)))) rfl rfl ?_
  refine ok_as rfl rfl ?_
  refine ok_nil ?_
  refine rk_ret ?_
  obtain rfl := someE h0
  exact finD (.inr rfl) (v := .d (.bool (decide (p0 < 0)))) rfl rfl (.refl _)

theorem split_Cuts_ok (p0 : List Int) (r : List Int × Int) (h0 : split_Cuts p0 = some r) : Pure Try.prog tab 16 [.sl 1 (p0.map (eI .i64))] (.tup [.sl 1 (r.1.map (eI .i64)), .int .i64 r.2]) := by
  unfold split_Cuts at h0
  refine pure_of_run Try.func16 rfl (by kernel_rfl) (by kernel_rfl) rfl ?_
  refine rk_seq ?_
  refine rk_region ?_
  refine ok_as rfl rfl ?_
  refine ok_as rfl rfl ?_
  refine ok_nil ?_
  refine rk_seq ?_
  refine rk_seq ?_
  refine rk_region ?_
  refine ok_mv rfl rfl ?_
  refine ok_ln rfl rfl rfl rfl ?_
  refine ok_v (.d (.bool (decide ((p0.length : Int) > 200)))) rfl rfl ?_
  refine ok_nil ?_
  refine rk_condH rfl h0 (fun _ h0 => ?_) (fun _ h0 => ?_)
  · refine rk_seq ?_
    refine rk_region ?_
    refine ok_as rfl rfl ?_
    refine ok_as rfl rfl ?_
    refine ok_nil ?_
    refine rk_ret ?_
    obtain rfl := someE h0
    exact finD (.inr rfl) (v := .d (.tup [.nilsl, .int .i64 4])) rfl rfl (dle_tup (.cons (.nil _) (.cons (.refl _) .nil)))
  · refine rk_skip ?_
    refine rk_seq ?_
    refine rk_seq ?_
    refine rk_region ?_
    refine ok_mv rfl rfl ?_
    obtain ⟨r1, h2, h0⟩ := bindE h0
    refine ok_pc [.d (.sl 1 (p0.map (eI .i64))), .d (.fn 35 [])] (slices_ContainsFunc_int_int_ok p0 (fun x0 => split_Cuts_1 x0) 35 [] (fun x0 r hr => split_Cuts_1_ok x0 r hr) r1 h2) rfl rfl rfl (.inl rfl) ?_
    refine ok_nil ?_
    refine rk_condH rfl h0 (fun _ h0 => ?_) (fun _ h0 => ?_)
    · refine rk_seq ?_
      refine rk_region ?_
      refine ok_as rfl rfl ?_
      refine ok_as rfl rfl ?_
      refine ok_nil ?_
      refine rk_ret ?_
      obtain rfl := someE h0
      exact finD (.inr rfl) (v := .d (.tup [.nilsl, .int .i64 8])) rfl rfl (dle_tup (.cons (.nil _) (.cons (.refl _) .nil)))
    · refine rk_skip ?_
      refine rk_seq ?_
      refine rk_region ?_
      refine ok_new (.hs 0 1 0 [0].length) (.dat 1 ([0].map (eI .i64))) rfl rfl ?_
      refine ok_as rfl rfl ?_
      refine ok_nil ?_
      refine rk_seq ?_
      refine rk_seq ?_
      refine rk_region ?_
      refine ok_mv rfl rfl ?_
      refine ok_ln rfl rfl rfl rfl ?_
      refine ok_mv rfl rfl ?_
      refine ok_nil ?_
      obtain ⟨m38, h39, h0⟩ := bindE h0
      refine rk_blockcut (fun b40 => .inl b40 = m38) (fun (b40 : List Int) => ⟨[(4, .hs 0 1 0 b40.length)], [(0, .dat 1 (b40.map (eI .i64)))], 1⟩) (by simp) ?_ ?_
      · refine rk_loopF (split_Cuts_L1 p0) (fun (a37 : Int × List Int) => ⟨[(4, .hs 0 1 0 a37.2.length), (13, .d (.sl 1 (p0.map (eI .i64)))), (14, .d (.int .i64 (p0.length : Int))), (15, .d (.int .i64 a37.1))], [(0, .dat 1 (a37.2.map (eI .i64)))], 1⟩) (0, [0]) m38 h39 (wkE [(0, 0)] [] [] rfl ⟨⟨_, rfl, .hs rfl (by decide) (ltd rfl)⟩, ⟨_, rfl, .d (.refl _)⟩, ⟨_, rfl, .d (.refl _)⟩, ⟨_, rfl, .d (.refl _)⟩, trivial⟩ ⟨⟨ltd rfl, .inr ⟨by decide, _, rfl, .dat _ _⟩⟩, trivial⟩) ?_
        intro a37 y35 h36
        unfold split_Cuts_L1 at h36
        refine rk_seq ?_
        refine rk_region ?_
        refine ok_v (.d (.bool (decide (a37.1 < (p0.length : Int))))) rfl rfl ?_
        refine ok_nil ?_
        refine rk_seq ?_
        refine rk_condH rfl h36 (fun _ h36 => ?_) (fun _ h36 => ?_)
        · refine rk_skip ?_
          refine rk_seq ?_
          refine rk_block ?_
          refine rk_seq ?_
          refine rk_region ?_
          refine ok_mv rfl rfl ?_
          obtain ⟨v49, h50, h36⟩ := bindE h36
          refine ok_ix (enc := (eI .i64)) h50 rfl rfl rfl rfl rfl rfl ?_
          refine ok_v (.d (.int .i64 v49)) rfl rfl ?_
          refine ok_as rfl rfl ?_
          refine ok_as rfl rfl ?_
          refine ok_nil ?_
          refine rk_seq ?_
          refine rk_seq ?_
          refine rk_region ?_
          refine ok_mv rfl rfl ?_
          refine ok_mv rfl rfl ?_
          refine ok_mv rfl rfl ?_
          obtain ⟨v51, h52, h36⟩ := bindE h36
          refine ok_ih h52 rfl rfl rfl rfl rfl rfl rfl ?_
          refine ok_lh (.d (.int .i64 v51)) h52 rfl rfl rfl rfl rfl rfl ?_
          refine ok_v (.d (.int .i64 (w64 (1000000 - v51)))) rfl rfl ?_
          refine ok_v (.d (.bool (decide (v49 > (w64 (1000000 - v51)))))) rfl rfl ?_
          refine ok_nil ?_
          refine rk_condH rfl h36 (fun _ h36 => ?_) (fun _ h36 => ?_)
          · refine rk_seq ?_
            refine rk_region ?_
            refine ok_as rfl rfl ?_
            refine ok_as rfl rfl ?_
            refine ok_nil ?_
            refine rk_ret ?_
            refine ⟨_, (Option.some.inj h36).symm, fun hm => ?_⟩
            subst hm
            obtain rfl := someE h0
            exact finD (.inr rfl) (v := .d (.tup [.nilsl, .int .i64 16])) rfl rfl (dle_tup (.cons (.nil _) (.cons (.refl _) .nil)))
          · refine rk_skip ?_
            refine rk_region ?_
            refine ok_mv rfl rfl ?_
            refine ok_mv rfl rfl ?_
            refine ok_mv rfl rfl ?_
            obtain ⟨v53, h54, h36⟩ := bindE h36
            refine ok_ih h54 rfl rfl rfl rfl rfl rfl rfl ?_
            refine ok_lh (.d (.int .i64 v53)) h54 rfl rfl rfl rfl rfl rfl ?_
            refine ok_mv rfl rfl ?_
            refine ok_v (.d (.int .i64 (w64 (v53 + v49)))) rfl rfl ?_
            refine ok_new (.hs 1 1 0 [w64 (v53 + v49)].length) (.dat 1 ([w64 (v53 + v49)].map (eI .i64))) rfl rfl ?_
            obtain ⟨z55, h56, h36⟩ := bindE h36
            refine ok_ap (xs := a37.2) (ys := [w64 (v53 + v49)]) (enc := (eI .i64)) (.hs 1 1 0 [w64 (v53 + v49)].length) h56 rfl rfl rfl rfl rfl rfl rfl (conts_hs rfl rfl) rfl rfl rfl rfl ?_
            refine ok_as rfl rfl ?_
            refine ok_nil ?_
            refine rk_nil ?_
            refine blk_nor ?_
            refine rk_region ?_
            refine ok_v (.d (.int .i64 (w64 (a37.1 + 1)))) rfl rfl ?_
            refine ok_mv rfl rfl ?_
            refine ok_nil ?_
            refine rk_nil ?_
            exact ⟨_, (Option.some.inj h36).symm, wkE [(0, 2)] [] [] rfl ⟨⟨_, rfl, .hs rfl (by decide) (ltd rfl)⟩, ⟨_, rfl, .d (.refl _)⟩, ⟨_, rfl, .d (.refl _)⟩, ⟨_, rfl, .d (.refl _)⟩, trivial⟩ ⟨⟨ltd rfl, .inr ⟨by decide, _, rfl, .dat _ _⟩⟩, trivial⟩⟩
        · refine rk_exit ?_
          refine ⟨_, (Option.some.inj h36).symm, fun hm => ?_⟩
          subst hm
          exact ⟨_, rfl, wkE [(0, 0)] [] [] rfl ⟨⟨_, rfl, .hs rfl (by decide) (ltd rfl)⟩, trivial⟩ ⟨⟨ltd rfl, .inr ⟨by decide, _, rfl, .dat _ _⟩⟩, trivial⟩⟩
      · intro b40 hb
        subst hb
        refine rk_seq ?_
        refine rk_region ?_
        refine ok_mv rfl rfl ?_
        refine ok_as rfl rfl ?_
        refine ok_as rfl rfl ?_
        refine ok_nil ?_
        refine rk_ret ?_
        obtain rfl := someE h0
        exact finD (.inr rfl) (v := .tup [.hs 0 1 0 b40.length, .d (.int .i64 0)]) rfl (td_tup (mm_cons (td_hs rfl rfl) (mm_cons rfl rfl))) (.refl _)

theorem split_along_ok (p0 : api_Vec) (p1 : Int) (p2 : Int) (r : api_Vec) (h0 : split_along p0 p1 p2 = some r) : Pure Try.prog tab 40 [.agg [.int .i64 p0.X, .int .i64 p0.Y, .int .i64 p0.Z], .int .i64 p1, .int .i64 p2] (.agg [.int .i64 r.X, .int .i64 r.Y, .int .i64 r.Z]) := by
  unfold split_along at h0
  refine pure_of_run Try.func40 rfl (by kernel_rfl) (by kernel_rfl) rfl ?_
  refine rk_seq ?_
  refine rk_region ?_
  refine ok_new (.ref 0 3 0 0) (.dat 3 [[.int .i64 p0.X, .int .i64 p0.Y, .int .i64 p0.Z]]) rfl rfl ?_
  refine ok_alloc rfl rfl ?_
  refine ok_nil ?_
  refine rk_seq ?_
  refine rk_seq ?_
  refine rk_region ?_
  refine ok_mv rfl rfl ?_
  refine ok_nil ?_
  obtain ⟨m2, h1, h0⟩ := bindE h0
  refine rk_blockcut (fun b3 => b3 = m2) (fun (b3 : Int × Int × Int) => ⟨[(3, .ref 0 3 0 0), (6, .ref 1 3 0 0)], [(0, .dat 3 [[.int .i64 b3.1, .int .i64 b3.2.1, .int .i64 b3.2.2]]), (1, .dat 3 [[.int .i64 0, .int .i64 0, .int .i64 0]])], 2⟩) (by simp) ?_ ?_
  · refine rk_seq ?_
    refine rk_region ?_
    refine ok_v (.d (.bool (p1 == 0))) rfl rfl ?_
    refine ok_as rfl rfl ?_
    refine ok_nil ?_
    refine rk_condH rfl h1 (fun _ h1 => ?_) (fun _ h1 => ?_)
    · refine rk_region ?_
      refine ok_mv rfl rfl ?_
      refine ok_v (.ref 0 3 0 0) rfl rfl ?_
      refine ok_sto 0 (.dat 3 [[.int .i64 p2, .int .i64 p0.Y, .int .i64 p0.Z]]) rfl rfl ?_
      refine ok_nil ?_
      refine rk_nil ?_
      obtain rfl := someE h1
      exact ⟨_, rfl, wkE [(0, 0), (1, 1)] [] [] rfl ⟨⟨_, rfl, .ref rfl (by decide) (ltd rfl)⟩, ⟨_, rfl, .ref rfl (by decide) (ltd rfl)⟩, trivial⟩ ⟨⟨ltd rfl, .inr ⟨by decide, _, rfl, .dat _ _⟩⟩, ⟨ltd rfl, .inr ⟨by decide, _, rfl, .dat _ _⟩⟩, trivial⟩⟩
    · refine rk_seq ?_
      refine rk_region ?_
      refine ok_v (.d (.bool (p1 == 1))) rfl rfl ?_
      refine ok_as rfl rfl ?_
      refine ok_nil ?_
      refine rk_condH rfl h1 (fun _ h1 => ?_) (fun _ h1 => ?_)
      · refine rk_region ?_
        refine ok_mv rfl rfl ?_
        refine ok_v (.ref 0 3 0 1) rfl rfl ?_
        refine ok_sto 0 (.dat 3 [[.int .i64 p0.X, .int .i64 p2, .int .i64 p0.Z]]) rfl rfl ?_
        refine ok_nil ?_
        refine rk_nil ?_
        obtain rfl := someE h1
        exact ⟨_, rfl, wkE [(0, 0), (1, 1)] [] [] rfl ⟨⟨_, rfl, .ref rfl (by decide) (ltd rfl)⟩, ⟨_, rfl, .ref rfl (by decide) (ltd rfl)⟩, trivial⟩ ⟨⟨ltd rfl, .inr ⟨by decide, _, rfl, .dat _ _⟩⟩, ⟨ltd rfl, .inr ⟨by decide, _, rfl, .dat _ _⟩⟩, trivial⟩⟩
      · refine rk_region ?_
        refine ok_mv rfl rfl ?_
        refine ok_v (.ref 0 3 0 2) rfl rfl ?_
        refine ok_sto 0 (.dat 3 [[.int .i64 p0.X, .int .i64 p0.Y, .int .i64 p2]]) rfl rfl ?_
        refine ok_nil ?_
        refine rk_nil ?_
        obtain rfl := someE h1
        exact ⟨_, rfl, wkE [(0, 0), (1, 1)] [] [] rfl ⟨⟨_, rfl, .ref rfl (by decide) (ltd rfl)⟩, ⟨_, rfl, .ref rfl (by decide) (ltd rfl)⟩, trivial⟩ ⟨⟨ltd rfl, .inr ⟨by decide, _, rfl, .dat _ _⟩⟩, ⟨ltd rfl, .inr ⟨by decide, _, rfl, .dat _ _⟩⟩, trivial⟩⟩
  · intro b3 hb
    subst hb
    refine rk_seq ?_
    refine rk_region ?_
    refine ok_v (.d (.agg [.int .i64 b3.1, .int .i64 b3.2.1, .int .i64 b3.2.2])) rfl rfl ?_
    refine ok_sto 1 (.dat 3 [[.int .i64 b3.1, .int .i64 b3.2.1, .int .i64 b3.2.2]]) rfl rfl ?_
    refine ok_nil ?_
    refine rk_ret ?_
    obtain rfl := someE h0
    exact finD (.inr rfl) (v := .d (.agg [.int .i64 b3.1, .int .i64 b3.2.1, .int .i64 b3.2.2])) rfl rfl (.refl _)

theorem split_Scopes_ok (p0 : api_Scope) (p1 : Int) (p2 : List Int) (r : List api_Scope × Int) (h0 : split_Scopes p0 p1 p2 = some r) : Pure Try.prog tab 22 [.agg [.int .u8 p0.Frame.Turn, .int .i64 p0.Frame.At.X, .int .i64 p0.Frame.At.Y, .int .i64 p0.Frame.At.Z, .int .i64 p0.Size.X, .int .i64 p0.Size.Y, .int .i64 p0.Size.Z], .int .i64 p1, .sl 1 (p2.map (eI .i64))] (.tup [.sl 7 (r.1.map enc_api_Scope), .int .i64 r.2]) := by
  unfold split_Scopes at h0
  refine pure_of_run Try.func22 rfl (by kernel_rfl) (by kernel_rfl) rfl ?_
  refine rk_seq ?_
  refine rk_region ?_
  refine ok_new (.ref 0 7 0 0) (.dat 7 [[.int .u8 p0.Frame.Turn, .int .i64 p0.Frame.At.X, .int .i64 p0.Frame.At.Y, .int .i64 p0.Frame.At.Z, .int .i64 p0.Size.X, .int .i64 p0.Size.Y, .int .i64 p0.Size.Z]]) rfl rfl ?_
  refine ok_as rfl rfl ?_
  refine ok_as rfl rfl ?_
  refine ok_nil ?_
  refine rk_seq ?_
  refine rk_region ?_
  refine ok_v (.d (.agg [.int .u8 p0.Frame.Turn, .int .i64 p0.Frame.At.X, .int .i64 p0.Frame.At.Y, .int .i64 p0.Frame.At.Z, .int .i64 p0.Size.X, .int .i64 p0.Size.Y, .int .i64 p0.Size.Z])) rfl rfl ?_
  refine ok_v (.d (.agg [.int .i64 0, .int .i64 0, .int .i64 0])) rfl rfl ?_
  refine ok_v (.d (.agg [.int .i64 0, .int .i64 0, .int .i64 0])) rfl rfl ?_
  obtain ⟨r1, h2, h0⟩ := bindE h0
  refine ok_pc [.d (.agg [.int .u8 p0.Frame.Turn, .int .i64 p0.Frame.At.X, .int .i64 p0.Frame.At.Y, .int .i64 p0.Frame.At.Z, .int .i64 p0.Size.X, .int .i64 p0.Size.Y, .int .i64 p0.Size.Z]), .d (.agg [.int .i64 0, .int .i64 0, .int .i64 0]), .d (.agg [.int .i64 0, .int .i64 0, .int .i64 0]), .d (.int .u8 0)] (frame_Inside_ok p0 ({ X := 0, Y := 0, Z := 0 } : api_Vec) ({ X := 0, Y := 0, Z := 0 } : api_Vec) 0 r1 h2) rfl rfl rfl (.inl rfl) ?_
  refine ok_mv rfl rfl ?_
  refine ok_v (.d (.agg [.int .u8 r1.1.Frame.Turn, .int .i64 r1.1.Frame.At.X, .int .i64 r1.1.Frame.At.Y, .int .i64 r1.1.Frame.At.Z, .int .i64 r1.1.Size.X, .int .i64 r1.1.Size.Y, .int .i64 r1.1.Size.Z])) rfl rfl ?_
  refine ok_v (.d (.int .i64 r1.2)) rfl rfl ?_
  refine ok_alloc rfl rfl ?_
  refine ok_sto 1 (.dat 7 [[.int .u8 r1.1.Frame.Turn, .int .i64 r1.1.Frame.At.X, .int .i64 r1.1.Frame.At.Y, .int .i64 r1.1.Frame.At.Z, .int .i64 r1.1.Size.X, .int .i64 r1.1.Size.Y, .int .i64 r1.1.Size.Z]]) rfl rfl ?_
  refine ok_as rfl rfl ?_
  refine ok_nil ?_
  refine rk_seq ?_
  refine rk_region ?_
  refine ok_v (.ref 0 7 0 4) rfl rfl ?_
  refine ok_v (.d (.agg [.int .i64 p0.Size.X, .int .i64 p0.Size.Y, .int .i64 p0.Size.Z])) rfl rfl ?_
  refine ok_alloc rfl rfl ?_
  refine ok_sto 2 (.dat 3 [[.int .i64 p0.Size.X, .int .i64 p0.Size.Y, .int .i64 p0.Size.Z]]) rfl rfl ?_
  refine ok_nil ?_
  refine rk_seq ?_
  refine rk_seq ?_
  refine rk_region ?_
  refine ok_mv rfl rfl ?_
  refine ok_v (.d (.bool (r1.2 != 0))) rfl rfl ?_
  obtain ⟨c3, h4, h0⟩ := bindE h0
  refine ok_cutQ 10 (fun A st => ∃ (j5 j6 j7 j8 j9 j10 j11 j12 j13 : V), st = A [(37, .d (.bool c3)), (36, j13), (35, j12), (34, j11), (33, j10), (32, j9), (31, j8), (30, j7), (29, j6), (28, j5)]) ?_ ?_
  · refine ok_mvB rfl rfl h4 (fun h4 => ?_) (fun h4 => ?_)
    · refine ok_sg rfl ?_
      refine ok_sg rfl ?_
      refine ok_sg rfl ?_
      refine ok_sg rfl ?_
      refine ok_sg rfl ?_
      refine ok_sg rfl ?_
      refine ok_sg rfl ?_
      refine ok_sg rfl ?_
      refine ok_v (.d (.bool true)) rfl rfl ?_
      refine ok_nil ?_
      obtain rfl := someE h4
      exact ⟨_, _, _, _, _, _, _, _, _, rfl⟩
    · refine ok_v (.ref 2 3 0 0) rfl rfl ?_
      refine ok_v (.d (.int .i64 p0.Size.X)) rfl rfl ?_
      refine ok_v (.ref 2 3 0 1) rfl rfl ?_
      refine ok_v (.d (.int .i64 p0.Size.Y)) rfl rfl ?_
      refine ok_v (.ref 2 3 0 2) rfl rfl ?_
      refine ok_v (.d (.int .i64 p0.Size.Z)) rfl rfl ?_
      refine ok_min (r := min (min p0.Size.X p0.Size.Y) p0.Size.Z) rfl rfl (by simp only [minI_min]; rfl) ?_
      refine ok_v (.d (.bool (decide ((min (min p0.Size.X p0.Size.Y) p0.Size.Z) < 0)))) rfl rfl ?_
      refine ok_v (.d (.bool (decide ((min (min p0.Size.X p0.Size.Y) p0.Size.Z) < 0)))) rfl rfl ?_
      refine ok_nil ?_
      obtain rfl := someE h4
      exact ⟨_, _, _, _, _, _, _, _, _, rfl⟩
  · rintro _ ⟨j5, j6, j7, j8, j9, j10, j11, j12, j13, rfl⟩
    obtain ⟨c14, h15, h0⟩ := bindE h0
    refine ok_cutQ 10 (fun A st => ∃ (j16 j17 j18 j19 j20 j21 j22 j23 j24 : V), st = A [(47, .d (.bool c14)), (46, j24), (45, j23), (44, j22), (43, j21), (42, j20), (41, j19), (40, j18), (39, j17), (38, j16)]) ?_ ?_
    · refine ok_mvB rfl rfl h15 (fun h15 => ?_) (fun h15 => ?_)
      · refine ok_sg rfl ?_
        refine ok_sg rfl ?_
        refine ok_sg rfl ?_
        refine ok_sg rfl ?_
        refine ok_sg rfl ?_
        refine ok_sg rfl ?_
        refine ok_sg rfl ?_
        refine ok_sg rfl ?_
        refine ok_v (.d (.bool true)) rfl rfl ?_
        refine ok_nil ?_
        obtain rfl := someE h15
        exact ⟨_, _, _, _, _, _, _, _, _, rfl⟩
      · refine ok_v (.ref 2 3 0 0) rfl rfl ?_
        refine ok_v (.d (.int .i64 p0.Size.X)) rfl rfl ?_
        refine ok_v (.ref 2 3 0 1) rfl rfl ?_
        refine ok_v (.d (.int .i64 p0.Size.Y)) rfl rfl ?_
        refine ok_v (.ref 2 3 0 2) rfl rfl ?_
        refine ok_v (.d (.int .i64 p0.Size.Z)) rfl rfl ?_
        refine ok_max (r := max (max p0.Size.X p0.Size.Y) p0.Size.Z) rfl rfl (by simp only [minI_max]; rfl) ?_
        refine ok_v (.d (.bool (decide ((max (max p0.Size.X p0.Size.Y) p0.Size.Z) > 1000000)))) rfl rfl ?_
        refine ok_v (.d (.bool (decide ((max (max p0.Size.X p0.Size.Y) p0.Size.Z) > 1000000)))) rfl rfl ?_
        refine ok_nil ?_
        obtain rfl := someE h15
        exact ⟨_, _, _, _, _, _, _, _, _, rfl⟩
    · rintro _ ⟨j16, j17, j18, j19, j20, j21, j22, j23, j24, rfl⟩
      refine ok_nil ?_
      refine rk_condH rfl h0 (fun _ h0 => ?_) (fun _ h0 => ?_)
      · refine rk_seq ?_
        refine rk_region ?_
        refine ok_as rfl rfl ?_
        refine ok_as rfl rfl ?_
        refine ok_nil ?_
        refine rk_ret ?_
        obtain rfl := someE h0
        exact finD (.inr rfl) (v := .d (.tup [.nilsl, .int .i64 8])) rfl rfl (dle_tup (.cons (.nil _) (.cons (.refl _) .nil)))
      · refine rk_skip ?_
        refine rk_seq ?_
        refine rk_seq ?_
        refine rk_region ?_
        refine ok_mv rfl rfl ?_
        refine ok_v (.d (.bool (decide (p1 < 0)))) rfl rfl ?_
        obtain ⟨c25, h26, h0⟩ := bindE h0
        refine ok_cutQ 4 (fun A st => ∃ (j27 j28 j29 : V), st = A [(53, .d (.bool c25)), (52, j29), (51, j28), (50, j27)]) ?_ ?_
        · refine ok_mvB rfl rfl h26 (fun h26 => ?_) (fun h26 => ?_)
          · refine ok_sg rfl ?_
            refine ok_sg rfl ?_
            refine ok_v (.d (.bool true)) rfl rfl ?_
            refine ok_nil ?_
            obtain rfl := someE h26
            exact ⟨_, _, _, rfl⟩
          · refine ok_mv rfl rfl ?_
            refine ok_v (.d (.bool (decide (p1 > 2)))) rfl rfl ?_
            refine ok_v (.d (.bool (decide (p1 > 2)))) rfl rfl ?_
            refine ok_nil ?_
            obtain rfl := someE h26
            exact ⟨_, _, _, rfl⟩
        · rintro _ ⟨j27, j28, j29, rfl⟩
          refine ok_nil ?_
          refine rk_condH rfl h0 (fun _ h0 => ?_) (fun _ h0 => ?_)
          · refine rk_seq ?_
            refine rk_region ?_
            refine ok_as rfl rfl ?_
            refine ok_as rfl rfl ?_
            refine ok_nil ?_
            refine rk_ret ?_
            obtain rfl := someE h0
            exact finD (.inr rfl) (v := .d (.tup [.nilsl, .int .i64 2])) rfl rfl (dle_tup (.cons (.nil _) (.cons (.refl _) .nil)))
          · refine rk_skip ?_
            refine rk_seq ?_
            refine rk_region ?_
            refine ok_mv rfl rfl ?_
            obtain ⟨r30, h31, h0⟩ := bindE h0
            refine ok_pc [.d (.sl 1 (p2.map (eI .i64)))] (split_Cuts_ok p2 r30 h31) rfl rfl rfl (.inl rfl) ?_
            refine ok_mv rfl rfl ?_
            refine ok_v (.d (.sl 1 (r30.1.map (eI .i64)))) rfl rfl ?_
            refine ok_v (.d (.int .i64 r30.2)) rfl rfl ?_
            refine ok_as rfl rfl ?_
            refine ok_as rfl rfl ?_
            refine ok_nil ?_
            refine rk_seq ?_
            refine rk_seq ?_
            refine rk_region ?_
            refine ok_mv rfl rfl ?_
            refine ok_v (.d (.bool (r30.2 != 0))) rfl rfl ?_
            refine ok_nil ?_
            refine rk_condH rfl h0 (fun _ h0 => ?_) (fun _ h0 => ?_)
            · refine rk_seq ?_
              refine rk_region ?_
              refine ok_mv rfl rfl ?_
              refine ok_as rfl rfl ?_
              refine ok_as rfl rfl ?_
              refine ok_nil ?_
              refine rk_ret ?_
              obtain rfl := someE h0
              exact finD (.inr rfl) (v := .d (.tup [.nilsl, .int .i64 r30.2])) rfl rfl (dle_tup (.cons (.nil _) (.cons (.refl _) .nil)))
            · refine rk_skip ?_
              refine rk_seq ?_
              refine rk_seq ?_
              refine rk_regionD [(some [], []), (some [], []), (some [], []), (some [], []), (some [2], []), (some [], []), (some [2], []), (some [], []), (some [2], []), (some [], []), (some [], []), (some [], []), (some [], []), (some [], []), (some [], [])] (by kernel_rfl) ?_
              refine ok_mv rfl rfl ?_
              refine ok_mv rfl rfl ?_
              refine ok_ln rfl rfl rfl rfl ?_
              obtain ⟨v32, h33, h0⟩ := bindE h0
              refine ok_ix (enc := (eI .i64)) h33 rfl rfl rfl rfl rfl rfl ?_
              refine ok_v (.d (.int .i64 v32)) rfl rfl ?_
              refine ok_v (.ref 2 3 0 0) rfl rfl ?_
              refine ok_v (.d (.int .i64 p0.Size.X)) rfl rfl ?_
              refine ok_v (.ref 2 3 0 1) rfl rfl ?_
              refine ok_v (.d (.int .i64 p0.Size.Y)) rfl rfl ?_
              refine ok_v (.ref 2 3 0 2) rfl rfl ?_
              refine ok_v (.d (.int .i64 p0.Size.Z)) rfl rfl ?_
              refine ok_v (.d (.agg [.int .i64 p0.Size.X, .int .i64 p0.Size.Y, .int .i64 p0.Size.Z])) rfl rfl ?_
              refine ok_mv rfl rfl ?_
              obtain ⟨v34, h35, h0⟩ := bindE h0
              refine ok_ixA (enc := (eI .i64)) [p0.Size.X, p0.Size.Y, p0.Size.Z] (.d (.int .i64 v34)) h35 (fun _ => rfl) rfl rfl rfl rfl rfl rfl ?_
              refine ok_v (.d (.bool (v32 != v34))) rfl rfl ?_
              refine ok_nil ?_
              refine rk_condH rfl h0 (fun _ h0 => ?_) (fun _ h0 => ?_)
              · refine rk_seq ?_
                refine rk_region ?_
                refine ok_as rfl rfl ?_
                refine ok_as rfl rfl ?_
                refine ok_nil ?_
                refine rk_ret ?_
                obtain rfl := someE h0
                exact finD (.inr rfl) (v := .d (.tup [.nilsl, .int .i64 2])) rfl rfl (dle_tup (.cons (.nil _) (.cons (.refl _) .nil)))
              · refine rk_skip ?_
                refine rk_seq ?_
                refine rk_region ?_
                refine ok_as rfl rfl ?_
                refine ok_nil ?_
                refine rk_seq ?_
                refine rk_seq ?_
                refine rk_region ?_
                refine ok_mv rfl rfl ?_
                refine ok_ln rfl rfl rfl rfl ?_
                refine ok_mv rfl rfl ?_
                refine ok_nil ?_
                obtain ⟨m87, h88, h0⟩ := bindE h0
                refine rk_blockcut (fun b89 => .inl b89 = m87) (fun (b89 : List api_Scope) => ⟨[(12, .hs 0 7 0 b89.length)], [(0, .dat 7 (b89.map enc_api_Scope))], 1⟩) (by simp) ?_ ?_
                · refine rk_loopF (split_Scopes_L1 p2 r30 p1 p0 r1) (fun (a86 : Int × Int × Int × Int × List api_Scope) => ⟨[(1, .d (.int .i64 p1)), (8, .ref 0 7 0 0), (10, .ref 1 3 0 0), (11, .d (.sl 1 (r30.1.map (eI .i64)))), (12, .hs 2 7 0 a86.2.2.2.2.length), (77, .d (.sl 1 (p2.map (eI .i64)))), (78, .d (.int .i64 (p2.length : Int))), (79, .d (.int .i64 a86.1))], [(0, .dat 7 [[.int .u8 r1.1.Frame.Turn, .int .i64 r1.1.Frame.At.X, .int .i64 r1.1.Frame.At.Y, .int .i64 r1.1.Frame.At.Z, .int .i64 a86.2.1, .int .i64 a86.2.2.1, .int .i64 a86.2.2.2.1]]), (1, .dat 3 [[.int .i64 p0.Size.X, .int .i64 p0.Size.Y, .int .i64 p0.Size.Z]]), (2, .dat 7 (a86.2.2.2.2.map enc_api_Scope))], 3⟩) (0, r1.1.Size.X, r1.1.Size.Y, r1.1.Size.Z, []) m87 h88 (wkE [(0, 1), (1, 2)] [] [2] rfl ⟨⟨_, rfl, .d (.refl _)⟩, ⟨_, rfl, .ref rfl (by decide) (ltd rfl)⟩, ⟨_, rfl, .ref rfl (by decide) (ltd rfl)⟩, ⟨_, rfl, .d (.refl _)⟩, ⟨_, rfl, .nil (by decide) (ltd rfl)⟩, ⟨_, rfl, .d (.refl _)⟩, ⟨_, rfl, .d (.refl _)⟩, ⟨_, rfl, .d (.refl _)⟩, trivial⟩ ⟨⟨ltd rfl, .inr ⟨by decide, _, rfl, .dat _ _⟩⟩, ⟨ltd rfl, .inr ⟨by decide, _, rfl, .dat _ _⟩⟩, ⟨ltd rfl, .inl ⟨by decide, _, by decide, rfl⟩⟩, trivial⟩) ?_
                  intro a86 y84 h85
                  unfold split_Scopes_L1 at h85
                  refine rk_seq ?_
                  refine rk_region ?_
                  refine ok_v (.d (.bool (decide (a86.1 < (p2.length : Int))))) rfl rfl ?_
                  refine ok_nil ?_
                  refine rk_seq ?_
                  refine rk_condH rfl h85 (fun _ h85 => ?_) (fun _ h85 => ?_)
                  · refine rk_skip ?_
                    refine rk_seq ?_
                    refine rk_block ?_
                    refine rk_seq ?_
                    refine rk_region ?_
                    refine ok_mv rfl rfl ?_
                    obtain ⟨v102, h103, h85⟩ := bindE h85
                    refine ok_ix (enc := (eI .i64)) h103 rfl rfl rfl rfl rfl rfl ?_
                    refine ok_v (.d (.int .i64 v102)) rfl rfl ?_
                    refine ok_as rfl rfl ?_
                    refine ok_as rfl rfl ?_
                    refine ok_nil ?_
                    refine rk_seq ?_
                    refine rk_region ?_
                    refine ok_v (.d (.agg [.int .i64 p0.Size.X, .int .i64 p0.Size.Y, .int .i64 p0.Size.Z])) rfl rfl ?_
                    refine ok_v (.ref 0 7 0 4) rfl rfl ?_
                    refine ok_sto 0 (.dat 7 [[.int .u8 r1.1.Frame.Turn, .int .i64 r1.1.Frame.At.X, .int .i64 r1.1.Frame.At.Y, .int .i64 r1.1.Frame.At.Z, .int .i64 p0.Size.X, .int .i64 p0.Size.Y, .int .i64 p0.Size.Z]]) rfl rfl ?_
                    refine ok_nil ?_
                    refine rk_seq ?_
                    refine rk_regionD [(some [], []), (some [3], [3]), (some [], [3]), (some [], []), (some [], []), (some [], []), (some [], []), (some [], []), (some [], []), (some [], []), (some [1], []), (some [], []), (some [], []), (some [], []), (some [], []), (some [], []), (some [], []), (some [], []), (some [0], [])] (by kernel_rfl) ?_
                    refine ok_v (.d (.agg [.int .u8 r1.1.Frame.Turn, .int .i64 r1.1.Frame.At.X, .int .i64 r1.1.Frame.At.Y, .int .i64 r1.1.Frame.At.Z, .int .i64 p0.Size.X, .int .i64 p0.Size.Y, .int .i64 p0.Size.Z])) rfl rfl ?_
                    refine ok_v (.d (.agg [.int .i64 0, .int .i64 0, .int .i64 0])) rfl rfl ?_
                    refine ok_mv rfl rfl ?_
                    refine ok_mv rfl rfl ?_
                    refine ok_mv rfl rfl ?_
                    obtain ⟨v104, h105, h85⟩ := bindE h85
                    refine ok_ix (enc := (eI .i64)) h105 rfl rfl rfl rfl rfl rfl ?_
                    refine ok_v (.d (.int .i64 v104)) rfl rfl ?_
                    obtain ⟨r106, h107, h85⟩ := bindE h85
                    refine ok_pc [.d (.agg [.int .i64 0, .int .i64 0, .int .i64 0]), .d (.int .i64 p1), .d (.int .i64 v104)] (split_along_ok ({ X := 0, Y := 0, Z := 0 } : api_Vec) p1 v104 r106 h107) rfl rfl rfl (.inl rfl) ?_
                    refine ok_v (.d (.agg [.int .i64 p0.Size.X, .int .i64 p0.Size.Y, .int .i64 p0.Size.Z])) rfl rfl ?_
                    refine ok_mv rfl rfl ?_
                    refine ok_mv rfl rfl ?_
                    obtain ⟨r108, h109, h85⟩ := bindE h85
                    refine ok_pc [.d (.agg [.int .i64 p0.Size.X, .int .i64 p0.Size.Y, .int .i64 p0.Size.Z]), .d (.int .i64 p1), .d (.int .i64 v102)] (split_along_ok p0.Size p1 v102 r108 h109) rfl rfl rfl (.inl rfl) ?_
                    obtain ⟨r110, h111, h85⟩ := bindE h85
                    refine ok_pc [.d (.agg [.int .u8 r1.1.Frame.Turn, .int .i64 r1.1.Frame.At.X, .int .i64 r1.1.Frame.At.Y, .int .i64 r1.1.Frame.At.Z, .int .i64 p0.Size.X, .int .i64 p0.Size.Y, .int .i64 p0.Size.Z]), .d (.agg [.int .i64 r106.X, .int .i64 r106.Y, .int .i64 r106.Z]), .d (.agg [.int .i64 r108.X, .int .i64 r108.Y, .int .i64 r108.Z]), .d (.int .u8 0)] (frame_Inside_ok ({ Frame := r1.1.Frame, Size := p0.Size } : api_Scope) r106 r108 0 r110 h111) rfl rfl rfl (.inl rfl) ?_
                    refine ok_mv rfl rfl ?_
                    refine ok_v (.d (.agg [.int .u8 r110.1.Frame.Turn, .int .i64 r110.1.Frame.At.X, .int .i64 r110.1.Frame.At.Y, .int .i64 r110.1.Frame.At.Z, .int .i64 r110.1.Size.X, .int .i64 r110.1.Size.Y, .int .i64 r110.1.Size.Z])) rfl rfl ?_
                    refine ok_v (.d (.int .i64 r110.2)) rfl rfl ?_
                    refine ok_alloc rfl rfl ?_
                    refine ok_sto 3 (.dat 7 [[.int .u8 r110.1.Frame.Turn, .int .i64 r110.1.Frame.At.X, .int .i64 r110.1.Frame.At.Y, .int .i64 r110.1.Frame.At.Z, .int .i64 r110.1.Size.X, .int .i64 r110.1.Size.Y, .int .i64 r110.1.Size.Z]]) rfl rfl ?_
                    refine ok_as rfl rfl ?_
                    refine ok_nil ?_
                    refine rk_seq ?_
                    refine rk_seq ?_
                    refine rk_region ?_
                    refine ok_mv rfl rfl ?_
                    refine ok_v (.d (.bool (r110.2 != 0))) rfl rfl ?_
                    refine ok_nil ?_
                    refine rk_condH rfl h85 (fun _ h85 => ?_) (fun _ h85 => ?_)
                    · refine rk_seq ?_
                      refine rk_region ?_
                      refine ok_mv rfl rfl ?_
                      refine ok_as rfl rfl ?_
                      refine ok_as rfl rfl ?_
                      refine ok_nil ?_
                      refine rk_ret ?_
                      refine ⟨_, (Option.some.inj h85).symm, fun hm => ?_⟩
                      subst hm
                      obtain rfl := someE h0
                      exact finD (.inr rfl) (v := .d (.tup [.nilsl, .int .i64 r110.2])) rfl rfl (dle_tup (.cons (.nil _) (.cons (.refl _) .nil)))
                    · refine rk_skip ?_
                      refine rk_region ?_
                      refine ok_mv rfl rfl ?_
                      refine ok_v (.d (.agg [.int .u8 r110.1.Frame.Turn, .int .i64 r110.1.Frame.At.X, .int .i64 r110.1.Frame.At.Y, .int .i64 r110.1.Frame.At.Z, .int .i64 r110.1.Size.X, .int .i64 r110.1.Size.Y, .int .i64 r110.1.Size.Z])) rfl rfl ?_
                      refine ok_new (.hs 4 7 0 [r110.1].length) (.dat 7 ([r110.1].map enc_api_Scope)) rfl rfl ?_
                      obtain ⟨z112, h113, h85⟩ := bindE h85
                      refine ok_ap (xs := a86.2.2.2.2) (ys := [r110.1]) (enc := enc_api_Scope) (.hs 4 7 0 [r110.1].length) h113 rfl rfl rfl rfl rfl rfl rfl (conts_hs rfl rfl) rfl rfl rfl rfl ?_
                      refine ok_as rfl rfl ?_
                      refine ok_nil ?_
                      refine rk_nil ?_
                      refine blk_nor ?_
                      refine rk_region ?_
                      refine ok_v (.d (.int .i64 (w64 (a86.1 + 1)))) rfl rfl ?_
                      refine ok_mv rfl rfl ?_
                      refine ok_nil ?_
                      refine rk_nil ?_
                      exact ⟨_, (Option.some.inj h85).symm, wkE [(0, 0), (1, 1), (2, 5)] [] [] rfl ⟨⟨_, rfl, .d (.refl _)⟩, ⟨_, rfl, .ref rfl (by decide) (ltd rfl)⟩, ⟨_, rfl, .ref rfl (by decide) (ltd rfl)⟩, ⟨_, rfl, .d (.refl _)⟩, ⟨_, rfl, .hs rfl (by decide) (ltd rfl)⟩, ⟨_, rfl, .d (.refl _)⟩, ⟨_, rfl, .d (.refl _)⟩, ⟨_, rfl, .d (.refl _)⟩, trivial⟩ ⟨⟨ltd rfl, .inr ⟨by decide, _, rfl, .dat _ _⟩⟩, ⟨ltd rfl, .inr ⟨by decide, _, rfl, .dat _ _⟩⟩, ⟨ltd rfl, .inr ⟨by decide, _, rfl, .dat _ _⟩⟩, trivial⟩⟩
                  · refine rk_exit ?_
                    refine ⟨_, (Option.some.inj h85).symm, fun hm => ?_⟩
                    subst hm
                    exact ⟨_, rfl, wkE [(0, 2)] [] [] rfl ⟨⟨_, rfl, .hs rfl (by decide) (ltd rfl)⟩, trivial⟩ ⟨⟨ltd rfl, .inr ⟨by decide, _, rfl, .dat _ _⟩⟩, trivial⟩⟩
                · intro b89 hb
                  subst hb
                  refine rk_seq ?_
                  refine rk_region ?_
                  refine ok_mv rfl rfl ?_
                  refine ok_as rfl rfl ?_
                  refine ok_as rfl rfl ?_
                  refine ok_nil ?_
                  refine rk_ret ?_
                  obtain rfl := someE h0
                  exact finD (.inr rfl) (v := .tup [.hs 0 7 0 b89.length, .d (.int .i64 0)]) rfl (td_tup (mm_cons (td_hs rfl rfl) (mm_cons rfl rfl))) (.refl _)

theorem r16_In_ok (p0 : api_Vec) (p1 : Int) (r : Bool) (h0 : r16_In p0 p1 = some r) : Pure Try.prog tab 59 [.agg [.int .i64 p0.X, .int .i64 p0.Y, .int .i64 p0.Z], .int .i64 p1] (.bool r) := by
  unfold r16_In at h0
  refine pure_of_run Try.func59 rfl (by kernel_rfl) (by kernel_rfl) rfl ?_
  refine rk_seq ?_
  refine rk_region ?_
  refine ok_new (.ref 0 3 0 0) (.dat 3 [[.int .i64 p0.X, .int .i64 p0.Y, .int .i64 p0.Z]]) rfl rfl ?_
  refine ok_as rfl rfl ?_
  refine ok_nil ?_
  refine rk_seq ?_
  refine rk_region ?_
  refine ok_v (.ref 0 3 0 0) rfl rfl ?_
  refine ok_v (.d (.int .i64 p0.X)) rfl rfl ?_
  refine ok_mv rfl rfl ?_
  refine ok_v (.d (.bool (decide (p0.X ≥ p1)))) rfl rfl ?_
  obtain ⟨c1, h2, h0⟩ := bindE h0
  refine ok_cutQ 6 (fun A st => ∃ (j3 j4 j5 j6 j7 : V), st = A [(14, .d (.bool c1)), (13, j7), (12, j6), (11, j5), (10, j4), (9, j3)]) ?_ ?_
  · refine ok_mvB rfl rfl h2 (fun h2 => ?_) (fun h2 => ?_)
    · refine ok_v (.ref 0 3 0 1) rfl rfl ?_
      refine ok_v (.d (.int .i64 p0.Y)) rfl rfl ?_
      refine ok_mv rfl rfl ?_
      refine ok_v (.d (.bool (decide (p0.Y ≥ p1)))) rfl rfl ?_
      refine ok_v (.d (.bool (decide (p0.Y ≥ p1)))) rfl rfl ?_
      refine ok_nil ?_
      obtain rfl := someE h2
      exact ⟨_, _, _, _, _, rfl⟩
    · refine ok_sg rfl ?_
      refine ok_sg rfl ?_
      refine ok_sg rfl ?_
      refine ok_sg rfl ?_
      refine ok_v (.d (.bool false)) rfl rfl ?_
      refine ok_nil ?_
      obtain rfl := someE h2
      exact ⟨_, _, _, _, _, rfl⟩
  · rintro _ ⟨j3, j4, j5, j6, j7, rfl⟩
    obtain ⟨c8, h9, h0⟩ := bindE h0
    refine ok_cutQ 6 (fun A st => ∃ (j10 j11 j12 j13 j14 : V), st = A [(20, .d (.bool c8)), (19, j14), (18, j13), (17, j12), (16, j11), (15, j10)]) ?_ ?_
    · refine ok_mvB rfl rfl h9 (fun h9 => ?_) (fun h9 => ?_)
      · refine ok_v (.ref 0 3 0 2) rfl rfl ?_
        refine ok_v (.d (.int .i64 p0.Z)) rfl rfl ?_
        refine ok_mv rfl rfl ?_
        refine ok_v (.d (.bool (decide (p0.Z ≥ p1)))) rfl rfl ?_
        refine ok_v (.d (.bool (decide (p0.Z ≥ p1)))) rfl rfl ?_
        refine ok_nil ?_
        obtain rfl := someE h9
        exact ⟨_, _, _, _, _, rfl⟩
      · refine ok_sg rfl ?_
        refine ok_sg rfl ?_
        refine ok_sg rfl ?_
        refine ok_sg rfl ?_
        refine ok_v (.d (.bool false)) rfl rfl ?_
        refine ok_nil ?_
        obtain rfl := someE h9
        exact ⟨_, _, _, _, _, rfl⟩
    · rintro _ ⟨j10, j11, j12, j13, j14, rfl⟩
      obtain ⟨c15, h16, h0⟩ := bindE h0
      refine ok_cutQ 5 (fun A st => ∃ (j17 j18 j19 j20 : V), st = A [(25, .d (.bool c15)), (24, j20), (23, j19), (22, j18), (21, j17)]) ?_ ?_
      · refine ok_mvB rfl rfl h16 (fun h16 => ?_) (fun h16 => ?_)
        · refine ok_v (.ref 0 3 0 0) rfl rfl ?_
          refine ok_v (.d (.int .i64 p0.X)) rfl rfl ?_
          refine ok_v (.d (.bool (decide (p0.X ≤ 1000000)))) rfl rfl ?_
          refine ok_v (.d (.bool (decide (p0.X ≤ 1000000)))) rfl rfl ?_
          refine ok_nil ?_
          obtain rfl := someE h16
          exact ⟨_, _, _, _, rfl⟩
        · refine ok_sg rfl ?_
          refine ok_sg rfl ?_
          refine ok_sg rfl ?_
          refine ok_v (.d (.bool false)) rfl rfl ?_
          refine ok_nil ?_
          obtain rfl := someE h16
          exact ⟨_, _, _, _, rfl⟩
      · rintro _ ⟨j17, j18, j19, j20, rfl⟩
        obtain ⟨c21, h22, h0⟩ := bindE h0
        refine ok_cutQ 5 (fun A st => ∃ (j23 j24 j25 j26 : V), st = A [(30, .d (.bool c21)), (29, j26), (28, j25), (27, j24), (26, j23)]) ?_ ?_
        · refine ok_mvB rfl rfl h22 (fun h22 => ?_) (fun h22 => ?_)
          · refine ok_v (.ref 0 3 0 1) rfl rfl ?_
            refine ok_v (.d (.int .i64 p0.Y)) rfl rfl ?_
            refine ok_v (.d (.bool (decide (p0.Y ≤ 1000000)))) rfl rfl ?_
            refine ok_v (.d (.bool (decide (p0.Y ≤ 1000000)))) rfl rfl ?_
            refine ok_nil ?_
            obtain rfl := someE h22
            exact ⟨_, _, _, _, rfl⟩
          · refine ok_sg rfl ?_
            refine ok_sg rfl ?_
            refine ok_sg rfl ?_
            refine ok_v (.d (.bool false)) rfl rfl ?_
            refine ok_nil ?_
            obtain rfl := someE h22
            exact ⟨_, _, _, _, rfl⟩
        · rintro _ ⟨j23, j24, j25, j26, rfl⟩
          obtain ⟨c27, h28, h0⟩ := bindE h0
          refine ok_cutQ 5 (fun A st => ∃ (j29 j30 j31 j32 : V), st = A [(35, .d (.bool c27)), (34, j32), (33, j31), (32, j30), (31, j29)]) ?_ ?_
          · refine ok_mvB rfl rfl h28 (fun h28 => ?_) (fun h28 => ?_)
            · refine ok_v (.ref 0 3 0 2) rfl rfl ?_
              refine ok_v (.d (.int .i64 p0.Z)) rfl rfl ?_
              refine ok_v (.d (.bool (decide (p0.Z ≤ 1000000)))) rfl rfl ?_
              refine ok_v (.d (.bool (decide (p0.Z ≤ 1000000)))) rfl rfl ?_
              refine ok_nil ?_
              obtain rfl := someE h28
              exact ⟨_, _, _, _, rfl⟩
            · refine ok_sg rfl ?_
              refine ok_sg rfl ?_
              refine ok_sg rfl ?_
              refine ok_v (.d (.bool false)) rfl rfl ?_
              refine ok_nil ?_
              obtain rfl := someE h28
              exact ⟨_, _, _, _, rfl⟩
          · rintro _ ⟨j29, j30, j31, j32, rfl⟩
            refine ok_as rfl rfl ?_
            refine ok_nil ?_
            refine rk_ret ?_
            obtain rfl := someE h0
            exact finD (.inr rfl) (v := .d (.bool c27)) rfl rfl (.refl _)

theorem r16_Check_ok (p0 : api_Frame) (r : Int) (h0 : r16_Check p0 = some r) : Pure Try.prog tab 58 [.agg [.int .u8 p0.Turn, .int .i64 p0.At.X, .int .i64 p0.At.Y, .int .i64 p0.At.Z]] (.int .i64 r) := by
  unfold r16_Check at h0
  refine pure_of_run Try.func58 rfl (by kernel_rfl) (by kernel_rfl) rfl ?_
  refine rk_seq ?_
  refine rk_region ?_
  refine ok_new (.ref 0 4 0 0) (.dat 4 [[.int .u8 p0.Turn, .int .i64 p0.At.X, .int .i64 p0.At.Y, .int .i64 p0.At.Z]]) rfl rfl ?_
  refine ok_as rfl rfl ?_
  refine ok_nil ?_
  refine rk_seq ?_
  refine rk_seq ?_
  refine rk_region ?_
  refine ok_v (.ref 0 4 0 0) rfl rfl ?_
  refine ok_v (.d (.int .u8 p0.Turn)) rfl rfl ?_
  refine ok_v (.d (.bool (decide (p0.Turn ≥ 24)))) rfl rfl ?_
  obtain ⟨c3, h4, h0⟩ := bindE h0
  refine ok_cutQ 6 (fun A st => ∃ (j5 j6 j7 j8 j9 : V), st = A [(11, .d (.bool c3)), (10, j9), (9, j8), (8, j7), (7, j6), (6, j5)]) ?_ ?_
  · refine ok_mvB rfl rfl h4 (fun h4 => ?_) (fun h4 => ?_)
    · refine ok_sg rfl ?_
      refine ok_sg rfl ?_
      refine ok_sg rfl ?_
      refine ok_sg rfl ?_
      refine ok_v (.d (.bool true)) rfl rfl ?_
      refine ok_nil ?_
      obtain rfl := someE h4
      exact ⟨_, _, _, _, _, rfl⟩
    · refine ok_v (.ref 0 4 0 1) rfl rfl ?_
      refine ok_v (.d (.agg [.int .i64 p0.At.X, .int .i64 p0.At.Y, .int .i64 p0.At.Z])) rfl rfl ?_
      obtain ⟨r10, h11, h4⟩ := bindE h4
      refine ok_pc [.d (.agg [.int .i64 p0.At.X, .int .i64 p0.At.Y, .int .i64 p0.At.Z]), .d (.int .i64 (-1000000))] (r16_In_ok p0.At (-1000000) r10 h11) rfl rfl rfl (.inl rfl) ?_
      refine ok_v (.d (.bool (!r10))) rfl rfl ?_
      refine ok_v (.d (.bool (!r10))) rfl rfl ?_
      refine ok_nil ?_
      obtain rfl := someE h4
      exact ⟨_, _, _, _, _, rfl⟩
  · rintro _ ⟨j5, j6, j7, j8, j9, rfl⟩
    refine ok_nil ?_
    refine rk_condH rfl h0 (fun _ h0 => ?_) (fun _ h0 => ?_)
    · refine rk_seq ?_
      refine rk_region ?_
      refine ok_as rfl rfl ?_
      refine ok_nil ?_
      refine rk_ret ?_
      obtain rfl := someE h0
      exact finD (.inr rfl) (v := .d (.int .i64 8)) rfl rfl (.refl _)
    · refine rk_skip ?_
      refine rk_seq ?_
      refine rk_region ?_
      refine ok_as rfl rfl ?_
      refine ok_nil ?_
      refine rk_ret ?_
      obtain rfl := someE h0
      exact finD (.inr rfl) (v := .d (.int .i64 0)) rfl rfl (.refl _)

theorem r16_Scoped_ok (p0 : api_Scope) (r : Int) (h0 : r16_Scoped p0 = some r) : Pure Try.prog tab 41 [.agg [.int .u8 p0.Frame.Turn, .int .i64 p0.Frame.At.X, .int .i64 p0.Frame.At.Y, .int .i64 p0.Frame.At.Z, .int .i64 p0.Size.X, .int .i64 p0.Size.Y, .int .i64 p0.Size.Z]] (.int .i64 r) := by
  unfold r16_Scoped at h0
  refine pure_of_run Try.func41 rfl (by kernel_rfl) (by kernel_rfl) rfl ?_
  refine rk_seq ?_
  refine rk_region ?_
  refine ok_new (.ref 0 7 0 0) (.dat 7 [[.int .u8 p0.Frame.Turn, .int .i64 p0.Frame.At.X, .int .i64 p0.Frame.At.Y, .int .i64 p0.Frame.At.Z, .int .i64 p0.Size.X, .int .i64 p0.Size.Y, .int .i64 p0.Size.Z]]) rfl rfl ?_
  refine ok_as rfl rfl ?_
  refine ok_nil ?_
  refine rk_seq ?_
  refine rk_seq ?_
  refine rk_region ?_
  refine ok_v (.ref 0 7 0 0) rfl rfl ?_
  refine ok_v (.d (.agg [.int .u8 p0.Frame.Turn, .int .i64 p0.Frame.At.X, .int .i64 p0.Frame.At.Y, .int .i64 p0.Frame.At.Z])) rfl rfl ?_
  obtain ⟨r1, h2, h0⟩ := bindE h0
  refine ok_pc [.d (.agg [.int .u8 p0.Frame.Turn, .int .i64 p0.Frame.At.X, .int .i64 p0.Frame.At.Y, .int .i64 p0.Frame.At.Z])] (r16_Check_ok p0.Frame r1 h2) rfl rfl rfl (.inl rfl) ?_
  refine ok_v (.d (.bool (r1 != 0))) rfl rfl ?_
  obtain ⟨c5, h6, h0⟩ := bindE h0
  refine ok_cutQ 6 (fun A st => ∃ (j7 j8 j9 j10 j11 : V), st = A [(12, .d (.bool c5)), (11, j11), (10, j10), (9, j9), (8, j8), (7, j7)]) ?_ ?_
  · refine ok_mvB rfl rfl h6 (fun h6 => ?_) (fun h6 => ?_)
    · refine ok_sg rfl ?_
      refine ok_sg rfl ?_
      refine ok_sg rfl ?_
      refine ok_sg rfl ?_
      refine ok_v (.d (.bool true)) rfl rfl ?_
      refine ok_nil ?_
      obtain rfl := someE h6
      exact ⟨_, _, _, _, _, rfl⟩
    · refine ok_v (.ref 0 7 0 4) rfl rfl ?_
      refine ok_v (.d (.agg [.int .i64 p0.Size.X, .int .i64 p0.Size.Y, .int .i64 p0.Size.Z])) rfl rfl ?_
      obtain ⟨r12, h13, h6⟩ := bindE h6
      refine ok_pc [.d (.agg [.int .i64 p0.Size.X, .int .i64 p0.Size.Y, .int .i64 p0.Size.Z]), .d (.int .i64 0)] (r16_In_ok p0.Size 0 r12 h13) rfl rfl rfl (.inl rfl) ?_
      refine ok_v (.d (.bool (!r12))) rfl rfl ?_
      refine ok_v (.d (.bool (!r12))) rfl rfl ?_
      refine ok_nil ?_
      obtain rfl := someE h6
      exact ⟨_, _, _, _, _, rfl⟩
  · rintro _ ⟨j7, j8, j9, j10, j11, rfl⟩
    refine ok_nil ?_
    refine rk_condH rfl h0 (fun _ h0 => ?_) (fun _ h0 => ?_)
    · refine rk_seq ?_
      refine rk_region ?_
      refine ok_as rfl rfl ?_
      refine ok_nil ?_
      refine rk_ret ?_
      obtain rfl := someE h0
      exact finD (.inr rfl) (v := .d (.int .i64 8)) rfl rfl (.refl _)
    · refine rk_skip ?_
      refine rk_seq ?_
      refine rk_region ?_
      refine ok_as rfl rfl ?_
      refine ok_nil ?_
      refine rk_ret ?_
      obtain rfl := someE h0
      exact finD (.inr rfl) (v := .d (.int .i64 0)) rfl rfl (.refl _)

theorem r23_Cuts_ok (p0 : List Int) (r : List Int × Int) (h0 : r23_Cuts p0 = some r) : Pure Try.prog tab 17 [.sl 1 (p0.map (eI .i64))] (.tup [.sl 1 (r.1.map (eI .i64)), .int .i64 r.2]) := by
  unfold r23_Cuts at h0
  refine pure_of_run Try.func17 rfl (by kernel_rfl) (by kernel_rfl) rfl ?_
  refine rk_seq ?_
  refine rk_region ?_
  refine ok_as rfl rfl ?_
  refine ok_as rfl rfl ?_
  refine ok_nil ?_
  refine rk_seq ?_
  refine rk_seq ?_
  refine rk_region ?_
  refine ok_mv rfl rfl ?_
  refine ok_ln rfl rfl rfl rfl ?_
  refine ok_v (.d (.bool (decide ((p0.length : Int) > 200)))) rfl rfl ?_
  refine ok_nil ?_
  refine rk_condH rfl h0 (fun _ h0 => ?_) (fun _ h0 => ?_)
  · refine rk_seq ?_
    refine rk_region ?_
    refine ok_as rfl rfl ?_
    refine ok_as rfl rfl ?_
    refine ok_nil ?_
    refine rk_ret ?_
    obtain rfl := someE h0
    exact finD (.inr rfl) (v := .d (.tup [.nilsl, .int .i64 4])) rfl rfl (dle_tup (.cons (.nil _) (.cons (.refl _) .nil)))
  · refine rk_skip ?_
    refine rk_seq ?_
    refine rk_seq ?_
    refine rk_region ?_
    refine ok_as rfl rfl ?_
    refine ok_nil ?_
    obtain ⟨m12, h13, h0⟩ := bindE h0
    refine rk_blockcut (fun b14 => .inl b14 = m12) (fun (b14 : Unit) => ⟨[(0, .d (.sl 1 (p0.map (eI .i64))))], [], 0⟩) (by simp) ?_ ?_
    · refine rk_loopF (r23_Cuts_L1 p0) (fun (a11 : Int) => ⟨[(0, .d (.sl 1 (p0.map (eI .i64)))), (4, .d (.int .i64 a11))], [], 0⟩) 0 m12 h13 (wkE [] [] [] rfl ⟨⟨_, rfl, .d (.refl _)⟩, ⟨_, rfl, .d (.refl _)⟩, trivial⟩ trivial) ?_
      intro a11 y9 h10
      unfold r23_Cuts_L1 at h10
      refine rk_seq ?_
      refine rk_seq ?_
      refine rk_region ?_
      refine ok_mv rfl rfl ?_
      refine ok_mv rfl rfl ?_
      refine ok_ln rfl rfl rfl rfl ?_
      refine ok_v (.d (.bool (decide (a11 < (p0.length : Int))))) rfl rfl ?_
      refine ok_nil ?_
      refine rk_condH rfl h10 (fun _ h10 => ?_) (fun _ h10 => ?_)
      · refine rk_skip ?_
        refine rk_seq ?_
        refine rk_block ?_
        refine rk_seq ?_
        refine rk_region ?_
        refine ok_mv rfl rfl ?_
        refine ok_mv rfl rfl ?_
        obtain ⟨v17, h18, h10⟩ := bindE h10
        refine ok_ix (enc := (eI .i64)) h18 rfl rfl rfl rfl rfl rfl ?_
        refine ok_v (.d (.int .i64 v17)) rfl rfl ?_
        refine ok_v (.d (.bool (decide (v17 < 0)))) rfl rfl ?_
        refine ok_nil ?_
        refine rk_condH rfl h10 (fun _ h10 => ?_) (fun _ h10 => ?_)
        · refine rk_seq ?_
          refine rk_region ?_
          refine ok_as rfl rfl ?_
          refine ok_as rfl rfl ?_
          refine ok_nil ?_
          refine rk_ret ?_
          refine ⟨_, (Option.some.inj h10).symm, fun hm => ?_⟩
          subst hm
          obtain rfl := someE h0
          exact finD (.inr rfl) (v := .d (.tup [.nilsl, .int .i64 8])) rfl rfl (dle_tup (.cons (.nil _) (.cons (.refl _) .nil)))
        · refine rk_skip ?_
          refine rk_nil ?_
          refine blk_nor ?_
          refine rk_region ?_
          refine ok_mv rfl rfl ?_
          refine ok_v (.d (.int .i64 (w64 (a11 + 1)))) rfl rfl ?_
          refine ok_as rfl rfl ?_
          refine ok_nil ?_
          refine rk_nil ?_
          exact ⟨_, (Option.some.inj h10).symm, wkE [] [] [] rfl ⟨⟨_, rfl, .d (.refl _)⟩, ⟨_, rfl, .d (.refl _)⟩, trivial⟩ trivial⟩
      · refine rk_exit ?_
        refine ⟨_, (Option.some.inj h10).symm, fun hm => ?_⟩
        subst hm
        exact ⟨_, rfl, wkE [] [] [] rfl ⟨⟨_, rfl, .d (.refl _)⟩, trivial⟩ trivial⟩
    · intro b14 hb
      subst hb
      refine rk_seq ?_
      refine rk_region ?_
      refine ok_new (.hs 0 1 0 [0].length) (.dat 1 ([0].map (eI .i64))) rfl rfl ?_
      refine ok_as rfl rfl ?_
      refine ok_nil ?_
      refine rk_seq ?_
      refine rk_seq ?_
      refine rk_region ?_
      refine ok_as rfl rfl ?_
      refine ok_nil ?_
      obtain ⟨m138, h139, h0⟩ := bindE h0
      refine rk_blockcut (fun b140 => .inl b140 = m138) (fun (b140 : List Int) => ⟨[(5, .hs 0 1 0 b140.length)], [(0, .dat 1 (b140.map (eI .i64)))], 1⟩) (by simp) ?_ ?_
      · refine rk_loopF (r23_Cuts_L2 p0) (fun (a137 : Int × List Int) => ⟨[(0, .d (.sl 1 (p0.map (eI .i64)))), (5, .hs 0 1 0 a137.2.length), (6, .d (.int .i64 a137.1))], [(0, .dat 1 (a137.2.map (eI .i64)))], 1⟩) (0, [0]) m138 h139 (wkE [(0, 0)] [] [] rfl ⟨⟨_, rfl, .d (.refl _)⟩, ⟨_, rfl, .hs rfl (by decide) (ltd rfl)⟩, ⟨_, rfl, .d (.refl _)⟩, trivial⟩ ⟨⟨ltd rfl, .inr ⟨by decide, _, rfl, .dat _ _⟩⟩, trivial⟩) ?_
        intro a137 y135 h136
        unfold r23_Cuts_L2 at h136
        refine rk_seq ?_
        refine rk_seq ?_
        refine rk_region ?_
        refine ok_mv rfl rfl ?_
        refine ok_mv rfl rfl ?_
        refine ok_ln rfl rfl rfl rfl ?_
        refine ok_v (.d (.bool (decide (a137.1 < (p0.length : Int))))) rfl rfl ?_
        refine ok_nil ?_
        refine rk_condH rfl h136 (fun _ h136 => ?_) (fun _ h136 => ?_)
        · refine rk_skip ?_
          refine rk_seq ?_
          refine rk_block ?_
          refine rk_seq ?_
          refine rk_seq ?_
          refine rk_regionD [(some [], []), (some [], []), (some [], []), (some [], []), (some [], []), (some [], []), (some [], []), (some [0], []), (some [], []), (some [], []), (some [], []), (some [], []), (some [], []), (some [], []), (some [], []), (some [], []), (some [], [])] (by kernel_rfl) ?_
          refine ok_mv rfl rfl ?_
          refine ok_mv rfl rfl ?_
          obtain ⟨v170, h171, h136⟩ := bindE h136
          refine ok_ix (enc := (eI .i64)) h171 rfl rfl rfl rfl rfl rfl ?_
          refine ok_v (.d (.int .i64 v170)) rfl rfl ?_
          refine ok_v (.d (.bool (decide (v170 > 1000000)))) rfl rfl ?_
          obtain ⟨c176, h177, h136⟩ := bindE h136
          refine ok_cutQ 12 (fun A st => ∃ (j178 j179 j180 j181 j182 j183 j184 j185 j186 j187 j188 : V), st = A [(44, .d (.bool c176)), (43, j188), (42, j187), (41, j186), (40, j185), (39, j184), (38, j183), (37, j182), (36, j181), (35, j180), (34, j179), (33, j178)]) ?_ ?_
          · refine ok_mvB rfl rfl h177 (fun h177 => ?_) (fun h177 => ?_)
            · refine ok_sg rfl ?_
              refine ok_sg rfl ?_
              refine ok_sg rfl ?_
              refine ok_sg rfl ?_
              refine ok_sg rfl ?_
              refine ok_sg rfl ?_
              refine ok_sg rfl ?_
              refine ok_sg rfl ?_
              refine ok_sg rfl ?_
              refine ok_sg rfl ?_
              refine ok_v (.d (.bool true)) rfl rfl ?_
              refine ok_nil ?_
              obtain rfl := someE h177
              exact ⟨_, _, _, _, _, _, _, _, _, _, _, rfl⟩
            · refine ok_mv rfl rfl ?_
              refine ok_mv rfl rfl ?_
              obtain ⟨v189, h190, h177⟩ := bindE h177
              refine ok_ih h190 rfl rfl rfl rfl rfl rfl rfl ?_
              refine ok_lh (.d (.int .i64 v189)) h190 rfl rfl rfl rfl rfl rfl ?_
              refine ok_mv rfl rfl ?_
              refine ok_mv rfl rfl ?_
              obtain ⟨v191, h192, h177⟩ := bindE h177
              refine ok_ix (enc := (eI .i64)) h192 rfl rfl rfl rfl rfl rfl ?_
              refine ok_v (.d (.int .i64 v191)) rfl rfl ?_
              refine ok_v (.d (.int .i64 (w64 (v189 + v191)))) rfl rfl ?_
              refine ok_v (.d (.bool (decide ((w64 (v189 + v191)) > 1000000)))) rfl rfl ?_
              refine ok_v (.d (.bool (decide ((w64 (v189 + v191)) > 1000000)))) rfl rfl ?_
              refine ok_nil ?_
              obtain rfl := someE h177
              exact ⟨_, _, _, _, _, _, _, _, _, _, _, rfl⟩
          · rintro _ ⟨j178, j179, j180, j181, j182, j183, j184, j185, j186, j187, j188, rfl⟩
            refine ok_nil ?_
            refine rk_condH rfl h136 (fun _ h136 => ?_) (fun _ h136 => ?_)
            · refine rk_seq ?_
              refine rk_region ?_
              refine ok_as rfl rfl ?_
              refine ok_as rfl rfl ?_
              refine ok_nil ?_
              refine rk_ret ?_
              refine ⟨_, (Option.some.inj h136).symm, fun hm => ?_⟩
              subst hm
              obtain rfl := someE h0
              exact finD (.inr rfl) (v := .d (.tup [.nilsl, .int .i64 16])) rfl rfl (dle_tup (.cons (.nil _) (.cons (.refl _) .nil)))
            · refine rk_skip ?_
              refine rk_regionD [(some [], []), (some [0, 1], [0, 2]), (some [], [1]), (some [], []), (some [], []), (some [], []), (some [], []), (some [], []), (some [0], []), (some [], []), (some [], []), (some [], []), (some [], [])] (by kernel_rfl) ?_
              refine ok_mv rfl rfl ?_
              refine ok_mv rfl rfl ?_
              refine ok_mv rfl rfl ?_
              obtain ⟨v193, h194, h136⟩ := bindE h136
              refine ok_ih h194 rfl rfl rfl rfl rfl rfl rfl ?_
              refine ok_lh (.d (.int .i64 v193)) h194 rfl rfl rfl rfl rfl rfl ?_
              refine ok_mv rfl rfl ?_
              refine ok_mv rfl rfl ?_
              obtain ⟨v195, h196, h136⟩ := bindE h136
              refine ok_ix (enc := (eI .i64)) h196 rfl rfl rfl rfl rfl rfl ?_
              refine ok_v (.d (.int .i64 v195)) rfl rfl ?_
              refine ok_v (.d (.int .i64 (w64 (v193 + v195)))) rfl rfl ?_
              refine ok_new (.hs 1 1 0 [w64 (v193 + v195)].length) (.dat 1 ([w64 (v193 + v195)].map (eI .i64))) rfl rfl ?_
              obtain ⟨z197, h198, h136⟩ := bindE h136
              refine ok_ap (xs := a137.2) (ys := [w64 (v193 + v195)]) (enc := (eI .i64)) (.hs 1 1 0 [w64 (v193 + v195)].length) h198 rfl rfl rfl rfl rfl rfl rfl (conts_hs rfl rfl) rfl rfl rfl rfl ?_
              refine ok_as rfl rfl ?_
              refine ok_nil ?_
              refine rk_nil ?_
              refine blk_nor ?_
              refine rk_region ?_
              refine ok_mv rfl rfl ?_
              refine ok_v (.d (.int .i64 (w64 (a137.1 + 1)))) rfl rfl ?_
              refine ok_as rfl rfl ?_
              refine ok_nil ?_
              refine rk_nil ?_
              exact ⟨_, (Option.some.inj h136).symm, wkE [(0, 2)] [] [] rfl ⟨⟨_, rfl, .d (.refl _)⟩, ⟨_, rfl, .hs rfl (by decide) (ltd rfl)⟩, ⟨_, rfl, .d (.refl _)⟩, trivial⟩ ⟨⟨ltd rfl, .inr ⟨by decide, _, rfl, .dat _ _⟩⟩, trivial⟩⟩
        · refine rk_exit ?_
          refine ⟨_, (Option.some.inj h136).symm, fun hm => ?_⟩
          subst hm
          exact ⟨_, rfl, wkE [(0, 0)] [] [] rfl ⟨⟨_, rfl, .hs rfl (by decide) (ltd rfl)⟩, trivial⟩ ⟨⟨ltd rfl, .inr ⟨by decide, _, rfl, .dat _ _⟩⟩, trivial⟩⟩
      · intro b140 hb
        subst hb
        refine rk_seq ?_
        refine rk_region ?_
        refine ok_mv rfl rfl ?_
        refine ok_as rfl rfl ?_
        refine ok_as rfl rfl ?_
        refine ok_nil ?_
        refine rk_ret ?_
        obtain rfl := someE h0
        exact finD (.inr rfl) (v := .tup [.hs 0 1 0 b140.length, .d (.int .i64 0)]) rfl (td_tup (mm_cons (td_hs rfl rfl) (mm_cons rfl rfl))) (.refl _)

theorem r16_Coord_ok (p0 : api_Vec) (p1 : Int) (r : Int) (h0 : r16_Coord p0 p1 = some r) : Pure Try.prog tab 42 [.agg [.int .i64 p0.X, .int .i64 p0.Y, .int .i64 p0.Z], .int .i64 p1] (.int .i64 r) := by
  unfold r16_Coord at h0
  refine pure_of_run Try.func42 rfl (by kernel_rfl) (by kernel_rfl) rfl ?_
  refine rk_seq ?_
  refine rk_region ?_
  refine ok_new (.ref 0 3 0 0) (.dat 3 [[.int .i64 p0.X, .int .i64 p0.Y, .int .i64 p0.Z]]) rfl rfl ?_
  refine ok_as rfl rfl ?_
  refine ok_nil ?_
  refine rk_seq ?_
  refine rk_seq ?_
  refine rk_region ?_
  refine ok_mv rfl rfl ?_
  refine ok_v (.d (.bool (p1 == 0))) rfl rfl ?_
  refine ok_nil ?_
  refine rk_condH rfl h0 (fun _ h0 => ?_) (fun _ h0 => ?_)
  · refine rk_seq ?_
    refine rk_region ?_
    refine ok_v (.ref 0 3 0 0) rfl rfl ?_
    refine ok_v (.d (.int .i64 p0.X)) rfl rfl ?_
    refine ok_as rfl rfl ?_
    refine ok_nil ?_
    refine rk_ret ?_
    obtain rfl := someE h0
    exact finD (.inr rfl) (v := .d (.int .i64 p0.X)) rfl rfl (.refl _)
  · refine rk_skip ?_
    refine rk_seq ?_
    refine rk_seq ?_
    refine rk_region ?_
    refine ok_mv rfl rfl ?_
    refine ok_v (.d (.bool (p1 == 1))) rfl rfl ?_
    refine ok_nil ?_
    refine rk_condH rfl h0 (fun _ h0 => ?_) (fun _ h0 => ?_)
    · refine rk_seq ?_
      refine rk_region ?_
      refine ok_v (.ref 0 3 0 1) rfl rfl ?_
      refine ok_v (.d (.int .i64 p0.Y)) rfl rfl ?_
      refine ok_as rfl rfl ?_
      refine ok_nil ?_
      refine rk_ret ?_
      obtain rfl := someE h0
      exact finD (.inr rfl) (v := .d (.int .i64 p0.Y)) rfl rfl (.refl _)
    · refine rk_skip ?_
      refine rk_seq ?_
      refine rk_region ?_
      refine ok_v (.ref 0 3 0 2) rfl rfl ?_
      refine ok_v (.d (.int .i64 p0.Z)) rfl rfl ?_
      refine ok_as rfl rfl ?_
      refine ok_nil ?_
      refine rk_ret ?_
      obtain rfl := someE h0
      exact finD (.inr rfl) (v := .d (.int .i64 p0.Z)) rfl rfl (.refl _)

theorem r16_Set_ok (p0 : api_Vec) (p1 : Int) (p2 : Int) (r : api_Vec) (h0 : r16_Set p0 p1 p2 = some r) : Pure Try.prog tab 44 [.agg [.int .i64 p0.X, .int .i64 p0.Y, .int .i64 p0.Z], .int .i64 p1, .int .i64 p2] (.agg [.int .i64 r.X, .int .i64 r.Y, .int .i64 r.Z]) := by
  unfold r16_Set at h0
  refine pure_of_run Try.func44 rfl (by kernel_rfl) (by kernel_rfl) rfl ?_
  refine rk_seq ?_
  refine rk_region ?_
  refine ok_new (.ref 0 3 0 0) (.dat 3 [[.int .i64 p0.X, .int .i64 p0.Y, .int .i64 p0.Z]]) rfl rfl ?_
  refine ok_alloc rfl rfl ?_
  refine ok_nil ?_
  refine rk_seq ?_
  refine rk_seq ?_
  refine rk_region ?_
  refine ok_mv rfl rfl ?_
  refine ok_v (.d (.bool (p1 == 0))) rfl rfl ?_
  refine ok_nil ?_
  refine rk_condH rfl h0 (fun _ h0 => ?_) (fun _ h0 => ?_)
  · refine rk_seq ?_
    refine rk_region ?_
    refine ok_mv rfl rfl ?_
    refine ok_v (.ref 0 3 0 1) rfl rfl ?_
    refine ok_v (.d (.int .i64 p0.Y)) rfl rfl ?_
    refine ok_v (.ref 0 3 0 2) rfl rfl ?_
    refine ok_v (.d (.int .i64 p0.Z)) rfl rfl ?_
    refine ok_v (.d (.agg [.int .i64 p2, .int .i64 p0.Y, .int .i64 p0.Z])) rfl rfl ?_
    refine ok_sto 1 (.dat 3 [[.int .i64 p2, .int .i64 p0.Y, .int .i64 p0.Z]]) rfl rfl ?_
    refine ok_nil ?_
    refine rk_ret ?_
    obtain rfl := someE h0
    exact finD (.inr rfl) (v := .d (.agg [.int .i64 p2, .int .i64 p0.Y, .int .i64 p0.Z])) rfl rfl (.refl _)
  · refine rk_skip ?_
    refine rk_seq ?_
    refine rk_seq ?_
    refine rk_region ?_
    refine ok_mv rfl rfl ?_
    refine ok_v (.d (.bool (p1 == 1))) rfl rfl ?_
    refine ok_nil ?_
    refine rk_condH rfl h0 (fun _ h0 => ?_) (fun _ h0 => ?_)
    · refine rk_seq ?_
      refine rk_region ?_
      refine ok_v (.ref 0 3 0 0) rfl rfl ?_
      refine ok_v (.d (.int .i64 p0.X)) rfl rfl ?_
      refine ok_mv rfl rfl ?_
      refine ok_v (.ref 0 3 0 2) rfl rfl ?_
      refine ok_v (.d (.int .i64 p0.Z)) rfl rfl ?_
      refine ok_v (.d (.agg [.int .i64 p0.X, .int .i64 p2, .int .i64 p0.Z])) rfl rfl ?_
      refine ok_sto 1 (.dat 3 [[.int .i64 p0.X, .int .i64 p2, .int .i64 p0.Z]]) rfl rfl ?_
      refine ok_nil ?_
      refine rk_ret ?_
      obtain rfl := someE h0
      exact finD (.inr rfl) (v := .d (.agg [.int .i64 p0.X, .int .i64 p2, .int .i64 p0.Z])) rfl rfl (.refl _)
    · refine rk_skip ?_
      refine rk_seq ?_
      refine rk_region ?_
      refine ok_v (.ref 0 3 0 0) rfl rfl ?_
      refine ok_v (.d (.int .i64 p0.X)) rfl rfl ?_
      refine ok_v (.ref 0 3 0 1) rfl rfl ?_
      refine ok_v (.d (.int .i64 p0.Y)) rfl rfl ?_
      refine ok_mv rfl rfl ?_
      refine ok_v (.d (.agg [.int .i64 p0.X, .int .i64 p0.Y, .int .i64 p2])) rfl rfl ?_
      refine ok_sto 1 (.dat 3 [[.int .i64 p0.X, .int .i64 p0.Y, .int .i64 p2]]) rfl rfl ?_
      refine ok_nil ?_
      refine rk_ret ?_
      obtain rfl := someE h0
      exact finD (.inr rfl) (v := .d (.agg [.int .i64 p0.X, .int .i64 p0.Y, .int .i64 p2])) rfl rfl (.refl _)

theorem r16_Direction_ok (p0 : Int) (r : api_Vec) (h0 : r16_Direction p0 = some r) : Pure Try.prog tab 71 [.int .i64 p0] (.agg [.int .i64 r.X, .int .i64 r.Y, .int .i64 r.Z]) := by
  unfold r16_Direction at h0
  refine pure_of_run Try.func71 rfl (by kernel_rfl) (by kernel_rfl) rfl ?_
  refine rk_seq ?_
  refine rk_region ?_
  refine ok_alloc rfl rfl ?_
  refine ok_nil ?_
  refine rk_seq ?_
  refine rk_region ?_
  refine ok_as rfl rfl ?_
  refine ok_nil ?_
  refine rk_seq ?_
  refine rk_seq ?_
  refine rk_region ?_
  refine ok_mv rfl rfl ?_
  refine ok_v (.d (.int .i64 (Int.tmod p0 2))) rfl rfl ?_
  refine ok_v (.d (.bool ((Int.tmod p0 2) == 1))) rfl rfl ?_
  refine ok_nil ?_
  obtain ⟨m2, h1, h0⟩ := bindE h0
  refine rk_cut (fun b3 => b3 = m2) (fun (b3 : Int) => ⟨[(0, .d (.int .i64 p0)), (2, .ref 0 3 0 0), (3, .d (.int .i64 b3))], [(0, .dat 3 [[.int .i64 0, .int .i64 0, .int .i64 0]])], 1⟩) (by simp) ?_ ?_
  · refine rk_condH rfl h1 (fun _ h1 => ?_) (fun _ h1 => ?_)
    · refine rk_region ?_
      refine ok_as rfl rfl ?_
      refine ok_nil ?_
      refine rk_nil ?_
      obtain rfl := someE h1
      exact ⟨_, rfl, wkE [(0, 0)] [] [] rfl ⟨⟨_, rfl, .d (.refl _)⟩, ⟨_, rfl, .ref rfl (by decide) (ltd rfl)⟩, ⟨_, rfl, .d (.refl _)⟩, trivial⟩ ⟨⟨ltd rfl, .inr ⟨by decide, _, rfl, .dat _ _⟩⟩, trivial⟩⟩
    · refine rk_skip ?_
      refine rk_nil ?_
      obtain rfl := someE h1
      exact ⟨_, rfl, wkE [(0, 0)] [] [] rfl ⟨⟨_, rfl, .d (.refl _)⟩, ⟨_, rfl, .ref rfl (by decide) (ltd rfl)⟩, ⟨_, rfl, .d (.refl _)⟩, trivial⟩ ⟨⟨ltd rfl, .inr ⟨by decide, _, rfl, .dat _ _⟩⟩, trivial⟩⟩
  · intro b3 hb
    subst hb
    refine rk_seq ?_
    refine rk_seq ?_
    refine rk_region ?_
    refine ok_mv rfl rfl ?_
    refine ok_v (.d (.bool (decide (p0 < 2)))) rfl rfl ?_
    refine ok_nil ?_
    refine rk_condH rfl h0 (fun _ h0 => ?_) (fun _ h0 => ?_)
    · refine rk_seq ?_
      refine rk_region ?_
      refine ok_mv rfl rfl ?_
      refine ok_v (.d (.agg [.int .i64 b3, .int .i64 0, .int .i64 0])) rfl rfl ?_
      refine ok_sto 0 (.dat 3 [[.int .i64 b3, .int .i64 0, .int .i64 0]]) rfl rfl ?_
      refine ok_nil ?_
      refine rk_ret ?_
      obtain rfl := someE h0
      exact finD (.inr rfl) (v := .d (.agg [.int .i64 b3, .int .i64 0, .int .i64 0])) rfl rfl (.refl _)
    · refine rk_skip ?_
      refine rk_seq ?_
      refine rk_seq ?_
      refine rk_region ?_
      refine ok_mv rfl rfl ?_
      refine ok_v (.d (.bool (decide (p0 < 4)))) rfl rfl ?_
      refine ok_nil ?_
      refine rk_condH rfl h0 (fun _ h0 => ?_) (fun _ h0 => ?_)
      · refine rk_seq ?_
        refine rk_region ?_
        refine ok_mv rfl rfl ?_
        refine ok_v (.d (.agg [.int .i64 0, .int .i64 b3, .int .i64 0])) rfl rfl ?_
        refine ok_sto 0 (.dat 3 [[.int .i64 0, .int .i64 b3, .int .i64 0]]) rfl rfl ?_
        refine ok_nil ?_
        refine rk_ret ?_
        obtain rfl := someE h0
        exact finD (.inr rfl) (v := .d (.agg [.int .i64 0, .int .i64 b3, .int .i64 0])) rfl rfl (.refl _)
      · refine rk_skip ?_
        refine rk_seq ?_
        refine rk_region ?_
        refine ok_mv rfl rfl ?_
        refine ok_v (.d (.agg [.int .i64 0, .int .i64 0, .int .i64 b3])) rfl rfl ?_
        refine ok_sto 0 (.dat 3 [[.int .i64 0, .int .i64 0, .int .i64 b3]]) rfl rfl ?_
        refine ok_nil ?_
        refine rk_ret ?_
        obtain rfl := someE h0
        exact finD (.inr rfl) (v := .d (.agg [.int .i64 0, .int .i64 0, .int .i64 b3])) rfl rfl (.refl _)

theorem r16_Cross_ok (p0 : api_Vec) (p1 : api_Vec) (r : api_Vec) (h0 : r16_Cross p0 p1 = some r) : Pure Try.prog tab 72 [.agg [.int .i64 p0.X, .int .i64 p0.Y, .int .i64 p0.Z], .agg [.int .i64 p1.X, .int .i64 p1.Y, .int .i64 p1.Z]] (.agg [.int .i64 r.X, .int .i64 r.Y, .int .i64 r.Z]) := by
  unfold r16_Cross at h0
  refine pure_of_run Try.func72 rfl (by kernel_rfl) (by kernel_rfl) rfl ?_
  refine rk_seq ?_
  refine rk_region ?_
  refine ok_new (.ref 0 3 0 0) (.dat 3 [[.int .i64 p0.X, .int .i64 p0.Y, .int .i64 p0.Z]]) rfl rfl ?_
  refine ok_new (.ref 1 3 0 0) (.dat 3 [[.int .i64 p1.X, .int .i64 p1.Y, .int .i64 p1.Z]]) rfl rfl ?_
  refine ok_alloc rfl rfl ?_
  refine ok_nil ?_
  refine rk_seq ?_
  refine rk_region ?_
  refine ok_v (.ref 0 3 0 1) rfl rfl ?_
  refine ok_v (.d (.int .i64 p0.Y)) rfl rfl ?_
  refine ok_v (.ref 1 3 0 2) rfl rfl ?_
  refine ok_v (.d (.int .i64 p1.Z)) rfl rfl ?_
  refine ok_v (.d (.int .i64 (w64 (p0.Y * p1.Z)))) rfl rfl ?_
  refine ok_v (.ref 0 3 0 2) rfl rfl ?_
  refine ok_v (.d (.int .i64 p0.Z)) rfl rfl ?_
  refine ok_v (.ref 1 3 0 1) rfl rfl ?_
  refine ok_v (.d (.int .i64 p1.Y)) rfl rfl ?_
  refine ok_v (.d (.int .i64 (w64 (p0.Z * p1.Y)))) rfl rfl ?_
  refine ok_v (.d (.int .i64 (w64 ((w64 (p0.Y * p1.Z)) - (w64 (p0.Z * p1.Y)))))) rfl rfl ?_
  refine ok_v (.ref 0 3 0 2) rfl rfl ?_
  refine ok_v (.d (.int .i64 p0.Z)) rfl rfl ?_
  refine ok_v (.ref 1 3 0 0) rfl rfl ?_
  refine ok_v (.d (.int .i64 p1.X)) rfl rfl ?_
  refine ok_v (.d (.int .i64 (w64 (p0.Z * p1.X)))) rfl rfl ?_
  refine ok_v (.ref 0 3 0 0) rfl rfl ?_
  refine ok_v (.d (.int .i64 p0.X)) rfl rfl ?_
  refine ok_v (.ref 1 3 0 2) rfl rfl ?_
  refine ok_v (.d (.int .i64 p1.Z)) rfl rfl ?_
  refine ok_v (.d (.int .i64 (w64 (p0.X * p1.Z)))) rfl rfl ?_
  refine ok_v (.d (.int .i64 (w64 ((w64 (p0.Z * p1.X)) - (w64 (p0.X * p1.Z)))))) rfl rfl ?_
  refine ok_v (.ref 0 3 0 0) rfl rfl ?_
  refine ok_v (.d (.int .i64 p0.X)) rfl rfl ?_
  refine ok_v (.ref 1 3 0 1) rfl rfl ?_
  refine ok_v (.d (.int .i64 p1.Y)) rfl rfl ?_
  refine ok_v (.d (.int .i64 (w64 (p0.X * p1.Y)))) rfl rfl ?_
  refine ok_v (.ref 0 3 0 1) rfl rfl ?_
  refine ok_v (.d (.int .i64 p0.Y)) rfl rfl ?_
  refine ok_v (.ref 1 3 0 0) rfl rfl ?_
  refine ok_v (.d (.int .i64 p1.X)) rfl rfl ?_
  refine ok_v (.d (.int .i64 (w64 (p0.Y * p1.X)))) rfl rfl ?_
  refine ok_v (.d (.int .i64 (w64 ((w64 (p0.X * p1.Y)) - (w64 (p0.Y * p1.X)))))) rfl rfl ?_
  refine ok_v (.d (.agg [.int .i64 (w64 ((w64 (p0.Y * p1.Z)) - (w64 (p0.Z * p1.Y)))), .int .i64 (w64 ((w64 (p0.Z * p1.X)) - (w64 (p0.X * p1.Z)))), .int .i64 (w64 ((w64 (p0.X * p1.Y)) - (w64 (p0.Y * p1.X))))])) rfl rfl ?_
  refine ok_sto 2 (.dat 3 [[.int .i64 (w64 ((w64 (p0.Y * p1.Z)) - (w64 (p0.Z * p1.Y)))), .int .i64 (w64 ((w64 (p0.Z * p1.X)) - (w64 (p0.X * p1.Z)))), .int .i64 (w64 ((w64 (p0.X * p1.Y)) - (w64 (p0.Y * p1.X))))]]) rfl rfl ?_
  refine ok_nil ?_
  refine rk_ret ?_
  obtain rfl := someE h0
  exact finD (.inr rfl) (v := .d (.agg [.int .i64 (w64 ((w64 (p0.Y * p1.Z)) - (w64 (p0.Z * p1.Y)))), .int .i64 (w64 ((w64 (p0.Z * p1.X)) - (w64 (p0.X * p1.Z)))), .int .i64 (w64 ((w64 (p0.X * p1.Y)) - (w64 (p0.Y * p1.X))))])) rfl rfl (.refl _)

theorem r16_Images_ok (p0 : Int) (r : (api_Vec × api_Vec × api_Vec)) (h0 : r16_Images p0 = some r) : Pure Try.prog tab 62 [.int .i64 p0] (.agg [.int .i64 r.1.X, .int .i64 r.1.Y, .int .i64 r.1.Z, .int .i64 r.2.1.X, .int .i64 r.2.1.Y, .int .i64 r.2.1.Z, .int .i64 r.2.2.X, .int .i64 r.2.2.Y, .int .i64 r.2.2.Z]) := by
  unfold r16_Images at h0
  refine pure_of_run Try.func62 rfl (by kernel_rfl) (by kernel_rfl) rfl ?_
  refine rk_seq ?_
  refine rk_region ?_
  refine ok_alloc rfl rfl ?_
  refine ok_nil ?_
  refine rk_seq ?_
  refine rk_region ?_
  refine ok_mv rfl rfl ?_
  refine ok_v (.d (.int .i64 (w64 (Int.tdiv p0 4)))) rfl rfl ?_
  refine ok_as rfl rfl ?_
  refine ok_nil ?_
  refine rk_seq ?_
  refine rk_region ?_
  refine ok_as rfl rfl ?_
  refine ok_nil ?_
  refine rk_seq ?_
  refine rk_seq ?_
  refine rk_region ?_
  refine ok_as rfl rfl ?_
  refine ok_nil ?_
  obtain ⟨m11, h12, h0⟩ := bindE h0
  refine rk_blockcut (fun b13 => b13 = m11) (fun (b13 : List Int) => ⟨[(0, .d (.int .i64 p0)), (2, .ref 0 9 0 0), (3, .d (.int .i64 (w64 (Int.tdiv p0 4)))), (4, .hs 1 1 0 b13.length)], [(0, .dat 9 [[.int .i64 0, .int .i64 0, .int .i64 0, .int .i64 0, .int .i64 0, .int .i64 0, .int .i64 0, .int .i64 0, .int .i64 0]]), (1, .dat 1 (b13.map (eI .i64)))], 2⟩) (by simp) ?_ ?_
  · refine rk_loopF (r16_Images_L1 p0) (fun (a10 : Int × List Int) => ⟨[(0, .d (.int .i64 p0)), (2, .ref 0 9 0 0), (3, .d (.int .i64 (w64 (Int.tdiv p0 4)))), (4, .hs 1 1 0 a10.2.length), (5, .d (.int .i64 a10.1))], [(0, .dat 9 [[.int .i64 0, .int .i64 0, .int .i64 0, .int .i64 0, .int .i64 0, .int .i64 0, .int .i64 0, .int .i64 0, .int .i64 0]]), (1, .dat 1 (a10.2.map (eI .i64)))], 2⟩) (0, []) m11 h12 (wkE [(0, 0)] [] [1] rfl ⟨⟨_, rfl, .d (.refl _)⟩, ⟨_, rfl, .ref rfl (by decide) (ltd rfl)⟩, ⟨_, rfl, .d (.refl _)⟩, ⟨_, rfl, .nil (by decide) (ltd rfl)⟩, ⟨_, rfl, .d (.refl _)⟩, trivial⟩ ⟨⟨ltd rfl, .inr ⟨by decide, _, rfl, .dat _ _⟩⟩, ⟨ltd rfl, .inl ⟨by decide, _, by decide, rfl⟩⟩, trivial⟩) ?_
    intro a10 y8 h9
    unfold r16_Images_L1 at h9
    refine rk_seq ?_
    refine rk_seq ?_
    refine rk_region ?_
    refine ok_mv rfl rfl ?_
    refine ok_v (.d (.bool (decide (a10.1 < 6)))) rfl rfl ?_
    refine ok_nil ?_
    refine rk_condH rfl h9 (fun _ h9 => ?_) (fun _ h9 => ?_)
    · refine rk_skip ?_
      refine rk_seq ?_
      obtain ⟨m17, h16, h9⟩ := bindE h9
      refine rk_blockcut (fun b18 => b18 = m17) (fun (b18 : List Int) => ⟨[(0, .d (.int .i64 p0)), (2, .ref 0 9 0 0), (3, .d (.int .i64 (w64 (Int.tdiv p0 4)))), (4, .hs 1 1 0 b18.length), (5, .d (.int .i64 a10.1))], [(0, .dat 9 [[.int .i64 0, .int .i64 0, .int .i64 0, .int .i64 0, .int .i64 0, .int .i64 0, .int .i64 0, .int .i64 0, .int .i64 0]]), (1, .dat 1 (b18.map (eI .i64)))], 2⟩) (by simp) ?_ ?_
      · refine rk_seq ?_
        refine rk_region ?_
        refine ok_mv rfl rfl ?_
        refine ok_v (.d (.int .i64 (w64 (Int.tdiv a10.1 2)))) rfl rfl ?_
        refine ok_mv rfl rfl ?_
        refine ok_v (.d (.int .i64 (w64 (Int.tdiv (w64 (Int.tdiv p0 4)) 2)))) rfl rfl ?_
        refine ok_v (.d (.bool ((w64 (Int.tdiv a10.1 2)) != (w64 (Int.tdiv (w64 (Int.tdiv p0 4)) 2))))) rfl rfl ?_
        refine ok_nil ?_
        refine rk_condH rfl h16 (fun _ h16 => ?_) (fun _ h16 => ?_)
        · refine rk_region ?_
          refine ok_mv rfl rfl ?_
          refine ok_mv rfl rfl ?_
          refine ok_new (.hs 2 1 0 [a10.1].length) (.dat 1 ([a10.1].map (eI .i64))) rfl rfl ?_
          obtain ⟨z19, h20, h16⟩ := bindE h16
          refine ok_ap (xs := a10.2) (ys := [a10.1]) (enc := (eI .i64)) (.hs 2 1 0 [a10.1].length) h20 rfl rfl rfl rfl rfl rfl rfl (conts_hs rfl rfl) rfl rfl rfl rfl ?_
          refine ok_as rfl rfl ?_
          refine ok_nil ?_
          refine rk_nil ?_
          obtain rfl := someE h16
          exact ⟨_, rfl, wkE [(0, 0), (1, 3)] [] [] rfl ⟨⟨_, rfl, .d (.refl _)⟩, ⟨_, rfl, .ref rfl (by decide) (ltd rfl)⟩, ⟨_, rfl, .d (.refl _)⟩, ⟨_, rfl, .hs rfl (by decide) (ltd rfl)⟩, ⟨_, rfl, .d (.refl _)⟩, trivial⟩ ⟨⟨ltd rfl, .inr ⟨by decide, _, rfl, .dat _ _⟩⟩, ⟨ltd rfl, .inr ⟨by decide, _, rfl, .dat _ _⟩⟩, trivial⟩⟩
        · refine rk_skip ?_
          refine rk_nil ?_
          obtain rfl := someE h16
          exact ⟨_, rfl, wkE [(0, 0), (1, 1)] [] [] rfl ⟨⟨_, rfl, .d (.refl _)⟩, ⟨_, rfl, .ref rfl (by decide) (ltd rfl)⟩, ⟨_, rfl, .d (.refl _)⟩, ⟨_, rfl, .hs rfl (by decide) (ltd rfl)⟩, ⟨_, rfl, .d (.refl _)⟩, trivial⟩ ⟨⟨ltd rfl, .inr ⟨by decide, _, rfl, .dat _ _⟩⟩, ⟨ltd rfl, .inr ⟨by decide, _, rfl, .dat _ _⟩⟩, trivial⟩⟩
      · intro b18 hb
        subst hb
        refine rk_region ?_
        refine ok_mv rfl rfl ?_
        refine ok_v (.d (.int .i64 (w64 (a10.1 + 1)))) rfl rfl ?_
        refine ok_as rfl rfl ?_
        refine ok_nil ?_
        refine rk_nil ?_
        exact ⟨_, (Option.some.inj h9).symm, wkE [(0, 0), (1, 1)] [] [] rfl ⟨⟨_, rfl, .d (.refl _)⟩, ⟨_, rfl, .ref rfl (by decide) (ltd rfl)⟩, ⟨_, rfl, .d (.refl _)⟩, ⟨_, rfl, .hs rfl (by decide) (ltd rfl)⟩, ⟨_, rfl, .d (.refl _)⟩, trivial⟩ ⟨⟨ltd rfl, .inr ⟨by decide, _, rfl, .dat _ _⟩⟩, ⟨ltd rfl, .inr ⟨by decide, _, rfl, .dat _ _⟩⟩, trivial⟩⟩
    · refine rk_exit ?_
      refine ⟨_, (Option.some.inj h9).symm, fun hm => ?_⟩
      subst hm
      exact ⟨_, rfl, wkE [(0, 0), (1, 1)] [] [] rfl ⟨⟨_, rfl, .d (.refl _)⟩, ⟨_, rfl, .ref rfl (by decide) (ltd rfl)⟩, ⟨_, rfl, .d (.refl _)⟩, ⟨_, rfl, .hs rfl (by decide) (ltd rfl)⟩, trivial⟩ ⟨⟨ltd rfl, .inr ⟨by decide, _, rfl, .dat _ _⟩⟩, ⟨ltd rfl, .inr ⟨by decide, _, rfl, .dat _ _⟩⟩, trivial⟩⟩
  · intro b13 hb
    subst hb
    refine rk_seq ?_
    refine rk_region ?_
    refine ok_mv rfl rfl ?_
    refine ok_mv rfl rfl ?_
    refine ok_v (.d (.int .i64 (Int.tmod p0 4))) rfl rfl ?_
    obtain ⟨v21, h22, h0⟩ := bindE h0
    refine ok_ih h22 rfl rfl rfl rfl rfl rfl rfl ?_
    refine ok_lh (.d (.int .i64 v21)) h22 rfl rfl rfl rfl rfl rfl ?_
    refine ok_as rfl rfl ?_
    refine ok_nil ?_
    refine rk_seq ?_
    refine rk_region ?_
    refine ok_mv rfl rfl ?_
    obtain ⟨r23, h24, h0⟩ := bindE h0
    refine ok_pc [.d (.int .i64 (w64 (Int.tdiv p0 4)))] (r16_Direction_ok (w64 (Int.tdiv p0 4)) r23 h24) rfl rfl rfl (.inl rfl) ?_
    refine ok_mv rfl rfl ?_
    obtain ⟨r25, h26, h0⟩ := bindE h0
    refine ok_pc [.d (.int .i64 v21)] (r16_Direction_ok v21 r25 h26) rfl rfl rfl (.inl rfl) ?_
    refine ok_mv rfl rfl ?_
    obtain ⟨r27, h28, h0⟩ := bindE h0
    refine ok_pc [.d (.int .i64 (w64 (Int.tdiv p0 4)))] (r16_Direction_ok (w64 (Int.tdiv p0 4)) r27 h28) rfl rfl rfl (.inl rfl) ?_
    refine ok_mv rfl rfl ?_
    obtain ⟨r29, h30, h0⟩ := bindE h0
    refine ok_pc [.d (.int .i64 v21)] (r16_Direction_ok v21 r29 h30) rfl rfl rfl (.inl rfl) ?_
    obtain ⟨r31, h32, h0⟩ := bindE h0
    refine ok_pc [.d (.agg [.int .i64 r27.X, .int .i64 r27.Y, .int .i64 r27.Z]), .d (.agg [.int .i64 r29.X, .int .i64 r29.Y, .int .i64 r29.Z])] (r16_Cross_ok r27 r29 r31 h32) rfl rfl rfl (.inl rfl) ?_
    refine ok_v (.d (.agg [.int .i64 r23.X, .int .i64 r23.Y, .int .i64 r23.Z, .int .i64 r25.X, .int .i64 r25.Y, .int .i64 r25.Z, .int .i64 r31.X, .int .i64 r31.Y, .int .i64 r31.Z])) rfl rfl ?_
    refine ok_sto 0 (.dat 9 [[.int .i64 r23.X, .int .i64 r23.Y, .int .i64 r23.Z, .int .i64 r25.X, .int .i64 r25.Y, .int .i64 r25.Z, .int .i64 r31.X, .int .i64 r31.Y, .int .i64 r31.Z]]) rfl rfl ?_
    refine ok_nil ?_
    refine rk_ret ?_
    obtain rfl := someE h0
    exact finD (.inr rfl) (v := .d (.agg [.int .i64 r23.X, .int .i64 r23.Y, .int .i64 r23.Z, .int .i64 r25.X, .int .i64 r25.Y, .int .i64 r25.Z, .int .i64 r31.X, .int .i64 r31.Y, .int .i64 r31.Z])) rfl rfl (.refl _)

theorem r16_Times_ok (p0 : Int) (p1 : api_Vec) (r : api_Vec) (h0 : r16_Times p0 p1 = some r) : Pure Try.prog tab 70 [.int .i64 p0, .agg [.int .i64 p1.X, .int .i64 p1.Y, .int .i64 p1.Z]] (.agg [.int .i64 r.X, .int .i64 r.Y, .int .i64 r.Z]) := by
  unfold r16_Times at h0
  refine pure_of_run Try.func70 rfl (by kernel_rfl) (by kernel_rfl) rfl ?_
  refine rk_seq ?_
  refine rk_region ?_
  refine ok_new (.ref 0 3 0 0) (.dat 3 [[.int .i64 p1.X, .int .i64 p1.Y, .int .i64 p1.Z]]) rfl rfl ?_
  refine ok_alloc rfl rfl ?_
  refine ok_nil ?_
  refine rk_seq ?_
  refine rk_region ?_
  refine ok_mv rfl rfl ?_
  refine ok_v (.ref 0 3 0 0) rfl rfl ?_
  refine ok_v (.d (.int .i64 p1.X)) rfl rfl ?_
  refine ok_v (.d (.int .i64 (w64 (p0 * p1.X)))) rfl rfl ?_
  refine ok_mv rfl rfl ?_
  refine ok_v (.ref 0 3 0 1) rfl rfl ?_
  refine ok_v (.d (.int .i64 p1.Y)) rfl rfl ?_
  refine ok_v (.d (.int .i64 (w64 (p0 * p1.Y)))) rfl rfl ?_
  refine ok_mv rfl rfl ?_
  refine ok_v (.ref 0 3 0 2) rfl rfl ?_
  refine ok_v (.d (.int .i64 p1.Z)) rfl rfl ?_
  refine ok_v (.d (.int .i64 (w64 (p0 * p1.Z)))) rfl rfl ?_
  refine ok_v (.d (.agg [.int .i64 (w64 (p0 * p1.X)), .int .i64 (w64 (p0 * p1.Y)), .int .i64 (w64 (p0 * p1.Z))])) rfl rfl ?_
  refine ok_sto 1 (.dat 3 [[.int .i64 (w64 (p0 * p1.X)), .int .i64 (w64 (p0 * p1.Y)), .int .i64 (w64 (p0 * p1.Z))]]) rfl rfl ?_
  refine ok_nil ?_
  refine rk_ret ?_
  obtain rfl := someE h0
  exact finD (.inr rfl) (v := .d (.agg [.int .i64 (w64 (p0 * p1.X)), .int .i64 (w64 (p0 * p1.Y)), .int .i64 (w64 (p0 * p1.Z))])) rfl rfl (.refl _)

theorem r16_Plus_ok (p0 : api_Vec) (p1 : api_Vec) (r : api_Vec) (h0 : r16_Plus p0 p1 = some r) : Pure Try.prog tab 60 [.agg [.int .i64 p0.X, .int .i64 p0.Y, .int .i64 p0.Z], .agg [.int .i64 p1.X, .int .i64 p1.Y, .int .i64 p1.Z]] (.agg [.int .i64 r.X, .int .i64 r.Y, .int .i64 r.Z]) := by
  unfold r16_Plus at h0
  refine pure_of_run Try.func60 rfl (by kernel_rfl) (by kernel_rfl) rfl ?_
  refine rk_seq ?_
  refine rk_region ?_
  refine ok_new (.ref 0 3 0 0) (.dat 3 [[.int .i64 p0.X, .int .i64 p0.Y, .int .i64 p0.Z]]) rfl rfl ?_
  refine ok_new (.ref 1 3 0 0) (.dat 3 [[.int .i64 p1.X, .int .i64 p1.Y, .int .i64 p1.Z]]) rfl rfl ?_
  refine ok_alloc rfl rfl ?_
  refine ok_nil ?_
  refine rk_seq ?_
  refine rk_region ?_
  refine ok_v (.ref 0 3 0 0) rfl rfl ?_
  refine ok_v (.d (.int .i64 p0.X)) rfl rfl ?_
  refine ok_v (.ref 1 3 0 0) rfl rfl ?_
  refine ok_v (.d (.int .i64 p1.X)) rfl rfl ?_
  refine ok_v (.d (.int .i64 (w64 (p0.X + p1.X)))) rfl rfl ?_
  refine ok_v (.ref 0 3 0 1) rfl rfl ?_
  refine ok_v (.d (.int .i64 p0.Y)) rfl rfl ?_
  refine ok_v (.ref 1 3 0 1) rfl rfl ?_
  refine ok_v (.d (.int .i64 p1.Y)) rfl rfl ?_
  refine ok_v (.d (.int .i64 (w64 (p0.Y + p1.Y)))) rfl rfl ?_
  refine ok_v (.ref 0 3 0 2) rfl rfl ?_
  refine ok_v (.d (.int .i64 p0.Z)) rfl rfl ?_
  refine ok_v (.ref 1 3 0 2) rfl rfl ?_
  refine ok_v (.d (.int .i64 p1.Z)) rfl rfl ?_
  refine ok_v (.d (.int .i64 (w64 (p0.Z + p1.Z)))) rfl rfl ?_
  refine ok_v (.d (.agg [.int .i64 (w64 (p0.X + p1.X)), .int .i64 (w64 (p0.Y + p1.Y)), .int .i64 (w64 (p0.Z + p1.Z))])) rfl rfl ?_
  refine ok_sto 2 (.dat 3 [[.int .i64 (w64 (p0.X + p1.X)), .int .i64 (w64 (p0.Y + p1.Y)), .int .i64 (w64 (p0.Z + p1.Z))]]) rfl rfl ?_
  refine ok_nil ?_
  refine rk_ret ?_
  obtain rfl := someE h0
  exact finD (.inr rfl) (v := .d (.agg [.int .i64 (w64 (p0.X + p1.X)), .int .i64 (w64 (p0.Y + p1.Y)), .int .i64 (w64 (p0.Z + p1.Z))])) rfl rfl (.refl _)

theorem r16_Sum_ok (p0 : api_Vec × api_Vec × api_Vec) (p1 : api_Vec) (r : api_Vec) (h0 : r16_Sum p0 p1 = some r) : Pure Try.prog tab 61 [.agg [.int .i64 p0.1.X, .int .i64 p0.1.Y, .int .i64 p0.1.Z, .int .i64 p0.2.1.X, .int .i64 p0.2.1.Y, .int .i64 p0.2.1.Z, .int .i64 p0.2.2.X, .int .i64 p0.2.2.Y, .int .i64 p0.2.2.Z], .agg [.int .i64 p1.X, .int .i64 p1.Y, .int .i64 p1.Z]] (.agg [.int .i64 r.X, .int .i64 r.Y, .int .i64 r.Z]) := by
  unfold r16_Sum at h0
  refine pure_of_run Try.func61 rfl (by kernel_rfl) (by kernel_rfl) rfl ?_
  refine rk_seq ?_
  refine rk_region ?_
  refine ok_new (.ref 0 9 0 0) (.dat 9 [[.int .i64 p0.1.X, .int .i64 p0.1.Y, .int .i64 p0.1.Z, .int .i64 p0.2.1.X, .int .i64 p0.2.1.Y, .int .i64 p0.2.1.Z, .int .i64 p0.2.2.X, .int .i64 p0.2.2.Y, .int .i64 p0.2.2.Z]]) rfl rfl ?_
  refine ok_new (.ref 1 3 0 0) (.dat 3 [[.int .i64 p1.X, .int .i64 p1.Y, .int .i64 p1.Z]]) rfl rfl ?_
  refine ok_alloc rfl rfl ?_
  refine ok_nil ?_
  refine rk_seq ?_
  refine rk_regionD [(some [2], [2]), (some [], []), (some [], []), (some [], []), (some [0], []), (some [], []), (some [1], []), (some [], []), (some [], []), (some [0], []), (some [], []), (some [1], []), (some [], []), (some [], []), (some [0], []), (some [], []), (some [1], []), (some [], [])] (by kernel_rfl) ?_
  refine ok_v (.ref 1 3 0 0) rfl rfl ?_
  refine ok_v (.d (.int .i64 p1.X)) rfl rfl ?_
  refine ok_v (.ref 0 9 0 0) rfl rfl ?_
  refine ok_v (.d (.agg [.int .i64 p0.1.X, .int .i64 p0.1.Y, .int .i64 p0.1.Z])) rfl rfl ?_
  obtain ⟨r1, h2, h0⟩ := bindE h0
  refine ok_pc [.d (.int .i64 p1.X), .d (.agg [.int .i64 p0.1.X, .int .i64 p0.1.Y, .int .i64 p0.1.Z])] (r16_Times_ok p1.X p0.1 r1 h2) rfl rfl rfl (.inl rfl) ?_
  refine ok_v (.ref 1 3 0 1) rfl rfl ?_
  refine ok_v (.d (.int .i64 p1.Y)) rfl rfl ?_
  refine ok_v (.ref 0 9 0 3) rfl rfl ?_
  refine ok_v (.d (.agg [.int .i64 p0.2.1.X, .int .i64 p0.2.1.Y, .int .i64 p0.2.1.Z])) rfl rfl ?_
  obtain ⟨r3, h4, h0⟩ := bindE h0
  refine ok_pc [.d (.int .i64 p1.Y), .d (.agg [.int .i64 p0.2.1.X, .int .i64 p0.2.1.Y, .int .i64 p0.2.1.Z])] (r16_Times_ok p1.Y p0.2.1 r3 h4) rfl rfl rfl (.inl rfl) ?_
  refine ok_v (.ref 1 3 0 2) rfl rfl ?_
  refine ok_v (.d (.int .i64 p1.Z)) rfl rfl ?_
  refine ok_v (.ref 0 9 0 6) rfl rfl ?_
  refine ok_v (.d (.agg [.int .i64 p0.2.2.X, .int .i64 p0.2.2.Y, .int .i64 p0.2.2.Z])) rfl rfl ?_
  obtain ⟨r5, h6, h0⟩ := bindE h0
  refine ok_pc [.d (.int .i64 p1.Z), .d (.agg [.int .i64 p0.2.2.X, .int .i64 p0.2.2.Y, .int .i64 p0.2.2.Z])] (r16_Times_ok p1.Z p0.2.2 r5 h6) rfl rfl rfl (.inl rfl) ?_
  obtain ⟨r7, h8, h0⟩ := bindE h0
  refine ok_pc [.d (.agg [.int .i64 r3.X, .int .i64 r3.Y, .int .i64 r3.Z]), .d (.agg [.int .i64 r5.X, .int .i64 r5.Y, .int .i64 r5.Z])] (r16_Plus_ok r3 r5 r7 h8) rfl rfl rfl (.inl rfl) ?_
  obtain ⟨r9, h10, h0⟩ := bindE h0
  refine ok_pc [.d (.agg [.int .i64 r1.X, .int .i64 r1.Y, .int .i64 r1.Z]), .d (.agg [.int .i64 r7.X, .int .i64 r7.Y, .int .i64 r7.Z])] (r16_Plus_ok r1 r7 r9 h10) rfl rfl rfl (.inl rfl) ?_
  refine ok_sto 2 (.dat 3 [[.int .i64 r9.X, .int .i64 r9.Y, .int .i64 r9.Z]]) rfl rfl ?_
  refine ok_nil ?_
  refine rk_ret ?_
  obtain rfl := someE h0
  exact finD (.inr rfl) (v := .d (.agg [.int .i64 r9.X, .int .i64 r9.Y, .int .i64 r9.Z])) rfl rfl (.refl _)

theorem r16_Image_ok (p0 : api_Frame) (p1 : api_Vec) (r : api_Vec) (h0 : r16_Image p0 p1 = some r) : Pure Try.prog tab 43 [.agg [.int .u8 p0.Turn, .int .i64 p0.At.X, .int .i64 p0.At.Y, .int .i64 p0.At.Z], .agg [.int .i64 p1.X, .int .i64 p1.Y, .int .i64 p1.Z]] (.agg [.int .i64 r.X, .int .i64 r.Y, .int .i64 r.Z]) := by
  unfold r16_Image at h0
  refine pure_of_run Try.func43 rfl (by kernel_rfl) (by kernel_rfl) rfl ?_
  refine rk_seq ?_
  refine rk_region ?_
  refine ok_new (.ref 0 4 0 0) (.dat 4 [[.int .u8 p0.Turn, .int .i64 p0.At.X, .int .i64 p0.At.Y, .int .i64 p0.At.Z]]) rfl rfl ?_
  refine ok_new (.ref 1 3 0 0) (.dat 3 [[.int .i64 p1.X, .int .i64 p1.Y, .int .i64 p1.Z]]) rfl rfl ?_
  refine ok_alloc rfl rfl ?_
  refine ok_nil ?_
  refine rk_seq ?_
  refine rk_regionD [(some [2], [2]), (some [], []), (some [0], []), (some [], []), (some [], []), (some [1], []), (some [], []), (some [], []), (some [0], []), (some [], [])] (by kernel_rfl) ?_
  refine ok_v (.ref 0 4 0 0) rfl rfl ?_
  refine ok_v (.d (.int .u8 p0.Turn)) rfl rfl ?_
  refine ok_v (.d (.int .i64 (w64 p0.Turn))) rfl rfl ?_
  obtain ⟨r1, h2, h0⟩ := bindE h0
  refine ok_pc [.d (.int .i64 (w64 p0.Turn))] (r16_Images_ok (w64 p0.Turn) r1 h2) rfl rfl rfl (.inl rfl) ?_
  refine ok_v (.d (.agg [.int .i64 p1.X, .int .i64 p1.Y, .int .i64 p1.Z])) rfl rfl ?_
  obtain ⟨r3, h4, h0⟩ := bindE h0
  refine ok_pc [.d (.agg [.int .i64 r1.1.X, .int .i64 r1.1.Y, .int .i64 r1.1.Z, .int .i64 r1.2.1.X, .int .i64 r1.2.1.Y, .int .i64 r1.2.1.Z, .int .i64 r1.2.2.X, .int .i64 r1.2.2.Y, .int .i64 r1.2.2.Z]), .d (.agg [.int .i64 p1.X, .int .i64 p1.Y, .int .i64 p1.Z])] (r16_Sum_ok r1 p1 r3 h4) rfl rfl rfl (.inl rfl) ?_
  refine ok_v (.ref 0 4 0 1) rfl rfl ?_
  refine ok_v (.d (.agg [.int .i64 p0.At.X, .int .i64 p0.At.Y, .int .i64 p0.At.Z])) rfl rfl ?_
  obtain ⟨r5, h6, h0⟩ := bindE h0
  refine ok_pc [.d (.agg [.int .i64 r3.X, .int .i64 r3.Y, .int .i64 r3.Z]), .d (.agg [.int .i64 p0.At.X, .int .i64 p0.At.Y, .int .i64 p0.At.Z])] (r16_Plus_ok r3 p0.At r5 h6) rfl rfl rfl (.inl rfl) ?_
  refine ok_sto 2 (.dat 3 [[.int .i64 r5.X, .int .i64 r5.Y, .int .i64 r5.Z]]) rfl rfl ?_
  refine ok_nil ?_
  refine rk_ret ?_
  obtain rfl := someE h0
  exact finD (.inr rfl) (v := .d (.agg [.int .i64 r5.X, .int .i64 r5.Y, .int .i64 r5.Z])) rfl rfl (.refl _)

theorem r23_Scopes_ok (p0 : api_Scope) (p1 : Int) (p2 : List Int) (r : List api_Scope × Int) (h0 : r23_Scopes p0 p1 p2 = some r) : Pure Try.prog tab 23 [.agg [.int .u8 p0.Frame.Turn, .int .i64 p0.Frame.At.X, .int .i64 p0.Frame.At.Y, .int .i64 p0.Frame.At.Z, .int .i64 p0.Size.X, .int .i64 p0.Size.Y, .int .i64 p0.Size.Z], .int .i64 p1, .sl 1 (p2.map (eI .i64))] (.tup [.sl 7 (r.1.map enc_api_Scope), .int .i64 r.2]) := by
  unfold r23_Scopes at h0
  refine pure_of_run Try.func23 rfl (by kernel_rfl) (by kernel_rfl) rfl ?_
  refine rk_seq ?_
  refine rk_region ?_
  refine ok_new (.ref 0 7 0 0) (.dat 7 [[.int .u8 p0.Frame.Turn, .int .i64 p0.Frame.At.X, .int .i64 p0.Frame.At.Y, .int .i64 p0.Frame.At.Z, .int .i64 p0.Size.X, .int .i64 p0.Size.Y, .int .i64 p0.Size.Z]]) rfl rfl ?_
  refine ok_as rfl rfl ?_
  refine ok_as rfl rfl ?_
  refine ok_nil ?_
  refine rk_seq ?_
  refine rk_seq ?_
  refine rk_region ?_
  refine ok_v (.d (.agg [.int .u8 p0.Frame.Turn, .int .i64 p0.Frame.At.X, .int .i64 p0.Frame.At.Y, .int .i64 p0.Frame.At.Z, .int .i64 p0.Size.X, .int .i64 p0.Size.Y, .int .i64 p0.Size.Z])) rfl rfl ?_
  obtain ⟨r1, h2, h0⟩ := bindE h0
  refine ok_pc [.d (.agg [.int .u8 p0.Frame.Turn, .int .i64 p0.Frame.At.X, .int .i64 p0.Frame.At.Y, .int .i64 p0.Frame.At.Z, .int .i64 p0.Size.X, .int .i64 p0.Size.Y, .int .i64 p0.Size.Z])] (r16_Scoped_ok p0 r1 h2) rfl rfl rfl (.inl rfl) ?_
  refine ok_v (.d (.bool (r1 != 0))) rfl rfl ?_
  refine ok_nil ?_
  refine rk_condH rfl h0 (fun _ h0 => ?_) (fun _ h0 => ?_)
  · refine rk_seq ?_
    refine rk_region ?_
    refine ok_as rfl rfl ?_
    refine ok_as rfl rfl ?_
    refine ok_nil ?_
    refine rk_ret ?_
    obtain rfl := someE h0
    exact finD (.inr rfl) (v := .d (.tup [.nilsl, .int .i64 8])) rfl rfl (dle_tup (.cons (.nil _) (.cons (.refl _) .nil)))
  · refine rk_skip ?_
    refine rk_seq ?_
    refine rk_seq ?_
    refine rk_region ?_
    refine ok_mv rfl rfl ?_
    refine ok_v (.d (.bool (decide (p1 < 0)))) rfl rfl ?_
    obtain ⟨c3, h4, h0⟩ := bindE h0
    refine ok_cutQ 4 (fun A st => ∃ (j5 j6 j7 : V), st = A [(22, .d (.bool c3)), (21, j7), (20, j6), (19, j5)]) ?_ ?_
    · refine ok_mvB rfl rfl h4 (fun h4 => ?_) (fun h4 => ?_)
      · refine ok_sg rfl ?_
        refine ok_sg rfl ?_
        refine ok_v (.d (.bool true)) rfl rfl ?_
        refine ok_nil ?_
        obtain rfl := someE h4
        exact ⟨_, _, _, rfl⟩
      · refine ok_mv rfl rfl ?_
        refine ok_v (.d (.bool (decide (p1 > 2)))) rfl rfl ?_
        refine ok_v (.d (.bool (decide (p1 > 2)))) rfl rfl ?_
        refine ok_nil ?_
        obtain rfl := someE h4
        exact ⟨_, _, _, rfl⟩
    · rintro _ ⟨j5, j6, j7, rfl⟩
      refine ok_nil ?_
      refine rk_condH rfl h0 (fun _ h0 => ?_) (fun _ h0 => ?_)
      · refine rk_seq ?_
        refine rk_region ?_
        refine ok_as rfl rfl ?_
        refine ok_as rfl rfl ?_
        refine ok_nil ?_
        refine rk_ret ?_
        obtain rfl := someE h0
        exact finD (.inr rfl) (v := .d (.tup [.nilsl, .int .i64 2])) rfl rfl (dle_tup (.cons (.nil _) (.cons (.refl _) .nil)))
      · refine rk_skip ?_
        refine rk_seq ?_
        refine rk_region ?_
        refine ok_mv rfl rfl ?_
        obtain ⟨r8, h9, h0⟩ := bindE h0
        refine ok_pc [.d (.sl 1 (p2.map (eI .i64)))] (r23_Cuts_ok p2 r8 h9) rfl rfl rfl (.inl rfl) ?_
        refine ok_mv rfl rfl ?_
        refine ok_v (.d (.sl 1 (r8.1.map (eI .i64)))) rfl rfl ?_
        refine ok_v (.d (.int .i64 r8.2)) rfl rfl ?_
        refine ok_as rfl rfl ?_
        refine ok_as rfl rfl ?_
        refine ok_nil ?_
        refine rk_seq ?_
        refine rk_seq ?_
        refine rk_region ?_
        refine ok_mv rfl rfl ?_
        refine ok_v (.d (.bool (r8.2 != 0))) rfl rfl ?_
        refine ok_nil ?_
        refine rk_condH rfl h0 (fun _ h0 => ?_) (fun _ h0 => ?_)
        · refine rk_seq ?_
          refine rk_region ?_
          refine ok_mv rfl rfl ?_
          refine ok_as rfl rfl ?_
          refine ok_as rfl rfl ?_
          refine ok_nil ?_
          refine rk_ret ?_
          obtain rfl := someE h0
          exact finD (.inr rfl) (v := .d (.tup [.nilsl, .int .i64 r8.2])) rfl rfl (dle_tup (.cons (.nil _) (.cons (.refl _) .nil)))
        · refine rk_skip ?_
          refine rk_seq ?_
          refine rk_seq ?_
          refine rk_regionD [(some [], []), (some [], []), (some [], []), (some [0], []), (some [], []), (some [], []), (some [], []), (some [], []), (some [], []), (some [], [])] (by kernel_rfl) ?_
          refine ok_mv rfl rfl ?_
          refine ok_mv rfl rfl ?_
          refine ok_ln rfl rfl rfl rfl ?_
          obtain ⟨v10, h11, h0⟩ := bindE h0
          refine ok_ix (enc := (eI .i64)) h11 rfl rfl rfl rfl rfl rfl ?_
          refine ok_v (.d (.int .i64 v10)) rfl rfl ?_
          refine ok_v (.ref 0 7 0 4) rfl rfl ?_
          refine ok_v (.d (.agg [.int .i64 p0.Size.X, .int .i64 p0.Size.Y, .int .i64 p0.Size.Z])) rfl rfl ?_
          refine ok_mv rfl rfl ?_
          obtain ⟨r12, h13, h0⟩ := bindE h0
          refine ok_pc [.d (.agg [.int .i64 p0.Size.X, .int .i64 p0.Size.Y, .int .i64 p0.Size.Z]), .d (.int .i64 p1)] (r16_Coord_ok p0.Size p1 r12 h13) rfl rfl rfl (.inl rfl) ?_
          refine ok_v (.d (.bool (v10 != r12))) rfl rfl ?_
          refine ok_nil ?_
          refine rk_condH rfl h0 (fun _ h0 => ?_) (fun _ h0 => ?_)
          · refine rk_seq ?_
            refine rk_region ?_
            refine ok_as rfl rfl ?_
            refine ok_as rfl rfl ?_
            refine ok_nil ?_
            refine rk_ret ?_
            obtain rfl := someE h0
            exact finD (.inr rfl) (v := .d (.tup [.nilsl, .int .i64 2])) rfl rfl (dle_tup (.cons (.nil _) (.cons (.refl _) .nil)))
          · refine rk_skip ?_
            refine rk_seq ?_
            refine rk_region ?_
            refine ok_as rfl rfl ?_
            refine ok_nil ?_
            refine rk_seq ?_
            refine rk_seq ?_
            refine rk_region ?_
            refine ok_as rfl rfl ?_
            refine ok_nil ?_
            obtain ⟨m73, h74, h0⟩ := bindE h0
            refine rk_blockcut (fun b75 => .inl b75 = m73) (fun (b75 : List api_Scope) => ⟨[(10, .hs 0 7 0 b75.length)], [(0, .dat 7 (b75.map enc_api_Scope))], 1⟩) (by simp) ?_ ?_
            · refine rk_loopF (r23_Scopes_L1 p2 r8 p1 p0) (fun (a72 : Int × List api_Scope) => ⟨[(1, .d (.int .i64 p1)), (2, .d (.sl 1 (p2.map (eI .i64)))), (3, .ref 0 7 0 0), (8, .d (.sl 1 (r8.1.map (eI .i64)))), (10, .hs 1 7 0 a72.2.length), (11, .d (.int .i64 a72.1))], [(0, .dat 7 [[.int .u8 p0.Frame.Turn, .int .i64 p0.Frame.At.X, .int .i64 p0.Frame.At.Y, .int .i64 p0.Frame.At.Z, .int .i64 p0.Size.X, .int .i64 p0.Size.Y, .int .i64 p0.Size.Z]]), (1, .dat 7 (a72.2.map enc_api_Scope))], 2⟩) (0, []) m73 h74 (wkE [(0, 0)] [] [1] rfl ⟨⟨_, rfl, .d (.refl _)⟩, ⟨_, rfl, .d (.refl _)⟩, ⟨_, rfl, .ref rfl (by decide) (ltd rfl)⟩, ⟨_, rfl, .d (.refl _)⟩, ⟨_, rfl, .nil (by decide) (ltd rfl)⟩, ⟨_, rfl, .d (.refl _)⟩, trivial⟩ ⟨⟨ltd rfl, .inr ⟨by decide, _, rfl, .dat _ _⟩⟩, ⟨ltd rfl, .inl ⟨by decide, _, by decide, rfl⟩⟩, trivial⟩) ?_
              intro a72 y70 h71
              unfold r23_Scopes_L1 at h71
              refine rk_seq ?_
              refine rk_seq ?_
              refine rk_region ?_
              refine ok_mv rfl rfl ?_
              refine ok_mv rfl rfl ?_
              refine ok_ln rfl rfl rfl rfl ?_
              refine ok_v (.d (.bool (decide (a72.1 < (p2.length : Int))))) rfl rfl ?_
              refine ok_nil ?_
              refine rk_condH rfl h71 (fun _ h71 => ?_) (fun _ h71 => ?_)
              · refine rk_skip ?_
                refine rk_seq ?_
                refine rk_block ?_
                refine rk_seq ?_
                refine rk_regionD [(some [2], [2]), (some [], [2]), (some [], []), (some [], []), (some [], []), (some [], []), (some [], []), (some [], []), (some [], []), (some [], []), (some [0], []), (some [], [])] (by kernel_rfl) ?_
                refine ok_v (.ref 0 7 0 0) rfl rfl ?_
                refine ok_v (.d (.agg [.int .u8 p0.Frame.Turn, .int .i64 p0.Frame.At.X, .int .i64 p0.Frame.At.Y, .int .i64 p0.Frame.At.Z])) rfl rfl ?_
                refine ok_v (.d (.agg [.int .i64 0, .int .i64 0, .int .i64 0])) rfl rfl ?_
                refine ok_mv rfl rfl ?_
                refine ok_mv rfl rfl ?_
                refine ok_mv rfl rfl ?_
                obtain ⟨v90, h91, h71⟩ := bindE h71
                refine ok_ix (enc := (eI .i64)) h91 rfl rfl rfl rfl rfl rfl ?_
                refine ok_v (.d (.int .i64 v90)) rfl rfl ?_
                obtain ⟨r92, h93, h71⟩ := bindE h71
                refine ok_pc [.d (.agg [.int .i64 0, .int .i64 0, .int .i64 0]), .d (.int .i64 p1), .d (.int .i64 v90)] (r16_Set_ok ({ X := 0, Y := 0, Z := 0 } : api_Vec) p1 v90 r92 h93) rfl rfl rfl (.inl rfl) ?_
                obtain ⟨r94, h95, h71⟩ := bindE h71
                refine ok_pc [.d (.agg [.int .u8 p0.Frame.Turn, .int .i64 p0.Frame.At.X, .int .i64 p0.Frame.At.Y, .int .i64 p0.Frame.At.Z]), .d (.agg [.int .i64 r92.X, .int .i64 r92.Y, .int .i64 r92.Z])] (r16_Image_ok p0.Frame r92 r94 h95) rfl rfl rfl (.inl rfl) ?_
                refine ok_alloc rfl rfl ?_
                refine ok_sto 2 (.dat 3 [[.int .i64 r94.X, .int .i64 r94.Y, .int .i64 r94.Z]]) rfl rfl ?_
                refine ok_nil ?_
                refine rk_seq ?_
                refine rk_regionD [(some [3], [3]), (some [], [3]), (some [], []), (some [], []), (some [], []), (some [], []), (some [], []), (some [], []), (some [], []), (some [0], []), (some [], []), (some [], []), (some [2], []), (some [0], []), (some [], []), (some [], [])] (by kernel_rfl) ?_
                refine ok_v (.ref 0 7 0 0) rfl rfl ?_
                refine ok_v (.ref 0 7 0 0) rfl rfl ?_
                refine ok_v (.d (.int .u8 p0.Frame.Turn)) rfl rfl ?_
                refine ok_v (.d (.agg [.int .i64 r94.X, .int .i64 r94.Y, .int .i64 r94.Z])) rfl rfl ?_
                refine ok_v (.d (.agg [.int .u8 p0.Frame.Turn, .int .i64 r94.X, .int .i64 r94.Y, .int .i64 r94.Z])) rfl rfl ?_
                refine ok_v (.ref 0 7 0 4) rfl rfl ?_
                refine ok_v (.d (.agg [.int .i64 p0.Size.X, .int .i64 p0.Size.Y, .int .i64 p0.Size.Z])) rfl rfl ?_
                refine ok_mv rfl rfl ?_
                refine ok_mv rfl rfl ?_
                refine ok_mv rfl rfl ?_
                obtain ⟨v96, h97, h71⟩ := bindE h71
                refine ok_ix (enc := (eI .i64)) h97 rfl rfl rfl rfl rfl rfl ?_
                refine ok_v (.d (.int .i64 v96)) rfl rfl ?_
                obtain ⟨r98, h99, h71⟩ := bindE h71
                refine ok_pc [.d (.agg [.int .i64 p0.Size.X, .int .i64 p0.Size.Y, .int .i64 p0.Size.Z]), .d (.int .i64 p1), .d (.int .i64 v96)] (r16_Set_ok p0.Size p1 v96 r98 h99) rfl rfl rfl (.inl rfl) ?_
                refine ok_v (.d (.agg [.int .u8 p0.Frame.Turn, .int .i64 r94.X, .int .i64 r94.Y, .int .i64 r94.Z, .int .i64 r98.X, .int .i64 r98.Y, .int .i64 r98.Z])) rfl rfl ?_
                refine ok_alloc rfl rfl ?_
                refine ok_sto 3 (.dat 7 [[.int .u8 p0.Frame.Turn, .int .i64 r94.X, .int .i64 r94.Y, .int .i64 r94.Z, .int .i64 r98.X, .int .i64 r98.Y, .int .i64 r98.Z]]) rfl rfl ?_
                refine ok_nil ?_
                refine rk_seq ?_
                refine rk_seq ?_
                refine rk_region ?_
                refine ok_v (.d (.agg [.int .u8 p0.Frame.Turn, .int .i64 r94.X, .int .i64 r94.Y, .int .i64 r94.Z, .int .i64 r98.X, .int .i64 r98.Y, .int .i64 r98.Z])) rfl rfl ?_
                obtain ⟨r100, h101, h71⟩ := bindE h71
                refine ok_pc [.d (.agg [.int .u8 p0.Frame.Turn, .int .i64 r94.X, .int .i64 r94.Y, .int .i64 r94.Z, .int .i64 r98.X, .int .i64 r98.Y, .int .i64 r98.Z])] (r16_Scoped_ok ({ Frame := ({ Turn := p0.Frame.Turn, At := r94 } : api_Frame), Size := r98 } : api_Scope) r100 h101) rfl rfl rfl (.inl rfl) ?_
                refine ok_v (.d (.bool (r100 != 0))) rfl rfl ?_
                refine ok_nil ?_
                refine rk_condH rfl h71 (fun _ h71 => ?_) (fun _ h71 => ?_)
                · refine rk_seq ?_
                  refine rk_region ?_
                  refine ok_as rfl rfl ?_
                  refine ok_as rfl rfl ?_
                  refine ok_nil ?_
                  refine rk_ret ?_
                  refine ⟨_, (Option.some.inj h71).symm, fun hm => ?_⟩
                  subst hm
                  obtain rfl := someE h0
                  exact finD (.inr rfl) (v := .d (.tup [.nilsl, .int .i64 16])) rfl rfl (dle_tup (.cons (.nil _) (.cons (.refl _) .nil)))
                · refine rk_skip ?_
                  refine rk_region ?_
                  refine ok_mv rfl rfl ?_
                  refine ok_v (.d (.agg [.int .u8 p0.Frame.Turn, .int .i64 r94.X, .int .i64 r94.Y, .int .i64 r94.Z, .int .i64 r98.X, .int .i64 r98.Y, .int .i64 r98.Z])) rfl rfl ?_
                  refine ok_new (.hs 4 7 0 [({ Frame := ({ Turn := p0.Frame.Turn, At := r94 } : api_Frame), Size := r98 } : api_Scope)].length) (.dat 7 ([({ Frame := ({ Turn := p0.Frame.Turn, At := r94 } : api_Frame), Size := r98 } : api_Scope)].map enc_api_Scope)) rfl rfl ?_
                  obtain ⟨z102, h103, h71⟩ := bindE h71
                  refine ok_ap (xs := a72.2) (ys := [({ Frame := ({ Turn := p0.Frame.Turn, At := r94 } : api_Frame), Size := r98 } : api_Scope)]) (enc := enc_api_Scope) (.hs 4 7 0 [({ Frame := ({ Turn := p0.Frame.Turn, At := r94 } : api_Frame), Size := r98 } : api_Scope)].length) h103 rfl rfl rfl rfl rfl rfl rfl (conts_hs rfl rfl) rfl rfl rfl rfl ?_
                  refine ok_as rfl rfl ?_
                  refine ok_nil ?_
                  refine rk_nil ?_
                  refine blk_nor ?_
                  refine rk_region ?_
                  refine ok_mv rfl rfl ?_
                  refine ok_v (.d (.int .i64 (w64 (a72.1 + 1)))) rfl rfl ?_
                  refine ok_as rfl rfl ?_
                  refine ok_nil ?_
                  refine rk_nil ?_
                  exact ⟨_, (Option.some.inj h71).symm, wkE [(0, 0), (1, 5)] [] [] rfl ⟨⟨_, rfl, .d (.refl _)⟩, ⟨_, rfl, .d (.refl _)⟩, ⟨_, rfl, .ref rfl (by decide) (ltd rfl)⟩, ⟨_, rfl, .d (.refl _)⟩, ⟨_, rfl, .hs rfl (by decide) (ltd rfl)⟩, ⟨_, rfl, .d (.refl _)⟩, trivial⟩ ⟨⟨ltd rfl, .inr ⟨by decide, _, rfl, .dat _ _⟩⟩, ⟨ltd rfl, .inr ⟨by decide, _, rfl, .dat _ _⟩⟩, trivial⟩⟩
              · refine rk_exit ?_
                refine ⟨_, (Option.some.inj h71).symm, fun hm => ?_⟩
                subst hm
                exact ⟨_, rfl, wkE [(0, 1)] [] [] rfl ⟨⟨_, rfl, .hs rfl (by decide) (ltd rfl)⟩, trivial⟩ ⟨⟨ltd rfl, .inr ⟨by decide, _, rfl, .dat _ _⟩⟩, trivial⟩⟩
            · intro b75 hb
              subst hb
              refine rk_seq ?_
              refine rk_region ?_
              refine ok_mv rfl rfl ?_
              refine ok_as rfl rfl ?_
              refine ok_as rfl rfl ?_
              refine ok_nil ?_
              refine rk_ret ?_
              obtain rfl := someE h0
              exact finD (.inr rfl) (v := .tup [.hs 0 7 0 b75.length, .d (.int .i64 0)]) rfl (td_tup (mm_cons (td_hs rfl rfl) (mm_cons rfl rfl))) (.refl _)

theorem r23_SameScopes_ok (p0 : List api_Scope) (p1 : List api_Scope) (r : Bool) (h0 : r23_SameScopes p0 p1 = some r) : Pure Try.prog tab 24 [.sl 7 (p0.map enc_api_Scope), .sl 7 (p1.map enc_api_Scope)] (.bool r) := by
  unfold r23_SameScopes at h0
  refine pure_of_run Try.func24 rfl (by kernel_rfl) (by kernel_rfl) rfl ?_
  refine rk_seq ?_
  refine rk_region ?_
  refine ok_as rfl rfl ?_
  refine ok_nil ?_
  refine rk_seq ?_
  refine rk_seq ?_
  refine rk_region ?_
  refine ok_mv rfl rfl ?_
  refine ok_ln rfl rfl rfl rfl ?_
  refine ok_mv rfl rfl ?_
  refine ok_ln rfl rfl rfl rfl ?_
  refine ok_v (.d (.bool ((p0.length : Int) != (p1.length : Int)))) rfl rfl ?_
  refine ok_nil ?_
  refine rk_condH rfl h0 (fun _ h0 => ?_) (fun _ h0 => ?_)
  · refine rk_seq ?_
    refine rk_region ?_
    refine ok_as rfl rfl ?_
    refine ok_nil ?_
    refine rk_ret ?_
    obtain rfl := someE h0
    exact finD (.inr rfl) (v := .d (.bool false)) rfl rfl (.refl _)
  · refine rk_skip ?_
    refine rk_seq ?_
    refine rk_seq ?_
    refine rk_region ?_
    refine ok_as rfl rfl ?_
    refine ok_nil ?_
    obtain ⟨m20, h21, h0⟩ := bindE h0
    refine rk_blockcut (fun b22 => .inl b22 = m20) (fun (b22 : Unit) => ⟨[], [], 0⟩) (by simp) ?_ ?_
    · refine rk_loopF (r23_SameScopes_L1 p0 p1) (fun (a19 : Int) => ⟨[(0, .d (.sl 7 (p0.map enc_api_Scope))), (1, .d (.sl 7 (p1.map enc_api_Scope))), (5, .d (.int .i64 a19))], [], 0⟩) 0 m20 h21 (wkE [] [] [] rfl ⟨⟨_, rfl, .d (.refl _)⟩, ⟨_, rfl, .d (.refl _)⟩, ⟨_, rfl, .d (.refl _)⟩, trivial⟩ trivial) ?_
      intro a19 y17 h18
      unfold r23_SameScopes_L1 at h18
      refine rk_seq ?_
      refine rk_seq ?_
      refine rk_region ?_
      refine ok_mv rfl rfl ?_
      refine ok_mv rfl rfl ?_
      refine ok_ln rfl rfl rfl rfl ?_
      refine ok_v (.d (.bool (decide (a19 < (p0.length : Int))))) rfl rfl ?_
      refine ok_nil ?_
      refine rk_condH rfl h18 (fun _ h18 => ?_) (fun _ h18 => ?_)
      · refine rk_skip ?_
        refine rk_seq ?_
        refine rk_block ?_
        refine rk_seq ?_
        refine rk_regionD [(some [], []), (some [], []), (some [], []), (some [], []), (some [], []), (some [], []), (some [], []), (some [], []), (some [], [])] (by kernel_rfl) ?_
        refine ok_mv rfl rfl ?_
        refine ok_mv rfl rfl ?_
        obtain ⟨v27, h28, h18⟩ := bindE h18
        refine ok_ix (enc := enc_api_Scope) h28 rfl rfl rfl rfl rfl rfl ?_
        refine ok_v (.d (.agg [.int .u8 v27.Frame.Turn, .int .i64 v27.Frame.At.X, .int .i64 v27.Frame.At.Y, .int .i64 v27.Frame.At.Z, .int .i64 v27.Size.X, .int .i64 v27.Size.Y, .int .i64 v27.Size.Z])) rfl rfl ?_
        refine ok_mv rfl rfl ?_
        refine ok_mv rfl rfl ?_
        obtain ⟨v29, h30, h18⟩ := bindE h18
        refine ok_ix (enc := enc_api_Scope) h30 rfl rfl rfl rfl rfl rfl ?_
        refine ok_v (.d (.agg [.int .u8 v29.Frame.Turn, .int .i64 v29.Frame.At.X, .int .i64 v29.Frame.At.Y, .int .i64 v29.Frame.At.Z, .int .i64 v29.Size.X, .int .i64 v29.Size.Y, .int .i64 v29.Size.Z])) rfl rfl ?_
        refine ok_v (.d (.bool (!((v27.Frame.Turn == v29.Frame.Turn) && ((v27.Frame.At.X == v29.Frame.At.X) && ((v27.Frame.At.Y == v29.Frame.At.Y) && ((v27.Frame.At.Z == v29.Frame.At.Z) && ((v27.Size.X == v29.Size.X) && ((v27.Size.Y == v29.Size.Y) && ((v27.Size.Z == v29.Size.Z) && true)))))))))) rfl rfl ?_
        refine ok_nil ?_
        refine rk_condH rfl h18 (fun _ h18 => ?_) (fun _ h18 => ?_)
        · refine rk_seq ?_
          refine rk_region ?_
          refine ok_as rfl rfl ?_
          refine ok_nil ?_
          refine rk_ret ?_
          refine ⟨_, (Option.some.inj h18).symm, fun hm => ?_⟩
          subst hm
          obtain rfl := someE h0
          exact finD (.inr rfl) (v := .d (.bool false)) rfl rfl (.refl _)
        · refine rk_skip ?_
          refine rk_nil ?_
          refine blk_nor ?_
          refine rk_region ?_
          refine ok_mv rfl rfl ?_
          refine ok_v (.d (.int .i64 (w64 (a19 + 1)))) rfl rfl ?_
          refine ok_as rfl rfl ?_
          refine ok_nil ?_
          refine rk_nil ?_
          exact ⟨_, (Option.some.inj h18).symm, wkE [] [] [] rfl ⟨⟨_, rfl, .d (.refl _)⟩, ⟨_, rfl, .d (.refl _)⟩, ⟨_, rfl, .d (.refl _)⟩, trivial⟩ trivial⟩
      · refine rk_exit ?_
        refine ⟨_, (Option.some.inj h18).symm, fun hm => ?_⟩
        subst hm
        exact ⟨_, rfl, wkE [] [] [] rfl trivial trivial⟩
    · intro b22 hb
      subst hb
      refine rk_seq ?_
      refine rk_region ?_
      refine ok_as rfl rfl ?_
      refine ok_nil ?_
      refine rk_ret ?_
      obtain rfl := someE h0
      exact finD (.inr rfl) (v := .d (.bool true)) rfl rfl (.refl _)

theorem l23_SplitScopes_ok (p0 : api_Scope) (p1 : Int) (p2 : List Int) (r : Bool) (h0 : l23_SplitScopes p0 p1 p2 = some r) : Pure Try.prog tab 5 [.agg [.int .u8 p0.Frame.Turn, .int .i64 p0.Frame.At.X, .int .i64 p0.Frame.At.Y, .int .i64 p0.Frame.At.Z, .int .i64 p0.Size.X, .int .i64 p0.Size.Y, .int .i64 p0.Size.Z], .int .i64 p1, .sl 1 (p2.map (eI .i64))] (.bool r) := by
  unfold l23_SplitScopes at h0
  refine pure_of_run Try.func5 rfl (by kernel_rfl) (by kernel_rfl) rfl ?_
  refine rk_seq ?_
  refine rk_region ?_
  refine ok_new (.ref 0 7 0 0) (.dat 7 [[.int .u8 p0.Frame.Turn, .int .i64 p0.Frame.At.X, .int .i64 p0.Frame.At.Y, .int .i64 p0.Frame.At.Z, .int .i64 p0.Size.X, .int .i64 p0.Size.Y, .int .i64 p0.Size.Z]]) rfl rfl ?_
  refine ok_as rfl rfl ?_
  refine ok_nil ?_
  refine rk_seq ?_
  refine rk_seq ?_
  refine rk_region ?_
  refine ok_mv rfl rfl ?_
  refine ok_ln rfl rfl rfl rfl ?_
  refine ok_v (.d (.bool (decide ((p2.length : Int) > 250)))) rfl rfl ?_
  refine ok_nil ?_
  refine rk_condH rfl h0 (fun _ h0 => ?_) (fun _ h0 => ?_)
  · refine rk_seq ?_
    refine rk_region ?_
    refine ok_as rfl rfl ?_
    refine ok_nil ?_
    refine rk_ret ?_
    obtain rfl := someE h0
    exact finD (.inr rfl) (v := .d (.bool true)) rfl rfl (.refl _)
  · refine rk_skip ?_
    refine rk_seq ?_
    refine rk_region ?_
    refine ok_v (.d (.agg [.int .u8 p0.Frame.Turn, .int .i64 p0.Frame.At.X, .int .i64 p0.Frame.At.Y, .int .i64 p0.Frame.At.Z, .int .i64 p0.Size.X, .int .i64 p0.Size.Y, .int .i64 p0.Size.Z])) rfl rfl ?_
    refine ok_mv rfl rfl ?_
    refine ok_mv rfl rfl ?_
    obtain ⟨r1, h2, h0⟩ := bindE h0
    refine ok_pc [.d (.agg [.int .u8 p0.Frame.Turn, .int .i64 p0.Frame.At.X, .int .i64 p0.Frame.At.Y, .int .i64 p0.Frame.At.Z, .int .i64 p0.Size.X, .int .i64 p0.Size.Y, .int .i64 p0.Size.Z]), .d (.int .i64 p1), .d (.sl 1 (p2.map (eI .i64)))] (split_Scopes_ok p0 p1 p2 r1 h2) rfl rfl rfl (.inl rfl) ?_
    refine ok_mv rfl rfl ?_
    refine ok_v (.d (.sl 7 (r1.1.map enc_api_Scope))) rfl rfl ?_
    refine ok_v (.d (.int .i64 r1.2)) rfl rfl ?_
    refine ok_as rfl rfl ?_
    refine ok_as rfl rfl ?_
    refine ok_nil ?_
    refine rk_seq ?_
    refine rk_region ?_
    refine ok_v (.d (.agg [.int .u8 p0.Frame.Turn, .int .i64 p0.Frame.At.X, .int .i64 p0.Frame.At.Y, .int .i64 p0.Frame.At.Z, .int .i64 p0.Size.X, .int .i64 p0.Size.Y, .int .i64 p0.Size.Z])) rfl rfl ?_
    refine ok_mv rfl rfl ?_
    refine ok_mv rfl rfl ?_
    obtain ⟨r3, h4, h0⟩ := bindE h0
    refine ok_pc [.d (.agg [.int .u8 p0.Frame.Turn, .int .i64 p0.Frame.At.X, .int .i64 p0.Frame.At.Y, .int .i64 p0.Frame.At.Z, .int .i64 p0.Size.X, .int .i64 p0.Size.Y, .int .i64 p0.Size.Z]), .d (.int .i64 p1), .d (.sl 1 (p2.map (eI .i64)))] (r23_Scopes_ok p0 p1 p2 r3 h4) rfl rfl rfl (.inl rfl) ?_
    refine ok_mv rfl rfl ?_
    refine ok_v (.d (.sl 7 (r3.1.map enc_api_Scope))) rfl rfl ?_
    refine ok_v (.d (.int .i64 r3.2)) rfl rfl ?_
    refine ok_as rfl rfl ?_
    refine ok_as rfl rfl ?_
    refine ok_nil ?_
    refine rk_seq ?_
    refine rk_region ?_
    refine ok_mv rfl rfl ?_
    refine ok_mv rfl rfl ?_
    obtain ⟨r5, h6, h0⟩ := bindE h0
    refine ok_pc [.d (.sl 7 (r1.1.map enc_api_Scope)), .d (.sl 7 (r3.1.map enc_api_Scope))] (r23_SameScopes_ok r1.1 r3.1 r5 h6) rfl rfl rfl (.inl rfl) ?_
    obtain ⟨c7, h8, h0⟩ := bindE h0
    refine ok_cutQ 5 (fun A st => ∃ (j9 j10 j11 j12 : V), st = A [(35, .d (.bool c7)), (34, j12), (33, j11), (32, j10), (31, j9)]) ?_ ?_
    · refine ok_mvB rfl rfl h8 (fun h8 => ?_) (fun h8 => ?_)
      · refine ok_mv rfl rfl ?_
        refine ok_mv rfl rfl ?_
        refine ok_v (.d (.bool (r1.2 == r3.2))) rfl rfl ?_
        refine ok_v (.d (.bool (r1.2 == r3.2))) rfl rfl ?_
        refine ok_nil ?_
        obtain rfl := someE h8
        exact ⟨_, _, _, _, rfl⟩
      · refine ok_sg rfl ?_
        refine ok_sg rfl ?_
        refine ok_sg rfl ?_
        refine ok_v (.d (.bool false)) rfl rfl ?_
        refine ok_nil ?_
        obtain rfl := someE h8
        exact ⟨_, _, _, _, rfl⟩
    · rintro _ ⟨j9, j10, j11, j12, rfl⟩
      refine ok_as rfl rfl ?_
      refine ok_nil ?_
      refine rk_ret ?_
      obtain rfl := someE h0
      exact finD (.inr rfl) (v := .d (.bool c7)) rfl rfl (.refl _)
end Go.Proofs.Ytbfdjpffambpfaa
