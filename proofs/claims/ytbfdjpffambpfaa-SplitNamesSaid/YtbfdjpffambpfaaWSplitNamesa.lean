/- THE WALKS, lifted by program. -/
import Derived.Test.YtbfdjpffambpfaaPsplit
import Derived.Test.YtbfdjpffambpfaaTabsplit
namespace Go.Proofs.Ytbfdjpffambpfaa
open Go Go.Am Go.Sh
theorem slices_IndexFunc_api_Part_api_Part_ok (p0 : List api_Part) (p1 : api_Part → Option Bool) (p1F : FuncId) (p1C : List DV) (p1Ok : ∀ (x0 : api_Part) (r : Bool), p1 x0 = some r → Pure Try.prog tab p1F ([.agg [.int .u8 x0.Kind, .int .i64 x0.Size, .int .i64 x0.Share.Num, .int .i64 x0.Share.Den]] ++ p1C) (.bool r)) (r : Int) (h0 : slices_IndexFunc_api_Part_api_Part p0 p1 = some r) : Pure Try.prog tab 47 [.sl 4 (p0.map enc_api_Part), .fn p1F p1C] (.int .i64 r) := by
  unfold slices_IndexFunc_api_Part_api_Part at h0
  refine pure_of_run Try.func47 rfl (by kernel_rfl) (by kernel_rfl) rfl ?_
  refine rk_seq ?_
  refine rk_region ?_
  refine ok_as rfl rfl ?_
  refine ok_nil ?_
  refine rk_seq ?_
  refine rk_seq ?_
  refine rk_region ?_
  refine ok_mv rfl rfl ?_
  refine ok_ln rfl rfl rfl rfl ?_
  refine ok_mv rfl rfl ?_
  refine ok_nil ?_
  obtain ⟨m20, h21, h0⟩ := bindE h0
  refine rk_blockcut (fun b22 => .inl b22 = m20) (fun (b22 : Unit) => ⟨[], [], 0⟩) (by simp) ?_ ?_
  · refine rk_loopF (slices_IndexFunc_api_Part_api_Part_L1 p0 p1) (fun (a19 : Int) => ⟨[(0, .d (.sl 4 (p0.map enc_api_Part))), (1, .d (.fn p1F p1C)), (7, .d (.int .i64 (p0.length : Int))), (8, .d (.int .i64 a19))], [], 0⟩) 0 m20 h21 (wkE [] [] [] rfl ⟨⟨_, rfl, .d (.refl _)⟩, ⟨_, rfl, .d (.refl _)⟩, ⟨_, rfl, .d (.refl _)⟩, ⟨_, rfl, .d (.refl _)⟩, trivial⟩ trivial) ?_
    intro a19 y17 h18
    unfold slices_IndexFunc_api_Part_api_Part_L1 at h18
    refine rk_seq ?_
    refine rk_region ?_
    refine ok_v (.d (.bool (decide (a19 < (p0.length : Int))))) rfl rfl ?_
    refine ok_nil ?_
    refine rk_seq ?_
    refine rk_condH rfl h18 (fun _ h18 => ?_) (fun _ h18 => ?_)
    · refine rk_skip ?_
      refine rk_seq ?_
      refine rk_block ?_
      refine rk_seq ?_
      refine rk_region ?_
      refine ok_mv rfl rfl ?_
      refine ok_as rfl rfl ?_
      refine ok_nil ?_
      refine rk_seq ?_
      refine rk_region ?_
      refine ok_mv rfl rfl ?_
      refine ok_mv rfl rfl ?_
      refine ok_mv rfl rfl ?_
      obtain ⟨v27, h28, h18⟩ := bindE h18
      refine ok_ix (enc := enc_api_Part) h28 rfl rfl rfl rfl rfl rfl ?_
      refine ok_v (.d (.agg [.int .u8 v27.Kind, .int .i64 v27.Size, .int .i64 v27.Share.Num, .int .i64 v27.Share.Den])) rfl rfl ?_
      obtain ⟨r29, h30, h18⟩ := bindE h18
      refine ok_pf [.d (.agg [.int .u8 v27.Kind, .int .i64 v27.Size, .int .i64 v27.Share.Num, .int .i64 v27.Share.Den])] (p1Ok v27 r29 h30) rfl rfl rfl (.inl rfl) ?_
      refine ok_nil ?_
      refine rk_condH rfl h18 (fun _ h18 => ?_) (fun _ h18 => ?_)
      · refine rk_seq ?_
        refine rk_region ?_
        refine ok_mv rfl rfl ?_
        refine ok_as rfl rfl ?_
        refine ok_nil ?_
        refine rk_ret ?_
        refine ⟨_, (Option.some.inj h18).symm, fun hm => ?_⟩
        subst hm
        obtain rfl := someE h0
        exact finD (.inr rfl) (v := .d (.int .i64 a19)) rfl rfl (.refl _)
      · refine rk_skip ?_
        refine rk_nil ?_
        refine blk_nor ?_
        refine rk_region ?_
        refine ok_v (.d (.int .i64 (w64 (a19 + 1)))) rfl rfl ?_
        refine ok_mv rfl rfl ?_
        refine ok_nil ?_
        refine rk_nil ?_
        exact ⟨_, (Option.some.inj h18).symm, wkE [] [] [] rfl ⟨⟨_, rfl, .d (.refl _)⟩, ⟨_, rfl, .d (.refl _)⟩, ⟨_, rfl, .d (.refl _)⟩, ⟨_, rfl, .d (.refl _)⟩, trivial⟩ trivial⟩
    · refine rk_exit ?_
      refine ⟨_, (Option.some.inj h18).symm, fun hm => ?_⟩
      subst hm
      exact ⟨_, rfl, wkE [] [] [] rfl trivial trivial⟩
  · intro b22 hb
    subst hb
    refine rk_seq ?_
    refine rk_region ?_
    refine ok_as rfl rfl ?_
    refine ok_nil ?_
    refine rk_ret ?_
    obtain rfl := someE h0
    exact finD (.inr rfl) (v := .d (.int .i64 (-1))) rfl rfl (.refl _)

theorem slices_ContainsFunc_api_Part_api_Part_ok (p0 : List api_Part) (p1 : api_Part → Option Bool) (p1F : FuncId) (p1C : List DV) (p1Ok : ∀ (x0 : api_Part) (r : Bool), p1 x0 = some r → Pure Try.prog tab p1F ([.agg [.int .u8 x0.Kind, .int .i64 x0.Size, .int .i64 x0.Share.Num, .int .i64 x0.Share.Den]] ++ p1C) (.bool r)) (r : Bool) (h0 : slices_ContainsFunc_api_Part_api_Part p0 p1 = some r) : Pure Try.prog tab 30 [.sl 4 (p0.map enc_api_Part), .fn p1F p1C] (.bool r) := by
  unfold slices_ContainsFunc_api_Part_api_Part at h0
  refine pure_of_run Try.func30 rfl (by kernel_rfl) (by kernel_rfl) rfl ?_
  refine rk_seq ?_
  refine rk_region ?_
  refine ok_as rfl rfl ?_
  refine ok_nil ?_
  refine rk_seq ?_
  refine rk_region ?_
  refine ok_mv rfl rfl ?_
  refine ok_mv rfl rfl ?_
  obtain ⟨r1, h2, h0⟩ := bindE h0
  refine ok_pc [.d (.sl 4 (p0.map enc_api_Part)), .d (.fn p1F p1C)] (slices_IndexFunc_api_Part_api_Part_ok p0 p1 p1F p1C p1Ok r1 h2) rfl rfl rfl (.inl rfl) ?_
  refine ok_v (.d (.bool (decide (r1 ≥ 0)))) rfl rfl ?_
  refine ok_as rfl rfl ?_
  refine ok_nil ?_
  refine rk_ret ?_
  obtain rfl := someE h0
  exact finD (.inr rfl) (v := .d (.bool (decide (r1 ≥ 0)))) rfl rfl (.refl _)

theorem ratio_size_ok (p0 : Int) (r : Int) (h0 : ratio_size p0 = some r) : Pure Try.prog tab 63 [.int .i64 p0] (.int .u64 r) := by
  unfold ratio_size at h0
  refine pure_of_run Try.func63 rfl (by kernel_rfl) (by kernel_rfl) rfl ?_
  refine rk_seq ?_
  refine rk_region ?_
  refine ok_as rfl rfl ?_
  refine ok_nil ?_
  refine rk_seq ?_
  refine rk_seq ?_
  refine rk_region ?_
  refine ok_mv rfl rfl ?_
  refine ok_v (.d (.bool (decide (p0 < 0)))) rfl rfl ?_
  refine ok_nil ?_
  refine rk_condH rfl h0 (fun _ h0 => ?_) (fun _ h0 => ?_)
  · refine rk_seq ?_
    refine rk_region ?_
    refine ok_mv rfl rfl ?_
    refine ok_v (.d (.int .u64 (IntKind.wrap .u64 p0))) rfl rfl ?_
    refine ok_v (.d (.int .u64 (IntKind.wrap .u64 (0 - (IntKind.wrap .u64 p0))))) rfl rfl ?_
    refine ok_as rfl rfl ?_
    refine ok_nil ?_
    refine rk_ret ?_
    obtain rfl := someE h0
    exact finD (.inr rfl) (v := .d (.int .u64 (IntKind.wrap .u64 (0 - (IntKind.wrap .u64 p0))))) rfl rfl (.refl _)
  · refine rk_skip ?_
    refine rk_seq ?_
    refine rk_region ?_
    refine ok_mv rfl rfl ?_
    refine ok_v (.d (.int .u64 (IntKind.wrap .u64 p0))) rfl rfl ?_
    refine ok_as rfl rfl ?_
    refine ok_nil ?_
    refine rk_ret ?_
    obtain rfl := someE h0
    exact finD (.inr rfl) (v := .d (.int .u64 (IntKind.wrap .u64 p0))) rfl rfl (.refl _)

theorem ratio_gcd_ok (p0 : Int) (p1 : Int) (r : Int) (h0 : ratio_gcd p0 p1 = some r) : Pure Try.prog tab 64 [.int .u64 p0, .int .u64 p1] (.int .u64 r) := by
  unfold ratio_gcd at h0
  refine pure_of_run Try.func64 rfl (by kernel_rfl) (by kernel_rfl) rfl ?_
  refine rk_seq ?_
  refine rk_region ?_
  refine ok_as rfl rfl ?_
  refine ok_nil ?_
  refine rk_seq ?_
  obtain ⟨m8, h9, h0⟩ := bindE h0
  refine rk_blockcut (fun b10 => b10 = m8) (fun (b10 : Int) => ⟨[(0, .d (.int .u64 b10))], [], 0⟩) (by simp) ?_ ?_
  · refine rk_loopF (ratio_gcd_L1) (fun (a7 : Int × Int) => ⟨[(0, .d (.int .u64 a7.1)), (1, .d (.int .u64 a7.2))], [], 0⟩) (p0, p1) m8 h9 (wkE [] [] [] rfl ⟨⟨_, rfl, .d (.refl _)⟩, ⟨_, rfl, .d (.refl _)⟩, trivial⟩ trivial) ?_
    intro a7 y5 h6
    unfold ratio_gcd_L1 at h6
    refine rk_seq ?_
    refine rk_seq ?_
    refine rk_region ?_
    refine ok_mv rfl rfl ?_
    refine ok_v (.d (.bool (a7.2 != 0))) rfl rfl ?_
    refine ok_nil ?_
    refine rk_condH rfl h6 (fun _ h6 => ?_) (fun _ h6 => ?_)
    · refine rk_skip ?_
      refine rk_block ?_
      refine rk_regionD [(some [], []), (some [], []), (some [], []), (some [], []), (some [], []), (some [], [])] (by kernel_rfl) ?_
      refine ok_mv rfl rfl ?_
      refine ok_mv rfl rfl ?_
      refine ok_mv rfl rfl ?_
      obtain ⟨q11, h12, h6⟩ := bindE h6
      refine ok_remK h12 rfl rfl rfl ?_
      refine ok_as rfl rfl ?_
      refine ok_as rfl rfl ?_
      refine ok_nil ?_
      refine rk_nil ?_
      refine blk_nor ?_
      refine rk_nil ?_
      exact ⟨_, (Option.some.inj h6).symm, wkE [] [] [] rfl ⟨⟨_, rfl, .d (.refl _)⟩, ⟨_, rfl, .d (.refl _)⟩, trivial⟩ trivial⟩
    · refine rk_exit ?_
      refine ⟨_, (Option.some.inj h6).symm, fun hm => ?_⟩
      subst hm
      exact ⟨_, rfl, wkE [] [] [] rfl ⟨⟨_, rfl, .d (.refl _)⟩, trivial⟩ trivial⟩
  · intro b10 hb
    subst hb
    refine rk_seq ?_
    refine rk_region ?_
    refine ok_mv rfl rfl ?_
    refine ok_as rfl rfl ?_
    refine ok_nil ?_
    refine rk_ret ?_
    obtain rfl := someE h0
    exact finD (.inr rfl) (v := .d (.int .u64 b10)) rfl rfl (.refl _)

theorem ratio_Check_ok (p0 : api_Ratio) (r : Int) (h0 : ratio_Check p0 = some r) : Pure Try.prog tab 48 [.agg [.int .i64 p0.Num, .int .i64 p0.Den]] (.int .i64 r) := by
  unfold ratio_Check at h0
  refine pure_of_run Try.func48 rfl (by kernel_rfl) (by kernel_rfl) rfl ?_
  refine rk_seq ?_
  refine rk_region ?_
  refine ok_new (.ref 0 2 0 0) (.dat 2 [[.int .i64 p0.Num, .int .i64 p0.Den]]) rfl rfl ?_
  refine ok_as rfl rfl ?_
  refine ok_nil ?_
  refine rk_seq ?_
  refine rk_seq ?_
  refine rk_regionD [(some [], []), (some [], []), (some [], []), (some [], []), (some [0], []), (some [], []), (some [], []), (some [0], []), (some [], []), (some [], []), (some [], []), (some [], []), (some [], []), (some [0], []), (some [], []), (some [], []), (some [], []), (some [], []), (some [0], []), (some [], []), (some [], []), (some [], []), (some [0], []), (some [], [])] (by kernel_rfl) ?_
  refine ok_v (.ref 0 2 0 1) rfl rfl ?_
  refine ok_v (.d (.int .i64 p0.Den)) rfl rfl ?_
  refine ok_v (.d (.bool (decide (p0.Den < 1)))) rfl rfl ?_
  obtain ⟨c1, h2, h0⟩ := bindE h0
  refine ok_cutQ 5 (fun A st => ∃ (j3 j4 j5 j6 : V), st = A [(10, .d (.bool c1)), (9, j6), (8, j5), (7, j4), (6, j3)]) ?_ ?_
  · refine ok_mvB rfl rfl h2 (fun h2 => ?_) (fun h2 => ?_)
    · refine ok_sg rfl ?_
      refine ok_sg rfl ?_
      refine ok_sg rfl ?_
      refine ok_v (.d (.bool true)) rfl rfl ?_
      refine ok_nil ?_
      obtain rfl := someE h2
      exact ⟨_, _, _, _, rfl⟩
    · refine ok_v (.ref 0 2 0 1) rfl rfl ?_
      refine ok_v (.d (.int .i64 p0.Den)) rfl rfl ?_
      refine ok_v (.d (.bool (decide (p0.Den > 1000000000)))) rfl rfl ?_
      refine ok_v (.d (.bool (decide (p0.Den > 1000000000)))) rfl rfl ?_
      refine ok_nil ?_
      obtain rfl := someE h2
      exact ⟨_, _, _, _, rfl⟩
  · rintro _ ⟨j3, j4, j5, j6, rfl⟩
    obtain ⟨c9, h10, h0⟩ := bindE h0
    refine ok_cutQ 6 (fun A st => ∃ (j11 j12 j13 j14 j15 : V), st = A [(16, .d (.bool c9)), (15, j15), (14, j14), (13, j13), (12, j12), (11, j11)]) ?_ ?_
    · refine ok_mvB rfl rfl h10 (fun h10 => ?_) (fun h10 => ?_)
      · refine ok_sg rfl ?_
        refine ok_sg rfl ?_
        refine ok_sg rfl ?_
        refine ok_sg rfl ?_
        refine ok_v (.d (.bool true)) rfl rfl ?_
        refine ok_nil ?_
        obtain rfl := someE h10
        exact ⟨_, _, _, _, _, rfl⟩
      · refine ok_v (.ref 0 2 0 0) rfl rfl ?_
        refine ok_v (.d (.int .i64 p0.Num)) rfl rfl ?_
        obtain ⟨r16, h17, h10⟩ := bindE h10
        refine ok_pc [.d (.int .i64 p0.Num)] (ratio_size_ok p0.Num r16 h17) rfl rfl rfl (.inl rfl) ?_
        refine ok_v (.d (.bool (decide (r16 > 1000000000)))) rfl rfl ?_
        refine ok_v (.d (.bool (decide (r16 > 1000000000)))) rfl rfl ?_
        refine ok_nil ?_
        obtain rfl := someE h10
        exact ⟨_, _, _, _, _, rfl⟩
    · rintro _ ⟨j11, j12, j13, j14, j15, rfl⟩
      obtain ⟨c22, h23, h0⟩ := bindE h0
      refine ok_cutQ 10 (fun A st => ∃ (j24 j25 j26 j27 j28 j29 j30 j31 j32 : V), st = A [(26, .d (.bool c22)), (25, j32), (24, j31), (23, j30), (22, j29), (21, j28), (20, j27), (19, j26), (18, j25), (17, j24)]) ?_ ?_
      · refine ok_mvB rfl rfl h23 (fun h23 => ?_) (fun h23 => ?_)
        · refine ok_sg rfl ?_
          refine ok_sg rfl ?_
          refine ok_sg rfl ?_
          refine ok_sg rfl ?_
          refine ok_sg rfl ?_
          refine ok_sg rfl ?_
          refine ok_sg rfl ?_
          refine ok_sg rfl ?_
          refine ok_v (.d (.bool true)) rfl rfl ?_
          refine ok_nil ?_
          obtain rfl := someE h23
          exact ⟨_, _, _, _, _, _, _, _, _, rfl⟩
        · refine ok_v (.ref 0 2 0 0) rfl rfl ?_
          refine ok_v (.d (.int .i64 p0.Num)) rfl rfl ?_
          obtain ⟨r33, h34, h23⟩ := bindE h23
          refine ok_pc [.d (.int .i64 p0.Num)] (ratio_size_ok p0.Num r33 h34) rfl rfl rfl (.inl rfl) ?_
          refine ok_v (.ref 0 2 0 1) rfl rfl ?_
          refine ok_v (.d (.int .i64 p0.Den)) rfl rfl ?_
          refine ok_v (.d (.int .u64 (IntKind.wrap .u64 p0.Den))) rfl rfl ?_
          obtain ⟨r35, h36, h23⟩ := bindE h23
          refine ok_pc [.d (.int .u64 r33), .d (.int .u64 (IntKind.wrap .u64 p0.Den))] (ratio_gcd_ok r33 (IntKind.wrap .u64 p0.Den) r35 h36) rfl rfl rfl (.inl rfl) ?_
          refine ok_v (.d (.bool (r35 != 1))) rfl rfl ?_
          refine ok_v (.d (.bool (r35 != 1))) rfl rfl ?_
          refine ok_nil ?_
          obtain rfl := someE h23
          exact ⟨_, _, _, _, _, _, _, _, _, rfl⟩
      · rintro _ ⟨j24, j25, j26, j27, j28, j29, j30, j31, j32, rfl⟩
        refine ok_nil ?_
        refine rk_condH rfl h0 (fun _ h0 => ?_) (fun _ h0 => ?_)
        · refine rk_seq ?_
          refine rk_region ?_
          refine ok_as rfl rfl ?_
          refine ok_nil ?_
          refine rk_ret ?_
          obtain rfl := someE h0
          exact finD (.inr rfl) (v := .d (.int .i64 8)) rfl rfl (.refl _)
        · refine rk_skip ?_
          refine rk_seq ?_
          refine rk_region ?_
          refine ok_as rfl rfl ?_
          refine ok_nil ?_
          refine rk_ret ?_
          obtain rfl := someE h0
          exact finD (.inr rfl) (v := .d (.int .i64 0)) rfl rfl (.refl _)

theorem split_valid_ok (p0 : api_Part) (r : Bool) (h0 : split_valid p0 = some r) : Pure Try.prog tab 32 [.agg [.int .u8 p0.Kind, .int .i64 p0.Size, .int .i64 p0.Share.Num, .int .i64 p0.Share.Den]] (.bool r) := by
  unfold split_valid at h0
  refine pure_of_run Try.func32 rfl (by kernel_rfl) (by kernel_rfl) rfl ?_
  refine rk_seq ?_
  refine rk_region ?_
  refine ok_new (.ref 0 4 0 0) (.dat 4 [[.int .u8 p0.Kind, .int .i64 p0.Size, .int .i64 p0.Share.Num, .int .i64 p0.Share.Den]]) rfl rfl ?_
  refine ok_as rfl rfl ?_
  refine ok_nil ?_
  refine rk_seq ?_
  refine rk_seq ?_
  refine rk_region ?_
  refine ok_v (.ref 0 4 0 0) rfl rfl ?_
  refine ok_v (.d (.int .u8 p0.Kind)) rfl rfl ?_
  refine ok_nil ?_
  refine rk_block ?_
  refine rk_seq ?_
  refine rk_region ?_
  refine ok_v (.d (.bool (p0.Kind == 1))) rfl rfl ?_
  refine ok_as rfl rfl ?_
  refine ok_nil ?_
  refine rk_condH rfl h0 (fun _ h0 => ?_) (fun _ h0 => ?_)
  · refine rk_seq ?_
    refine rk_region ?_
    refine ok_v (.ref 0 4 0 1) rfl rfl ?_
    refine ok_v (.d (.int .i64 p0.Size)) rfl rfl ?_
    refine ok_v (.d (.bool (decide (p0.Size ≥ 0)))) rfl rfl ?_
    obtain ⟨c55, h56, h0⟩ := bindE h0
    refine ok_cutQ 5 (fun A st => ∃ (j57 j58 j59 j60 : V), st = A [(14, .d (.bool c55)), (13, j60), (12, j59), (11, j58), (10, j57)]) ?_ ?_
    · refine ok_mvB rfl rfl h56 (fun h56 => ?_) (fun h56 => ?_)
      · refine ok_v (.ref 0 4 0 1) rfl rfl ?_
        refine ok_v (.d (.int .i64 p0.Size)) rfl rfl ?_
        refine ok_v (.d (.bool (decide (p0.Size ≤ 1000000)))) rfl rfl ?_
        refine ok_v (.d (.bool (decide (p0.Size ≤ 1000000)))) rfl rfl ?_
        refine ok_nil ?_
        obtain rfl := someE h56
        exact ⟨_, _, _, _, rfl⟩
      · refine ok_sg rfl ?_
        refine ok_sg rfl ?_
        refine ok_sg rfl ?_
        refine ok_v (.d (.bool false)) rfl rfl ?_
        refine ok_nil ?_
        obtain rfl := someE h56
        exact ⟨_, _, _, _, rfl⟩
    · rintro _ ⟨j57, j58, j59, j60, rfl⟩
      obtain ⟨c61, h62, h0⟩ := bindE h0
      refine ok_cutQ 6 (fun A st => ∃ (j63 j64 j65 j66 j67 : V), st = A [(20, .d (.bool c61)), (19, j67), (18, j66), (17, j65), (16, j64), (15, j63)]) ?_ ?_
      · refine ok_mvB rfl rfl h62 (fun h62 => ?_) (fun h62 => ?_)
        · refine ok_v (.ref 0 4 0 2) rfl rfl ?_
          refine ok_v (.d (.agg [.int .i64 p0.Share.Num, .int .i64 p0.Share.Den])) rfl rfl ?_
          refine ok_v (.d (.agg [.int .i64 0, .int .i64 0])) rfl rfl ?_
          refine ok_v (.d (.bool ((p0.Share.Num == 0) && ((p0.Share.Den == 0) && true)))) rfl rfl ?_
          refine ok_v (.d (.bool ((p0.Share.Num == 0) && ((p0.Share.Den == 0) && true)))) rfl rfl ?_
          refine ok_nil ?_
          obtain rfl := someE h62
          exact ⟨_, _, _, _, _, rfl⟩
        · refine ok_sg rfl ?_
          refine ok_sg rfl ?_
          refine ok_sg rfl ?_
          refine ok_sg rfl ?_
          refine ok_v (.d (.bool false)) rfl rfl ?_
          refine ok_nil ?_
          obtain rfl := someE h62
          exact ⟨_, _, _, _, _, rfl⟩
      · rintro _ ⟨j63, j64, j65, j66, j67, rfl⟩
        refine ok_as rfl rfl ?_
        refine ok_nil ?_
        refine rk_ret ?_
        obtain rfl := someE h0
        exact finD (.inr rfl) (v := .d (.bool c61)) rfl rfl (.refl _)
  · refine rk_seq ?_
    refine rk_region ?_
    refine ok_v (.d (.bool (p0.Kind == 3))) rfl rfl ?_
    refine ok_as rfl rfl ?_
    refine ok_nil ?_
    refine rk_condH rfl h0 (fun _ h0 => ?_) (fun _ h0 => ?_)
    · refine rk_seq ?_
      refine rk_region ?_
      refine ok_v (.ref 0 4 0 1) rfl rfl ?_
      refine ok_v (.d (.int .i64 p0.Size)) rfl rfl ?_
      refine ok_v (.d (.bool (decide (p0.Size ≥ 1)))) rfl rfl ?_
      obtain ⟨c68, h69, h0⟩ := bindE h0
      refine ok_cutQ 5 (fun A st => ∃ (j70 j71 j72 j73 : V), st = A [(30, .d (.bool c68)), (29, j73), (28, j72), (27, j71), (26, j70)]) ?_ ?_
      · refine ok_mvB rfl rfl h69 (fun h69 => ?_) (fun h69 => ?_)
        · refine ok_v (.ref 0 4 0 1) rfl rfl ?_
          refine ok_v (.d (.int .i64 p0.Size)) rfl rfl ?_
          refine ok_v (.d (.bool (decide (p0.Size ≤ 1000000)))) rfl rfl ?_
          refine ok_v (.d (.bool (decide (p0.Size ≤ 1000000)))) rfl rfl ?_
          refine ok_nil ?_
          obtain rfl := someE h69
          exact ⟨_, _, _, _, rfl⟩
        · refine ok_sg rfl ?_
          refine ok_sg rfl ?_
          refine ok_sg rfl ?_
          refine ok_v (.d (.bool false)) rfl rfl ?_
          refine ok_nil ?_
          obtain rfl := someE h69
          exact ⟨_, _, _, _, rfl⟩
      · rintro _ ⟨j70, j71, j72, j73, rfl⟩
        obtain ⟨c74, h75, h0⟩ := bindE h0
        refine ok_cutQ 6 (fun A st => ∃ (j76 j77 j78 j79 j80 : V), st = A [(36, .d (.bool c74)), (35, j80), (34, j79), (33, j78), (32, j77), (31, j76)]) ?_ ?_
        · refine ok_mvB rfl rfl h75 (fun h75 => ?_) (fun h75 => ?_)
          · refine ok_v (.ref 0 4 0 2) rfl rfl ?_
            refine ok_v (.d (.agg [.int .i64 p0.Share.Num, .int .i64 p0.Share.Den])) rfl rfl ?_
            refine ok_v (.d (.agg [.int .i64 0, .int .i64 0])) rfl rfl ?_
            refine ok_v (.d (.bool ((p0.Share.Num == 0) && ((p0.Share.Den == 0) && true)))) rfl rfl ?_
            refine ok_v (.d (.bool ((p0.Share.Num == 0) && ((p0.Share.Den == 0) && true)))) rfl rfl ?_
            refine ok_nil ?_
            obtain rfl := someE h75
            exact ⟨_, _, _, _, _, rfl⟩
          · refine ok_sg rfl ?_
            refine ok_sg rfl ?_
            refine ok_sg rfl ?_
            refine ok_sg rfl ?_
            refine ok_v (.d (.bool false)) rfl rfl ?_
            refine ok_nil ?_
            obtain rfl := someE h75
            exact ⟨_, _, _, _, _, rfl⟩
        · rintro _ ⟨j76, j77, j78, j79, j80, rfl⟩
          refine ok_as rfl rfl ?_
          refine ok_nil ?_
          refine rk_ret ?_
          obtain rfl := someE h0
          exact finD (.inr rfl) (v := .d (.bool c74)) rfl rfl (.refl _)
    · refine rk_seq ?_
      refine rk_region ?_
      refine ok_v (.d (.bool (p0.Kind == 2))) rfl rfl ?_
      refine ok_as rfl rfl ?_
      refine ok_nil ?_
      refine rk_condH rfl h0 (fun _ h0 => ?_) (fun _ h0 => ?_)
      · refine rk_seq ?_
        refine rk_region ?_
        refine ok_v (.ref 0 4 0 1) rfl rfl ?_
        refine ok_v (.d (.int .i64 p0.Size)) rfl rfl ?_
        refine ok_v (.d (.bool (p0.Size == 0))) rfl rfl ?_
        obtain ⟨c83, h84, h0⟩ := bindE h0
        refine ok_cutQ 6 (fun A st => ∃ (j85 j86 j87 j88 j89 : V), st = A [(47, .d (.bool c83)), (46, j89), (45, j88), (44, j87), (43, j86), (42, j85)]) ?_ ?_
        · refine ok_mvB rfl rfl h84 (fun h84 => ?_) (fun h84 => ?_)
          · refine ok_v (.ref 0 4 0 2) rfl rfl ?_
            refine ok_v (.d (.agg [.int .i64 p0.Share.Num, .int .i64 p0.Share.Den])) rfl rfl ?_
            obtain ⟨r90, h91, h84⟩ := bindE h84
            refine ok_pc [.d (.agg [.int .i64 p0.Share.Num, .int .i64 p0.Share.Den])] (ratio_Check_ok p0.Share r90 h91) rfl rfl rfl (.inl rfl) ?_
            refine ok_v (.d (.bool (r90 == 0))) rfl rfl ?_
            refine ok_v (.d (.bool (r90 == 0))) rfl rfl ?_
            refine ok_nil ?_
            obtain rfl := someE h84
            exact ⟨_, _, _, _, _, rfl⟩
          · refine ok_sg rfl ?_
            refine ok_sg rfl ?_
            refine ok_sg rfl ?_
            refine ok_sg rfl ?_
            refine ok_v (.d (.bool false)) rfl rfl ?_
            refine ok_nil ?_
            obtain rfl := someE h84
            exact ⟨_, _, _, _, _, rfl⟩
        · rintro _ ⟨j85, j86, j87, j88, j89, rfl⟩
          obtain ⟨c92, h93, h0⟩ := bindE h0
          refine ok_cutQ 6 (fun A st => ∃ (j94 j95 j96 j97 j98 : V), st = A [(53, .d (.bool c92)), (52, j98), (51, j97), (50, j96), (49, j95), (48, j94)]) ?_ ?_
          · refine ok_mvB rfl rfl h93 (fun h93 => ?_) (fun h93 => ?_)
            · refine ok_v (.ref 0 4 0 2) rfl rfl ?_
              refine ok_v (.ref 0 4 0 2) rfl rfl ?_
              refine ok_v (.d (.int .i64 p0.Share.Num)) rfl rfl ?_
              refine ok_v (.d (.bool (decide (p0.Share.Num ≥ 0)))) rfl rfl ?_
              refine ok_v (.d (.bool (decide (p0.Share.Num ≥ 0)))) rfl rfl ?_
              refine ok_nil ?_
              obtain rfl := someE h93
              exact ⟨_, _, _, _, _, rfl⟩
            · refine ok_sg rfl ?_
              refine ok_sg rfl ?_
              refine ok_sg rfl ?_
              refine ok_sg rfl ?_
              refine ok_v (.d (.bool false)) rfl rfl ?_
              refine ok_nil ?_
              obtain rfl := someE h93
              exact ⟨_, _, _, _, _, rfl⟩
          · rintro _ ⟨j94, j95, j96, j97, j98, rfl⟩
            obtain ⟨c99, h100, h0⟩ := bindE h0
            refine ok_cutQ 9 (fun A st => ∃ (j101 j102 j103 j104 j105 j106 j107 j108 : V), st = A [(62, .d (.bool c99)), (61, j108), (60, j107), (59, j106), (58, j105), (57, j104), (56, j103), (55, j102), (54, j101)]) ?_ ?_
            · refine ok_mvB rfl rfl h100 (fun h100 => ?_) (fun h100 => ?_)
              · refine ok_v (.ref 0 4 0 2) rfl rfl ?_
                refine ok_v (.ref 0 4 0 2) rfl rfl ?_
                refine ok_v (.d (.int .i64 p0.Share.Num)) rfl rfl ?_
                refine ok_v (.ref 0 4 0 2) rfl rfl ?_
                refine ok_v (.ref 0 4 0 3) rfl rfl ?_
                refine ok_v (.d (.int .i64 p0.Share.Den)) rfl rfl ?_
                refine ok_v (.d (.bool (decide (p0.Share.Num ≤ p0.Share.Den)))) rfl rfl ?_
                refine ok_v (.d (.bool (decide (p0.Share.Num ≤ p0.Share.Den)))) rfl rfl ?_
                refine ok_nil ?_
                obtain rfl := someE h100
                exact ⟨_, _, _, _, _, _, _, _, rfl⟩
              · refine ok_sg rfl ?_
                refine ok_sg rfl ?_
                refine ok_sg rfl ?_
                refine ok_sg rfl ?_
                refine ok_sg rfl ?_
                refine ok_sg rfl ?_
                refine ok_sg rfl ?_
                refine ok_v (.d (.bool false)) rfl rfl ?_
                refine ok_nil ?_
                obtain rfl := someE h100
                exact ⟨_, _, _, _, _, _, _, _, rfl⟩
            · rintro _ ⟨j101, j102, j103, j104, j105, j106, j107, j108, rfl⟩
              refine ok_as rfl rfl ?_
              refine ok_nil ?_
              refine rk_ret ?_
              obtain rfl := someE h0
              exact finD (.inr rfl) (v := .d (.bool c99)) rfl rfl (.refl _)
      · refine rk_skip ?_
        refine rk_nil ?_
        refine blk_nor ?_
        refine rk_seq ?_
        refine rk_region ?_
        refine ok_as rfl rfl ?_
        refine ok_nil ?_
        refine rk_ret ?_
        obtain rfl := someE h0
        exact finD (.inr rfl) (v := .d (.bool false)) rfl rfl (.refl _)

theorem split_Check_1_ok (p0 : api_Part) (r : Bool) (h0 : split_Check_1 p0 = some r) : Pure Try.prog tab 31 [.agg [.int .u8 p0.Kind, .int .i64 p0.Size, .int .i64 p0.Share.Num, .int .i64 p0.Share.Den]] (.bool r) := by
  unfold split_Check_1 at h0
  refine pure_of_run Try.func31 rfl (by kernel_rfl) (by kernel_rfl) rfl ?_
  refine rk_seq ?_
  refine rk_region ?_
  refine ok_new (.ref 0 4 0 0) (.dat 4 [[.int .u8 p0.Kind, .int .i64 p0.Size, .int .i64 p0.Share.Num, .int .i64 p0.Share.Den]]) rfl rfl ?_
  refine ok_as rfl rfl ?_
  refine ok_nil ?_
  refine rk_seq ?_
  refine rk_region ?_
  refine ok_v (.d (.agg [.int .u8 p0.Kind, .int .i64 p0.Size, .int .i64 p0.Share.Num, .int .i64 p0.Share.Den])) rfl rfl ?_
  obtain ⟨r1, h2, h0⟩ := bindE h0
  refine ok_pc [.d (.agg [.int .u8 p0.Kind, .int .i64 p0.Size, .int .i64 p0.Share.Num, .int .i64 p0.Share.Den])] (split_valid_ok p0 r1 h2) rfl rfl rfl (.inl rfl) ?_
  refine ok_v (.d (.bool (!r1))) rfl rfl ?_
  refine ok_as rfl rfl ?_
  refine ok_nil ?_
  refine rk_ret ?_
  obtain rfl := someE h0
  exact finD (.inr rfl) (v := .d (.bool (!r1))) rfl rfl (.refl _)

theorem split_Check_ok (p0 : List api_Part) (r : Int) (h0 : split_Check p0 = some r) : Pure Try.prog tab 13 [.sl 4 (p0.map enc_api_Part)] (.int .i64 r) := by
  unfold split_Check at h0
  refine pure_of_run Try.func13 rfl (by kernel_rfl) (by kernel_rfl) rfl ?_
  refine rk_seq ?_
  refine rk_region ?_
  refine ok_as rfl rfl ?_
  refine ok_nil ?_
  refine rk_seq ?_
  refine rk_seq ?_
  refine rk_region ?_
  refine ok_mv rfl rfl ?_
  refine ok_ln rfl rfl rfl rfl ?_
  refine ok_v (.d (.bool (decide ((p0.length : Int) > 200)))) rfl rfl ?_
  refine ok_nil ?_
  refine rk_condH rfl h0 (fun _ h0 => ?_) (fun _ h0 => ?_)
  · refine rk_seq ?_
    refine rk_region ?_
    refine ok_as rfl rfl ?_
    refine ok_nil ?_
    refine rk_ret ?_
    obtain rfl := someE h0
    exact finD (.inr rfl) (v := .d (.int .i64 4)) rfl rfl (.refl _)
  · refine rk_skip ?_
    refine rk_seq ?_
    refine rk_seq ?_
    refine rk_region ?_
    refine ok_mv rfl rfl ?_
    obtain ⟨r1, h2, h0⟩ := bindE h0
    refine ok_pc [.d (.sl 4 (p0.map enc_api_Part)), .d (.fn 31 [])] (slices_ContainsFunc_api_Part_api_Part_ok p0 (fun x0 => split_Check_1 x0) 31 [] (fun x0 r hr => split_Check_1_ok x0 r hr) r1 h2) rfl rfl rfl (.inl rfl) ?_
    refine ok_nil ?_
    refine rk_condH rfl h0 (fun _ h0 => ?_) (fun _ h0 => ?_)
    · refine rk_seq ?_
      refine rk_region ?_
      refine ok_as rfl rfl ?_
      refine ok_nil ?_
      refine rk_ret ?_
      obtain rfl := someE h0
      exact finD (.inr rfl) (v := .d (.int .i64 8)) rfl rfl (.refl _)
    · refine rk_skip ?_
      refine rk_seq ?_
      refine rk_region ?_
      refine ok_as rfl rfl ?_
      refine ok_nil ?_
      refine rk_ret ?_
      obtain rfl := someE h0
      exact finD (.inr rfl) (v := .d (.int .i64 0)) rfl rfl (.refl _)

theorem split_Sizes_1_e1_eff (p0 : Int) (p1 : Int) (p2 : List Int) (p3 : Int) (r : List Int × Int) (h0 : split_Sizes_1_e1  p0 p1 p2 p3 = some r) : EvCall Try.prog tab 27 [.d (.int .i64 p0), .d (.int .i64 p1), .ref 0 1 0 0, .ref 2 1 0 0] [(0, .cel 1 [[.hs 1 1 0 p2.length]]), (1, .dat 1 (p2.map (eI .i64))), (2, .dat 1 [[.int .i64 p3]])] 3 (.d (.tup [])) [(0, .cel 1 [[.hs 1 1 0 r.1.length]]), (1, .dat 1 (r.1.map (eI .i64))), (2, .dat 1 [[.int .i64 r.2]])] 3 := by
  unfold split_Sizes_1_e1 at h0
  refine eff_of_run Try.func27 rfl (by kernel_rfl) (by kernel_rfl) rfl ?_
  refine rk_seq ?_
  refine rk_region ?_
  refine ok_v (.hs 1 1 0 p2.length) rfl rfl ?_
  refine ok_mv rfl rfl ?_
  refine ok_mv rfl rfl ?_
  obtain ⟨v101, h102, h0⟩ := bindE h0
  refine ok_ih h102 rfl rfl rfl rfl rfl rfl rfl ?_
  refine ok_sh (ds := [.int .i64 p1]) p1 h102 rfl rfl rfl rfl rfl rfl rfl rfl (leb rfl) rfl ?_
  refine ok_nil ?_
  refine rk_region ?_
  refine ok_v (.d (.int .i64 p3)) rfl rfl ?_
  refine ok_mv rfl rfl ?_
  refine ok_v (.d (.int .i64 (w64 (p3 - p1)))) rfl rfl ?_
  refine ok_sto 2 (.dat 1 [[.int .i64 (w64 (p3 - p1))]]) rfl rfl ?_
  refine ok_nil ?_
  refine rk_nil ?_
  obtain rfl := someE h0
  exact ⟨.inl rfl, _, rfl, wkE [] [] [] rfl ⟨⟨_, rfl, .d (.refl _)⟩, trivial⟩ ⟨⟨ltd rfl, .inr ⟨by decide, _, rfl, wb_cel1 (.cons (wv_hsL (by simp) rfl (by decide) (ltd rfl)) rfl .nil)⟩⟩, ⟨ltd rfl, .inr ⟨by decide, _, rfl, .dat _ _⟩⟩, ⟨ltd rfl, .inr ⟨by decide, _, rfl, .dat _ _⟩⟩, trivial⟩⟩

theorem split_shares_e1_eff (p0 : Int) (p1 : List Int) (r : List Int × Int × Int) (h0 : split_shares_e1  p0 p1 = some r) : EvCall Try.prog tab 28 [.d (.int .i64 p0), .hs 0 1 0 p1.length] [(0, .dat 1 (p1.map (eI .i64)))] 1 (.fn 46 [.ref 1 1 0 0, .ref 2 1 0 0, .ref 3 1 0 0]) [(0, .dat 1 (r.1.map (eI .i64))), (1, .cel 1 [[.hs 0 1 0 r.1.length]]), (2, .dat 1 [[.int .i64 r.2.1]]), (3, .dat 1 [[.int .i64 r.2.2]])] 4 := by
  unfold split_shares_e1 at h0
  refine eff_of_run Try.func28 rfl (by kernel_rfl) (by kernel_rfl) rfl ?_
  refine rk_seq ?_
  refine rk_region ?_
  refine ok_new (.ref 1 1 0 0) (.dat 1 [[.int .i64 p0]]) rfl rfl ?_
  refine ok_new (.ref 2 1 0 0) (.cel 1 [[.hs 0 1 0 p1.length]]) rfl rfl ?_
  refine ok_as rfl rfl ?_
  refine ok_nil ?_
  refine rk_seq ?_
  refine rk_region ?_
  refine ok_alloc rfl rfl ?_
  refine ok_sto 3 (.dat 1 [[.int .i64 0]]) rfl rfl ?_
  refine ok_nil ?_
  refine rk_seq ?_
  refine rk_seq ?_
  refine rk_region ?_
  refine ok_v (.hs 0 1 0 p1.length) rfl rfl ?_
  refine ok_v (.d (.int .i64 (p1.length : Int))) rfl rfl ?_
  refine ok_mv rfl rfl ?_
  refine ok_nil ?_
  obtain ⟨m112, h113, h0⟩ := bindE h0
  refine rk_blockcut (fun b114 => b114 = m112) (fun (b114 : Int) => ⟨[(2, .ref 1 1 0 0), (3, .ref 2 1 0 0), (5, .ref 3 1 0 0)], [(0, .dat 1 (p1.map (eI .i64))), (1, .dat 1 [[.int .i64 p0]]), (2, .cel 1 [[.hs 0 1 0 p1.length]]), (3, .dat 1 [[.int .i64 b114]])], 4⟩) (by simp) ?_ ?_
  · refine rk_loopF (split_shares_e1_L1 p1) (fun (a111 : Int × Int) => ⟨[(2, .ref 1 1 0 0), (3, .ref 2 1 0 0), (5, .ref 3 1 0 0), (8, .hs 0 1 0 p1.length), (9, .d (.int .i64 (p1.length : Int))), (10, .d (.int .i64 a111.1))], [(0, .dat 1 (p1.map (eI .i64))), (1, .dat 1 [[.int .i64 p0]]), (2, .cel 1 [[.hs 0 1 0 p1.length]]), (3, .dat 1 [[.int .i64 a111.2]])], 4⟩) (0, 0) m112 h113 (wkE [(1, 1), (2, 2), (3, 3)] [] [] rfl ⟨⟨_, rfl, .ref rfl (by decide) (ltd rfl)⟩, ⟨_, rfl, .ref rfl (by decide) (ltd rfl)⟩, ⟨_, rfl, .ref rfl (by decide) (ltd rfl)⟩, ⟨_, rfl, .hs rfl (by decide) (ltd rfl)⟩, ⟨_, rfl, .d (.refl _)⟩, ⟨_, rfl, .d (.refl _)⟩, trivial⟩ ⟨⟨ltd rfl, .inr ⟨by decide, _, rfl, .dat _ _⟩⟩, ⟨ltd rfl, .inr ⟨by decide, _, rfl, .dat _ _⟩⟩, ⟨ltd rfl, .inr ⟨by decide, _, rfl, wb_cel1 (.cons (.hs rfl (by decide) (ltd rfl)) rfl .nil)⟩⟩, ⟨ltd rfl, .inr ⟨by decide, _, rfl, .dat _ _⟩⟩, trivial⟩) ?_
    intro a111 y109 h110
    unfold split_shares_e1_L1 at h110
    refine rk_seq ?_
    refine rk_region ?_
    refine ok_v (.d (.bool (decide (a111.1 < (p1.length : Int))))) rfl rfl ?_
    refine ok_nil ?_
    refine rk_seq ?_
    refine rk_condH rfl h110 (fun _ h110 => ?_) (fun _ h110 => ?_)
    · refine rk_skip ?_
      refine rk_seq ?_
      refine rk_block ?_
      refine rk_seq ?_
      refine rk_region ?_
      obtain ⟨v117, h118, h110⟩ := bindE h110
      refine ok_ih h118 rfl rfl rfl rfl rfl rfl rfl ?_
      refine ok_lh (.d (.int .i64 v117)) h118 rfl rfl rfl rfl rfl rfl ?_
      refine ok_as rfl rfl ?_
      refine ok_nil ?_
      refine rk_region ?_
      refine ok_v (.d (.int .i64 a111.2)) rfl rfl ?_
      refine ok_mv rfl rfl ?_
      refine ok_v (.d (.int .i64 (w64 (a111.2 + v117)))) rfl rfl ?_
      refine ok_sto 3 (.dat 1 [[.int .i64 (w64 (a111.2 + v117))]]) rfl rfl ?_
      refine ok_nil ?_
      refine rk_nil ?_
      refine blk_nor ?_
      refine rk_region ?_
      refine ok_v (.d (.int .i64 (w64 (a111.1 + 1)))) rfl rfl ?_
      refine ok_mv rfl rfl ?_
      refine ok_nil ?_
      refine rk_nil ?_
      exact ⟨_, (Option.some.inj h110).symm, wkE [(1, 1), (2, 2), (3, 3)] [] [] rfl ⟨⟨_, rfl, .ref rfl (by decide) (ltd rfl)⟩, ⟨_, rfl, .ref rfl (by decide) (ltd rfl)⟩, ⟨_, rfl, .ref rfl (by decide) (ltd rfl)⟩, ⟨_, rfl, .hs rfl (by decide) (ltd rfl)⟩, ⟨_, rfl, .d (.refl _)⟩, ⟨_, rfl, .d (.refl _)⟩, trivial⟩ ⟨⟨ltd rfl, .inr ⟨by decide, _, rfl, .dat _ _⟩⟩, ⟨ltd rfl, .inr ⟨by decide, _, rfl, .dat _ _⟩⟩, ⟨ltd rfl, .inr ⟨by decide, _, rfl, wb_cel1 (.cons (.hs rfl (by decide) (ltd rfl)) rfl .nil)⟩⟩, ⟨ltd rfl, .inr ⟨by decide, _, rfl, .dat _ _⟩⟩, trivial⟩⟩
    · refine rk_exit ?_
      refine ⟨_, (Option.some.inj h110).symm, fun hm => ?_⟩
      subst hm
      exact ⟨_, rfl, wkE [(1, 1), (2, 2), (3, 3)] [] [] rfl ⟨⟨_, rfl, .ref rfl (by decide) (ltd rfl)⟩, ⟨_, rfl, .ref rfl (by decide) (ltd rfl)⟩, ⟨_, rfl, .ref rfl (by decide) (ltd rfl)⟩, trivial⟩ ⟨⟨ltd rfl, .inr ⟨by decide, _, rfl, .dat _ _⟩⟩, ⟨ltd rfl, .inr ⟨by decide, _, rfl, .dat _ _⟩⟩, ⟨ltd rfl, .inr ⟨by decide, _, rfl, wb_cel1 (.cons (.hs rfl (by decide) (ltd rfl)) rfl .nil)⟩⟩, ⟨ltd rfl, .inr ⟨by decide, _, rfl, .dat _ _⟩⟩, trivial⟩⟩
  · intro b114 hb
    subst hb
    refine rk_seq ?_
    refine rk_region ?_
    refine ok_v (.fn 46 [.ref 2 1 0 0, .ref 1 1 0 0, .ref 3 1 0 0]) rfl rfl ?_
    refine ok_as rfl rfl ?_
    refine ok_nil ?_
    refine rk_ret ?_
    obtain rfl := someE h0
    exact ⟨.inr rfl, _, rfl, wkE [(1, 2), (2, 1), (3, 3)] [] [] rfl ⟨⟨_, rfl, (wv_fn (.cons (.ref rfl (by decide) (ltd rfl)) (.cons (.ref rfl (by decide) (ltd rfl)) (.cons (.ref rfl (by decide) (ltd rfl)) .nil))))⟩, trivial⟩ ⟨⟨ltd rfl, .inr ⟨by decide, _, rfl, .dat _ _⟩⟩, ⟨ltd rfl, .inr ⟨by decide, _, rfl, wb_cel1 (.cons (.hs rfl (by decide) (ltd rfl)) rfl .nil)⟩⟩, ⟨ltd rfl, .inr ⟨by decide, _, rfl, .dat _ _⟩⟩, ⟨ltd rfl, .inr ⟨by decide, _, rfl, .dat _ _⟩⟩, trivial⟩⟩

theorem split_Sizes_ok (p0 : Int) (p1 : List api_Part) (r : List Int × Int) (h0 : split_Sizes p0 p1 = some r) : Pure Try.prog tab 11 [.int .i64 p0, .sl 4 (p1.map enc_api_Part)] (.tup [.sl 1 (r.1.map (eI .i64)), .int .i64 r.2]) := by
  unfold split_Sizes at h0
  refine pure_of_run Try.func11 rfl (by kernel_rfl) (by kernel_rfl) rfl ?_
  refine rk_seq ?_
  refine rk_region ?_
  refine ok_as rfl rfl ?_
  refine ok_as rfl rfl ?_
  refine ok_nil ?_
  refine rk_seq ?_
  refine rk_seq ?_
  refine rk_region ?_
  refine ok_mv rfl rfl ?_
  obtain ⟨r1, h2, h0⟩ := bindE h0
  refine ok_pc [.d (.sl 4 (p1.map enc_api_Part))] (split_Check_ok p1 r1 h2) rfl rfl rfl (.inl rfl) ?_
  refine ok_as rfl rfl ?_
  refine ok_nil ?_
  refine rk_seq ?_
  refine rk_region ?_
  refine ok_mv rfl rfl ?_
  refine ok_v (.d (.bool (r1 != 0))) rfl rfl ?_
  refine ok_nil ?_
  refine rk_condH rfl h0 (fun _ h0 => ?_) (fun _ h0 => ?_)
  · refine rk_seq ?_
    refine rk_region ?_
    refine ok_mv rfl rfl ?_
    refine ok_as rfl rfl ?_
    refine ok_as rfl rfl ?_
    refine ok_nil ?_
    refine rk_ret ?_
    obtain rfl := someE h0
    exact finD (.inr rfl) (v := .d (.tup [.nilsl, .int .i64 r1])) rfl rfl (dle_tup (.cons (.nil _) (.cons (.refl _) .nil)))
  · refine rk_skip ?_
    refine rk_seq ?_
    refine rk_seq ?_
    refine rk_region ?_
    refine ok_mv rfl rfl ?_
    refine ok_v (.d (.bool (decide (p0 < 0)))) rfl rfl ?_
    obtain ⟨c3, h4, h0⟩ := bindE h0
    refine ok_cutQ 4 (fun A st => ∃ (j5 j6 j7 : V), st = A [(25, .d (.bool c3)), (24, j7), (23, j6), (22, j5)]) ?_ ?_
    · refine ok_mvB rfl rfl h4 (fun h4 => ?_) (fun h4 => ?_)
      · refine ok_sg rfl ?_
        refine ok_sg rfl ?_
        refine ok_v (.d (.bool true)) rfl rfl ?_
        refine ok_nil ?_
        obtain rfl := someE h4
        exact ⟨_, _, _, rfl⟩
      · refine ok_mv rfl rfl ?_
        refine ok_v (.d (.bool (decide (p0 > 1000000)))) rfl rfl ?_
        refine ok_v (.d (.bool (decide (p0 > 1000000)))) rfl rfl ?_
        refine ok_nil ?_
        obtain rfl := someE h4
        exact ⟨_, _, _, rfl⟩
    · rintro _ ⟨j5, j6, j7, rfl⟩
      refine ok_nil ?_
      refine rk_condH rfl h0 (fun _ h0 => ?_) (fun _ h0 => ?_)
      · refine rk_seq ?_
        refine rk_region ?_
        refine ok_as rfl rfl ?_
        refine ok_as rfl rfl ?_
        refine ok_nil ?_
        refine rk_ret ?_
        obtain rfl := someE h0
        exact finD (.inr rfl) (v := .d (.tup [.nilsl, .int .i64 2])) rfl rfl (dle_tup (.cons (.nil _) (.cons (.refl _) .nil)))
      · refine rk_skip ?_
        refine rk_seq ?_
        refine rk_region ?_
        refine ok_mv rfl rfl ?_
        refine ok_ln rfl rfl rfl rfl ?_
        obtain ⟨z8, h9, h0⟩ := bindE h0
        refine ok_mks (z := 0) (enc := (eI .i64)) h9 rfl rfl rfl rfl rfl rfl ?_
        refine ok_mv rfl rfl ?_
        refine ok_alloc rfl rfl ?_
        refine ok_alloc rfl rfl ?_
        refine ok_sto 1 (.cel 1 [[.hs 0 1 0 z8.length]]) rfl rfl ?_
        refine ok_sto 2 (.dat 1 [[.int .i64 p0]]) rfl rfl ?_
        refine ok_nil ?_
        refine rk_seq ?_
        refine rk_region ?_
        refine ok_as rfl rfl ?_
        refine ok_alloc rfl rfl ?_
        refine ok_nil ?_
        refine rk_seq ?_
        refine rk_region ?_
        refine ok_v (.fn 27 [.ref 1 1 0 0, .ref 2 1 0 0]) rfl rfl ?_
        refine ok_as rfl rfl ?_
        refine ok_nil ?_
        refine rk_seq ?_
        refine rk_seq ?_
        refine rk_region ?_
        refine ok_mv rfl rfl ?_
        refine ok_ln rfl rfl rfl rfl ?_
        refine ok_mv rfl rfl ?_
        refine ok_nil ?_
        obtain ⟨m58, h59, h0⟩ := bindE h0
        refine rk_blockcut (fun b60 => b60 = m58) (fun (b60 : Int × List Int × List Int × List Int) => ⟨[(4, .d (.nilsl)), (5, .d (.int .i64 0)), (7, .ref 0 1 0 0), (8, .ref 1 1 0 0), (9, .hs 2 1 0 b60.2.1.length), (10, .ref 3 1 0 0)], [(0, .cel 1 [[.hs 4 1 0 b60.2.2.1.length]]), (1, .dat 1 [[.int .i64 b60.1]]), (2, .dat 1 (b60.2.1.map (eI .i64))), (3, .cel 1 [[.hs 5 1 0 b60.2.2.2.length]]), (4, .dat 1 (b60.2.2.1.map (eI .i64))), (5, .dat 1 (b60.2.2.2.map (eI .i64)))], 6⟩) (by simp) ?_ ?_
        · refine rk_loopF (split_Sizes_L1 p1 p0) (fun (a57 : Int × Int × List Int × List Int × List Int) => ⟨[(0, .d (.int .i64 p0)), (4, .d (.nilsl)), (5, .d (.int .i64 0)), (7, .ref 0 1 0 0), (8, .ref 1 1 0 0), (9, .hs 2 1 0 a57.2.2.1.length), (10, .ref 3 1 0 0), (11, .fn 27 [.ref 0 1 0 0, .ref 1 1 0 0]), (31, .d (.sl 4 (p1.map enc_api_Part))), (32, .d (.int .i64 (p1.length : Int))), (33, .d (.int .i64 a57.1))], [(0, .cel 1 [[.hs 4 1 0 a57.2.2.2.1.length]]), (1, .dat 1 [[.int .i64 a57.2.1]]), (2, .dat 1 (a57.2.2.1.map (eI .i64))), (3, .cel 1 [[.hs 5 1 0 a57.2.2.2.2.length]]), (4, .dat 1 (a57.2.2.2.1.map (eI .i64))), (5, .dat 1 (a57.2.2.2.2.map (eI .i64)))], 6⟩) (0, p0, [], z8, []) m58 h59 (wkE [(0, 1), (1, 2), (3, 3), (4, 0)] [] [2, 5] rfl ⟨⟨_, rfl, .d (.refl _)⟩, ⟨_, rfl, .d (.refl _)⟩, ⟨_, rfl, .d (.refl _)⟩, ⟨_, rfl, .ref rfl (by decide) (ltd rfl)⟩, ⟨_, rfl, .ref rfl (by decide) (ltd rfl)⟩, ⟨_, rfl, .nil (by decide) (ltd rfl)⟩, ⟨_, rfl, .ref rfl (by decide) (ltd rfl)⟩, ⟨_, rfl, (wv_fn (.cons (.ref rfl (by decide) (ltd rfl)) (.cons (.ref rfl (by decide) (ltd rfl)) .nil)))⟩, ⟨_, rfl, .d (.refl _)⟩, ⟨_, rfl, .d (.refl _)⟩, ⟨_, rfl, .d (.refl _)⟩, trivial⟩ ⟨⟨ltd rfl, .inr ⟨by decide, _, rfl, wb_cel1 (.cons (.hs rfl (by decide) (ltd rfl)) rfl .nil)⟩⟩, ⟨ltd rfl, .inr ⟨by decide, _, rfl, .dat _ _⟩⟩, ⟨ltd rfl, .inl ⟨by decide, _, by decide, rfl⟩⟩, ⟨ltd rfl, .inr ⟨by decide, _, rfl, wb_datcel1 (.cons (.nil (by decide) (ltd rfl)) rfl .nil)⟩⟩, ⟨ltd rfl, .inr ⟨by decide, _, rfl, .dat _ _⟩⟩, ⟨ltd rfl, .inl ⟨by decide, _, by decide, rfl⟩⟩, trivial⟩) ?_
          intro a57 y55 h56
          unfold split_Sizes_L1 at h56
          refine rk_seq ?_
          refine rk_region ?_
          refine ok_v (.d (.bool (decide (a57.1 < (p1.length : Int))))) rfl rfl ?_
          refine ok_nil ?_
          refine rk_seq ?_
          refine rk_condH rfl h56 (fun _ h56 => ?_) (fun _ h56 => ?_)
          · refine rk_skip ?_
            refine rk_seq ?_
            obtain ⟨m80, h79, h56⟩ := bindE h56
            refine rk_blockcut (fun b81 => b81 = m80) (fun (b81 : Int × List Int × List Int × List Int) => ⟨[(0, .d (.int .i64 p0)), (4, .d (.nilsl)), (5, .d (.int .i64 0)), (7, .ref 0 1 0 0), (8, .ref 1 1 0 0), (9, .hs 2 1 0 b81.2.1.length), (10, .ref 3 1 0 0), (11, .fn 27 [.ref 0 1 0 0, .ref 1 1 0 0]), (31, .d (.sl 4 (p1.map enc_api_Part))), (32, .d (.int .i64 (p1.length : Int))), (33, .d (.int .i64 a57.1))], [(0, .cel 1 [[.hs 4 1 0 b81.2.2.1.length]]), (1, .dat 1 [[.int .i64 b81.1]]), (2, .dat 1 (b81.2.1.map (eI .i64))), (3, .cel 1 [[.hs 5 1 0 b81.2.2.2.length]]), (4, .dat 1 (b81.2.2.1.map (eI .i64))), (5, .dat 1 (b81.2.2.2.map (eI .i64)))], 6⟩) (by simp) ?_ ?_
            · refine rk_seq ?_
              refine rk_region ?_
              refine ok_mv rfl rfl ?_
              obtain ⟨v82, h83, h79⟩ := bindE h79
              refine ok_ix (enc := enc_api_Part) h83 rfl rfl rfl rfl rfl rfl ?_
              refine ok_v (.d (.agg [.int .u8 v82.Kind, .int .i64 v82.Size, .int .i64 v82.Share.Num, .int .i64 v82.Share.Den])) rfl rfl ?_
              refine ok_alloc rfl rfl ?_
              refine ok_as rfl rfl ?_
              refine ok_sto 6 (.dat 4 [[.int .u8 v82.Kind, .int .i64 v82.Size, .int .i64 v82.Share.Num, .int .i64 v82.Share.Den]]) rfl rfl ?_
              refine ok_nil ?_
              refine rk_seq ?_
              refine rk_region ?_
              refine ok_v (.ref 6 4 0 0) rfl rfl ?_
              refine ok_v (.d (.int .u8 v82.Kind)) rfl rfl ?_
              refine ok_nil ?_
              refine rk_block ?_
              refine rk_seq ?_
              refine rk_region ?_
              refine ok_v (.d (.bool (v82.Kind == 1))) rfl rfl ?_
              refine ok_as rfl rfl ?_
              refine ok_nil ?_
              refine rk_condH rfl h79 (fun _ h79 => ?_) (fun _ h79 => ?_)
              · refine rk_region ?_
                refine ok_mv rfl rfl ?_
                refine ok_mv rfl rfl ?_
                refine ok_v (.ref 6 4 0 1) rfl rfl ?_
                refine ok_v (.d (.int .i64 v82.Size)) rfl rfl ?_
                obtain ⟨e84, h85, h79⟩ := bindE h79
                obtain ⟨u86, h87, h79⟩ := bindE h79
                have h88 := lenEq_some h87
                refine ok_callF [(0, 0), (1, 4), (2, 1)] [(0, 0), (1, 2), (2, 3), (3, 3), (4, 1), (5, 3), (6, 3)] [.d (.int .i64 a57.1), .d (.int .i64 v82.Size), .ref 0 1 0 0, .ref 1 1 0 0] (.d (.tup [])) [(0, .cel 1 [[.hs 4 1 0 e84.1.length]]), (1, .dat 1 [[.int .i64 e84.2]]), (4, .dat 1 (e84.1.map (eI .i64)))] [(0, .cel 1 [[.hs 4 1 0 e84.1.length]]), (1, .dat 1 [[.int .i64 e84.2]]), (4, .dat 1 (e84.1.map (eI .i64))), (2, .dat 1 (a57.2.2.1.map (eI .i64))), (3, .cel 1 [[.hs 5 1 0 a57.2.2.2.2.length]]), (5, .dat 1 (a57.2.2.2.2.map (eI .i64))), (6, .dat 4 [[.int .u8 v82.Kind, .int .i64 v82.Size, .int .i64 v82.Share.Num, .int .i64 v82.Share.Den]])] 7 (split_Sizes_1_e1_eff a57.1 v82.Size a57.2.2.2.1 a57.2.1 e84 h85) rfl rfl rfl (wk_mk [(0, 0), (1, 4), (2, 1)] [] [] rfl ⟨⟨_, rfl, .d (.refl _)⟩, ⟨_, rfl, .d (.refl _)⟩, ⟨_, rfl, .ref rfl (by decide) (ltd rfl)⟩, ⟨_, rfl, .ref rfl (by decide) (ltd rfl)⟩, trivial⟩ ⟨⟨ltd rfl, .inr ⟨by decide, _, rfl, wb_cel1 (.cons (.hs rfl (by decide) (ltd rfl)) rfl .nil)⟩⟩, ⟨ltd rfl, .inr ⟨by decide, _, rfl, .dat _ _⟩⟩, ⟨ltd rfl, .inr ⟨by decide, _, rfl, .dat _ _⟩⟩, trivial⟩) (wk_mk [(0, 0), (1, 2), (2, 3), (3, 3), (4, 1), (5, 3), (6, 3)] [] [] rfl ⟨⟨_, rfl, .d (.refl _)⟩, trivial⟩ ⟨⟨ltd rfl, .inr ⟨by decide, _, rfl, wb_cel1 (.cons (.hs rfl (by decide) (ltd rfl)) rfl .nil)⟩⟩, ⟨ltd rfl, .inr ⟨by decide, _, rfl, .dat _ _⟩⟩, ⟨ltd rfl, .inr ⟨by decide, _, rfl, .dat _ _⟩⟩, trivial⟩) rfl ⟨.inl rfl, .inl rfl, .inl rfl, .inr ⟨rfl, rfl⟩, .inr ⟨rfl, rfl⟩, .inr ⟨rfl, rfl⟩, .inr ⟨rfl, rfl⟩, trivial⟩ ?_
                refine ok_nil ?_
                refine rk_nil ?_
                refine blk_nor ?_
                refine rk_nil ?_
                obtain rfl := someE h79
                exact ⟨_, rfl, wkE [(0, 0), (1, 1), (2, 2), (3, 3), (4, 4), (5, 5)] [] [] rfl ⟨⟨_, rfl, .d (.refl _)⟩, ⟨_, rfl, .d (.refl _)⟩, ⟨_, rfl, .d (.refl _)⟩, ⟨_, rfl, .ref rfl (by decide) (ltd rfl)⟩, ⟨_, rfl, .ref rfl (by decide) (ltd rfl)⟩, ⟨_, rfl, .hs rfl (by decide) (ltd rfl)⟩, ⟨_, rfl, .ref rfl (by decide) (ltd rfl)⟩, ⟨_, rfl, (wv_fn (.cons (.ref rfl (by decide) (ltd rfl)) (.cons (.ref rfl (by decide) (ltd rfl)) .nil)))⟩, ⟨_, rfl, .d (.refl _)⟩, ⟨_, rfl, .d (.refl _)⟩, ⟨_, rfl, .d (.refl _)⟩, trivial⟩ ⟨⟨ltd rfl, .inr ⟨by decide, _, rfl, wb_cel1 (.cons (.hs rfl (by decide) (ltd rfl)) rfl .nil)⟩⟩, ⟨ltd rfl, .inr ⟨by decide, _, rfl, .dat _ _⟩⟩, ⟨ltd rfl, .inr ⟨by decide, _, rfl, .dat _ _⟩⟩, ⟨ltd rfl, .inr ⟨by decide, _, rfl, wb_cel1 (.cons (.hs rfl (by decide) (ltd rfl)) rfl .nil)⟩⟩, ⟨ltd rfl, .inr ⟨by decide, _, rfl, .dat _ _⟩⟩, ⟨ltd rfl, .inr ⟨by decide, _, rfl, .dat _ _⟩⟩, trivial⟩⟩
              · refine rk_seq ?_
                refine rk_region ?_
                refine ok_v (.d (.bool (v82.Kind == 2))) rfl rfl ?_
                refine ok_as rfl rfl ?_
                refine ok_nil ?_
                refine rk_condH rfl h79 (fun _ h79 => ?_) (fun _ h79 => ?_)
                · refine rk_region ?_
                  refine ok_mv rfl rfl ?_
                  refine ok_mv rfl rfl ?_
                  refine ok_mv rfl rfl ?_
                  refine ok_v (.ref 6 4 0 2) rfl rfl ?_
                  refine ok_v (.ref 6 4 0 2) rfl rfl ?_
                  refine ok_v (.d (.int .i64 v82.Share.Num)) rfl rfl ?_
                  refine ok_v (.d (.int .i64 (w64 (p0 * v82.Share.Num)))) rfl rfl ?_
                  refine ok_v (.ref 6 4 0 2) rfl rfl ?_
                  refine ok_v (.ref 6 4 0 3) rfl rfl ?_
                  refine ok_v (.d (.int .i64 v82.Share.Den)) rfl rfl ?_
                  obtain ⟨q89, h90, h79⟩ := bindE h79
                  refine ok_quo h90 rfl rfl rfl ?_
                  obtain ⟨e91, h92, h79⟩ := bindE h79
                  obtain ⟨u93, h94, h79⟩ := bindE h79
                  have h95 := lenEq_some h94
                  refine ok_callF [(0, 0), (1, 4), (2, 1)] [(0, 0), (1, 2), (2, 3), (3, 3), (4, 1), (5, 3), (6, 3)] [.d (.int .i64 a57.1), .d (.int .i64 q89), .ref 0 1 0 0, .ref 1 1 0 0] (.d (.tup [])) [(0, .cel 1 [[.hs 4 1 0 e91.1.length]]), (1, .dat 1 [[.int .i64 e91.2]]), (4, .dat 1 (e91.1.map (eI .i64)))] [(0, .cel 1 [[.hs 4 1 0 e91.1.length]]), (1, .dat 1 [[.int .i64 e91.2]]), (4, .dat 1 (e91.1.map (eI .i64))), (2, .dat 1 (a57.2.2.1.map (eI .i64))), (3, .cel 1 [[.hs 5 1 0 a57.2.2.2.2.length]]), (5, .dat 1 (a57.2.2.2.2.map (eI .i64))), (6, .dat 4 [[.int .u8 v82.Kind, .int .i64 v82.Size, .int .i64 v82.Share.Num, .int .i64 v82.Share.Den]])] 7 (split_Sizes_1_e1_eff a57.1 q89 a57.2.2.2.1 a57.2.1 e91 h92) rfl rfl rfl (wk_mk [(0, 0), (1, 4), (2, 1)] [] [] rfl ⟨⟨_, rfl, .d (.refl _)⟩, ⟨_, rfl, .d (.refl _)⟩, ⟨_, rfl, .ref rfl (by decide) (ltd rfl)⟩, ⟨_, rfl, .ref rfl (by decide) (ltd rfl)⟩, trivial⟩ ⟨⟨ltd rfl, .inr ⟨by decide, _, rfl, wb_cel1 (.cons (.hs rfl (by decide) (ltd rfl)) rfl .nil)⟩⟩, ⟨ltd rfl, .inr ⟨by decide, _, rfl, .dat _ _⟩⟩, ⟨ltd rfl, .inr ⟨by decide, _, rfl, .dat _ _⟩⟩, trivial⟩) (wk_mk [(0, 0), (1, 2), (2, 3), (3, 3), (4, 1), (5, 3), (6, 3)] [] [] rfl ⟨⟨_, rfl, .d (.refl _)⟩, trivial⟩ ⟨⟨ltd rfl, .inr ⟨by decide, _, rfl, wb_cel1 (.cons (.hs rfl (by decide) (ltd rfl)) rfl .nil)⟩⟩, ⟨ltd rfl, .inr ⟨by decide, _, rfl, .dat _ _⟩⟩, ⟨ltd rfl, .inr ⟨by decide, _, rfl, .dat _ _⟩⟩, trivial⟩) rfl ⟨.inl rfl, .inl rfl, .inl rfl, .inr ⟨rfl, rfl⟩, .inr ⟨rfl, rfl⟩, .inr ⟨rfl, rfl⟩, .inr ⟨rfl, rfl⟩, trivial⟩ ?_
                  refine ok_nil ?_
                  refine rk_nil ?_
                  refine blk_nor ?_
                  refine rk_nil ?_
                  obtain rfl := someE h79
                  exact ⟨_, rfl, wkE [(0, 0), (1, 1), (2, 2), (3, 3), (4, 4), (5, 5)] [] [] rfl ⟨⟨_, rfl, .d (.refl _)⟩, ⟨_, rfl, .d (.refl _)⟩, ⟨_, rfl, .d (.refl _)⟩, ⟨_, rfl, .ref rfl (by decide) (ltd rfl)⟩, ⟨_, rfl, .ref rfl (by decide) (ltd rfl)⟩, ⟨_, rfl, .hs rfl (by decide) (ltd rfl)⟩, ⟨_, rfl, .ref rfl (by decide) (ltd rfl)⟩, ⟨_, rfl, (wv_fn (.cons (.ref rfl (by decide) (ltd rfl)) (.cons (.ref rfl (by decide) (ltd rfl)) .nil)))⟩, ⟨_, rfl, .d (.refl _)⟩, ⟨_, rfl, .d (.refl _)⟩, ⟨_, rfl, .d (.refl _)⟩, trivial⟩ ⟨⟨ltd rfl, .inr ⟨by decide, _, rfl, wb_cel1 (.cons (.hs rfl (by decide) (ltd rfl)) rfl .nil)⟩⟩, ⟨ltd rfl, .inr ⟨by decide, _, rfl, .dat _ _⟩⟩, ⟨ltd rfl, .inr ⟨by decide, _, rfl, .dat _ _⟩⟩, ⟨ltd rfl, .inr ⟨by decide, _, rfl, wb_cel1 (.cons (.hs rfl (by decide) (ltd rfl)) rfl .nil)⟩⟩, ⟨ltd rfl, .inr ⟨by decide, _, rfl, .dat _ _⟩⟩, ⟨ltd rfl, .inr ⟨by decide, _, rfl, .dat _ _⟩⟩, trivial⟩⟩
                · refine rk_regionD [(some [3], [3]), (some [], []), (some [5, 9], [5, 10]), (some [], [9]), (some [], []), (some [3], []), (some [2, 7], [2, 8]), (some [], [7]), (some [6], []), (some [], []), (some [], [])] (by kernel_rfl) ?_
                  refine ok_mv rfl rfl ?_
                  refine ok_v (.ref 6 4 0 1) rfl rfl ?_
                  refine ok_v (.d (.int .i64 v82.Size)) rfl rfl ?_
                  refine ok_new (.hs 7 1 0 [v82.Size].length) (.dat 1 ([v82.Size].map (eI .i64))) rfl rfl ?_
                  obtain ⟨z96, h97, h79⟩ := bindE h79
                  refine ok_ap (xs := a57.2.2.1) (ys := [v82.Size]) (enc := (eI .i64)) (.hs 7 1 0 [v82.Size].length) h97 rfl rfl rfl rfl rfl rfl rfl (conts_hs rfl rfl) rfl rfl rfl rfl ?_
                  refine ok_v (.hs 5 1 0 a57.2.2.2.2.length) rfl rfl ?_
                  refine ok_mv rfl rfl ?_
                  refine ok_new (.hs 9 1 0 [a57.1].length) (.dat 1 ([a57.1].map (eI .i64))) rfl rfl ?_
                  obtain ⟨z98, h99, h79⟩ := bindE h79
                  refine ok_ap (xs := a57.2.2.2.2) (ys := [a57.1]) (enc := (eI .i64)) (.hs 9 1 0 [a57.1].length) h99 rfl rfl rfl rfl rfl rfl rfl (conts_hs rfl rfl) rfl rfl rfl rfl ?_
                  refine ok_as rfl rfl ?_
                  refine ok_sto 3 (.cel 1 [[.hs 10 1 0 z98.length]]) rfl rfl ?_
                  refine ok_nil ?_
                  refine rk_nil ?_
                  refine blk_nor ?_
                  refine rk_nil ?_
                  obtain rfl := someE h79
                  exact ⟨_, rfl, wkE [(0, 0), (1, 1), (2, 8), (3, 3), (4, 4), (5, 10)] [] [] rfl ⟨⟨_, rfl, .d (.refl _)⟩, ⟨_, rfl, .d (.refl _)⟩, ⟨_, rfl, .d (.refl _)⟩, ⟨_, rfl, .ref rfl (by decide) (ltd rfl)⟩, ⟨_, rfl, .ref rfl (by decide) (ltd rfl)⟩, ⟨_, rfl, .hs rfl (by decide) (ltd rfl)⟩, ⟨_, rfl, .ref rfl (by decide) (ltd rfl)⟩, ⟨_, rfl, (wv_fn (.cons (.ref rfl (by decide) (ltd rfl)) (.cons (.ref rfl (by decide) (ltd rfl)) .nil)))⟩, ⟨_, rfl, .d (.refl _)⟩, ⟨_, rfl, .d (.refl _)⟩, ⟨_, rfl, .d (.refl _)⟩, trivial⟩ ⟨⟨ltd rfl, .inr ⟨by decide, _, rfl, wb_cel1 (.cons (.hs rfl (by decide) (ltd rfl)) rfl .nil)⟩⟩, ⟨ltd rfl, .inr ⟨by decide, _, rfl, .dat _ _⟩⟩, ⟨ltd rfl, .inr ⟨by decide, _, rfl, .dat _ _⟩⟩, ⟨ltd rfl, .inr ⟨by decide, _, rfl, wb_cel1 (.cons (.hs rfl (by decide) (ltd rfl)) rfl .nil)⟩⟩, ⟨ltd rfl, .inr ⟨by decide, _, rfl, .dat _ _⟩⟩, ⟨ltd rfl, .inr ⟨by decide, _, rfl, .dat _ _⟩⟩, trivial⟩⟩
            · intro b81 hb
              subst hb
              refine rk_region ?_
              refine ok_v (.d (.int .i64 (w64 (a57.1 + 1)))) rfl rfl ?_
              refine ok_mv rfl rfl ?_
              refine ok_nil ?_
              refine rk_nil ?_
              exact ⟨_, (Option.some.inj h56).symm, wkE [(0, 0), (1, 1), (2, 2), (3, 3), (4, 4), (5, 5)] [] [] rfl ⟨⟨_, rfl, .d (.refl _)⟩, ⟨_, rfl, .d (.refl _)⟩, ⟨_, rfl, .d (.refl _)⟩, ⟨_, rfl, .ref rfl (by decide) (ltd rfl)⟩, ⟨_, rfl, .ref rfl (by decide) (ltd rfl)⟩, ⟨_, rfl, .hs rfl (by decide) (ltd rfl)⟩, ⟨_, rfl, .ref rfl (by decide) (ltd rfl)⟩, ⟨_, rfl, (wv_fn (.cons (.ref rfl (by decide) (ltd rfl)) (.cons (.ref rfl (by decide) (ltd rfl)) .nil)))⟩, ⟨_, rfl, .d (.refl _)⟩, ⟨_, rfl, .d (.refl _)⟩, ⟨_, rfl, .d (.refl _)⟩, trivial⟩ ⟨⟨ltd rfl, .inr ⟨by decide, _, rfl, wb_cel1 (.cons (.hs rfl (by decide) (ltd rfl)) rfl .nil)⟩⟩, ⟨ltd rfl, .inr ⟨by decide, _, rfl, .dat _ _⟩⟩, ⟨ltd rfl, .inr ⟨by decide, _, rfl, .dat _ _⟩⟩, ⟨ltd rfl, .inr ⟨by decide, _, rfl, wb_cel1 (.cons (.hs rfl (by decide) (ltd rfl)) rfl .nil)⟩⟩, ⟨ltd rfl, .inr ⟨by decide, _, rfl, .dat _ _⟩⟩, ⟨ltd rfl, .inr ⟨by decide, _, rfl, .dat _ _⟩⟩, trivial⟩⟩
          · refine rk_exit ?_
            refine ⟨_, (Option.some.inj h56).symm, fun hm => ?_⟩
            subst hm
            exact ⟨_, rfl, wkE [(0, 0), (1, 1), (2, 2), (3, 3), (4, 4), (5, 5)] [] [] rfl ⟨⟨_, rfl, .d (.refl _)⟩, ⟨_, rfl, .d (.refl _)⟩, ⟨_, rfl, .ref rfl (by decide) (ltd rfl)⟩, ⟨_, rfl, .ref rfl (by decide) (ltd rfl)⟩, ⟨_, rfl, .hs rfl (by decide) (ltd rfl)⟩, ⟨_, rfl, .ref rfl (by decide) (ltd rfl)⟩, trivial⟩ ⟨⟨ltd rfl, .inr ⟨by decide, _, rfl, wb_cel1 (.cons (.hs rfl (by decide) (ltd rfl)) rfl .nil)⟩⟩, ⟨ltd rfl, .inr ⟨by decide, _, rfl, .dat _ _⟩⟩, ⟨ltd rfl, .inr ⟨by decide, _, rfl, .dat _ _⟩⟩, ⟨ltd rfl, .inr ⟨by decide, _, rfl, wb_cel1 (.cons (.hs rfl (by decide) (ltd rfl)) rfl .nil)⟩⟩, ⟨ltd rfl, .inr ⟨by decide, _, rfl, .dat _ _⟩⟩, ⟨ltd rfl, .inr ⟨by decide, _, rfl, .dat _ _⟩⟩, trivial⟩⟩
        · intro b60 hb
          subst hb
          refine rk_seq ?_
          refine rk_seq ?_
          refine rk_region ?_
          refine ok_v (.d (.int .i64 b60.1)) rfl rfl ?_
          refine ok_v (.d (.bool (decide (b60.1 < 0)))) rfl rfl ?_
          refine ok_nil ?_
          refine rk_condH rfl h0 (fun _ h0 => ?_) (fun _ h0 => ?_)
          · refine rk_seq ?_
            refine rk_region ?_
            refine ok_as rfl rfl ?_
            refine ok_as rfl rfl ?_
            refine ok_nil ?_
            refine rk_ret ?_
            obtain rfl := someE h0
            exact finD (.inr rfl) (v := .d (.tup [.nilsl, .int .i64 16])) rfl rfl (dle_tup (.cons (.nil _) (.cons (.refl _) .nil)))
          · refine rk_skip ?_
            refine rk_seq ?_
            refine rk_seq ?_
            refine rk_region ?_
            refine ok_v (.d (.int .i64 b60.1)) rfl rfl ?_
            refine ok_v (.d (.bool (decide (b60.1 > 0)))) rfl rfl ?_
            obtain ⟨c100, h101, h0⟩ := bindE h0
            refine ok_cutQ 5 (fun A st => ∃ (j102 j103 j104 j105 : V), st = A [(79, .d (.bool c100)), (78, j105), (77, j104), (76, j103), (75, j102)]) ?_ ?_
            · refine ok_mvB rfl rfl h101 (fun h101 => ?_) (fun h101 => ?_)
              · refine ok_v (.hs 5 1 0 b60.2.2.2.length) rfl rfl ?_
                refine ok_v (.d (.int .i64 (b60.2.2.2.length : Int))) rfl rfl ?_
                refine ok_v (.d (.bool ((b60.2.2.2.length : Int) == 0))) rfl rfl ?_
                refine ok_v (.d (.bool ((b60.2.2.2.length : Int) == 0))) rfl rfl ?_
                refine ok_nil ?_
                obtain rfl := someE h101
                exact ⟨_, _, _, _, rfl⟩
              · refine ok_sg rfl ?_
                refine ok_sg rfl ?_
                refine ok_sg rfl ?_
                refine ok_v (.d (.bool false)) rfl rfl ?_
                refine ok_nil ?_
                obtain rfl := someE h101
                exact ⟨_, _, _, _, rfl⟩
            · rintro _ ⟨j102, j103, j104, j105, rfl⟩
              refine ok_nil ?_
              refine rk_condH rfl h0 (fun _ h0 => ?_) (fun _ h0 => ?_)
              · refine rk_seq ?_
                refine rk_region ?_
                refine ok_as rfl rfl ?_
                refine ok_as rfl rfl ?_
                refine ok_nil ?_
                refine rk_ret ?_
                obtain rfl := someE h0
                exact finD (.inr rfl) (v := .d (.tup [.nilsl, .int .i64 28])) rfl rfl (dle_tup (.cons (.nil _) (.cons (.refl _) .nil)))
              · refine rk_skip ?_
                refine rk_seq ?_
                refine rk_seq ?_
                refine rk_region ?_
                refine ok_v (.d (.int .i64 b60.1)) rfl rfl ?_
                refine ok_mv rfl rfl ?_
                obtain ⟨e106, h107, h0⟩ := bindE h0
                obtain ⟨u108, h109, h0⟩ := bindE h0
                have h110 := lenEq_some h109
                refine ok_callF [(0, 2)] [(0, 4), (1, 4), (2, 0), (3, 4), (4, 4), (5, 4), (6, 1), (7, 2), (8, 3)] [.d (.int .i64 b60.1), .hs 2 1 0 b60.2.1.length] (.fn 46 [.ref 6 1 0 0, .ref 7 1 0 0, .ref 8 1 0 0]) [(2, .dat 1 (e106.1.map (eI .i64))), (6, .cel 1 [[.hs 2 1 0 e106.1.length]]), (7, .dat 1 [[.int .i64 e106.2.1]]), (8, .dat 1 [[.int .i64 e106.2.2]])] [(2, .dat 1 (e106.1.map (eI .i64))), (6, .cel 1 [[.hs 2 1 0 e106.1.length]]), (7, .dat 1 [[.int .i64 e106.2.1]]), (8, .dat 1 [[.int .i64 e106.2.2]]), (0, .cel 1 [[.hs 4 1 0 b60.2.2.1.length]]), (1, .dat 1 [[.int .i64 b60.1]]), (3, .cel 1 [[.hs 5 1 0 b60.2.2.2.length]]), (4, .dat 1 (b60.2.2.1.map (eI .i64))), (5, .dat 1 (b60.2.2.2.map (eI .i64)))] 9 (split_shares_e1_eff b60.1 b60.2.1 e106 h107) rfl rfl rfl (wk_mk [(0, 2)] [] [] rfl ⟨⟨_, rfl, .d (.refl _)⟩, ⟨_, rfl, .hs rfl (by decide) (ltd rfl)⟩, trivial⟩ ⟨⟨ltd rfl, .inr ⟨by decide, _, rfl, .dat _ _⟩⟩, trivial⟩) (wk_mk [(0, 4), (1, 4), (2, 0), (3, 4), (4, 4), (5, 4), (6, 1), (7, 2), (8, 3)] [] [] rfl ⟨⟨_, rfl, (wv_fn (.cons (.ref rfl (by decide) (ltd rfl)) (.cons (.ref rfl (by decide) (ltd rfl)) (.cons (.ref rfl (by decide) (ltd rfl)) .nil))))⟩, trivial⟩ ⟨⟨ltd rfl, .inr ⟨by decide, _, rfl, .dat _ _⟩⟩, ⟨ltd rfl, .inr ⟨by decide, _, rfl, wb_cel1 (.cons (.hs rfl (by decide) (ltd rfl)) rfl .nil)⟩⟩, ⟨ltd rfl, .inr ⟨by decide, _, rfl, .dat _ _⟩⟩, ⟨ltd rfl, .inr ⟨by decide, _, rfl, .dat _ _⟩⟩, trivial⟩) rfl ⟨.inl rfl, .inl rfl, .inl rfl, .inl rfl, .inr ⟨rfl, rfl⟩, .inr ⟨rfl, rfl⟩, .inr ⟨rfl, rfl⟩, .inr ⟨rfl, rfl⟩, .inr ⟨rfl, rfl⟩, trivial⟩ ?_
                refine ok_nil ?_
                refine rk_block ?_
                obtain ⟨m221, h220, h0⟩ := bindE h0
                refine rk_cut0 (fun b222 => b222 = m221) (fun (b222 : List Int) => ⟨[(7, .ref 0 1 0 0)], [(0, .cel 1 [[.hs 1 1 0 b222.length]]), (1, .dat 1 (b222.map (eI .i64)))], 2⟩) ?_ ?_
                · refine rk_wk (st' := ⟨[(4, .d (.nilsl)), (5, .d (.int .i64 0)), (7, .ref 0 1 0 0), (10, .ref 1 1 0 0), (82, .fn 46 [.ref 2 1 0 0, .ref 3 1 0 0, .ref 4 1 0 0])], [(0, .cel 1 [[.hs 5 1 0 b60.2.2.1.length]]), (1, .cel 1 [[.d (.sl 1 (b60.2.2.2.map (eI .i64)))]]), (2, .cel 1 [[.hs 6 1 0 e106.1.length]]), (3, .dat 1 [[.int .i64 e106.2.1]]), (4, .dat 1 [[.int .i64 e106.2.2]]), (5, .dat 1 (b60.2.2.1.map (eI .i64))), (6, .dat 1 (e106.1.map (eI .i64)))], 7⟩) (wkE [(0, 0), (1, 3), (2, 6), (3, 7), (4, 8), (5, 4), (6, 2)] [5] [] rfl ⟨⟨_, rfl, .d (.refl _)⟩, ⟨_, rfl, .d (.refl _)⟩, ⟨_, rfl, .ref rfl (by decide) (ltd rfl)⟩, ⟨_, rfl, .ref rfl (by decide) (ltd rfl)⟩, ⟨_, rfl, (wv_fn (.cons (.ref rfl (by decide) (ltd rfl)) (.cons (.ref rfl (by decide) (ltd rfl)) (.cons (.ref rfl (by decide) (ltd rfl)) .nil))))⟩, trivial⟩ ⟨⟨ltd rfl, .inr ⟨by decide, _, rfl, wb_cel1 (.cons (.hs rfl (by decide) (ltd rfl)) rfl .nil)⟩⟩, ⟨ltd rfl, .inr ⟨by decide, _, rfl, wb_cel1 (.cons (wv_frz rfl rfl (by decide)) rfl .nil)⟩⟩, ⟨ltd rfl, .inr ⟨by decide, _, rfl, wb_cel1 (.cons (.hs rfl (by decide) (ltd rfl)) rfl .nil)⟩⟩, ⟨ltd rfl, .inr ⟨by decide, _, rfl, .dat _ _⟩⟩, ⟨ltd rfl, .inr ⟨by decide, _, rfl, .dat _ _⟩⟩, ⟨ltd rfl, .inr ⟨by decide, _, rfl, .dat _ _⟩⟩, ⟨ltd rfl, .inr ⟨by decide, _, rfl, .dat _ _⟩⟩, trivial⟩) ?_ (by simp)
                  refine rk_rangeF [.ref 2 1 0 0, .ref 3 1 0 0, .ref 4 1 0 0] (.inl rfl) Try.func46 rfl (by kernel_rfl) (by kernel_rfl) rfl ?_
                  intro A223 B224 hA223 hB224
                  refine rk_seq ?_
                  refine rk_region ?_
                  refine ok_as rfl rfl ?_
                  refine ok_as rfl rfl ?_
                  refine ok_nil ?_
                  refine rk_seq ?_
                  refine rk_region ?_
                  refine ok_v (.hs 6 1 0 e106.1.length) rfl rfl ?_
                  refine ok_v (.d (.int .i64 (e106.1.length : Int))) rfl rfl ?_
                  refine ok_mv rfl rfl ?_
                  refine ok_nil ?_
                  obtain ⟨m280, h281, h220⟩ := bindE h220
                  refine rk_block ?_
                  refine rk_loopF (split_Sizes_L2 e106) (fun (a279 : Int × Int × Int × List Int × List Int) => ⟨[(0, .yld 7), (2, .ref 3 1 0 0), (3, .ref 4 1 0 0), (5, .d (.int .i64 a279.1)), (6, .d (.int .i64 a279.2.1)), (10, .hs 6 1 0 e106.1.length), (11, .d (.int .i64 (e106.1.length : Int))), (12, .d (.int .i64 a279.2.2.1))], [(0, .cel 1 [[.hs 5 1 0 a279.2.2.2.2.length]]), (1, .cel 1 [[.d (.sl 1 (a279.2.2.2.1.map (eI .i64)))]]), (2, .cel 1 [[.hs 6 1 0 e106.1.length]]), (3, .dat 1 [[.int .i64 e106.2.1]]), (4, .dat 1 [[.int .i64 e106.2.2]]), (5, .dat 1 (a279.2.2.2.2.map (eI .i64))), (6, .dat 1 (e106.1.map (eI .i64))), (7, .loop [(4, .d (.nilsl)), (5, .d (.int .i64 0)), (7, .ref 0 1 0 0), (10, .ref 1 1 0 0), (82, .fn 46 [.ref 2 1 0 0, .ref 3 1 0 0, .ref 4 1 0 0])] [83] A223 B224 .ready none)], 8⟩) (0, 0, 0, b60.2.2.2, b60.2.2.1) m280 h281 (wkE [] [] [] rfl ⟨⟨_, rfl, .yld rfl (by decide) (ltd rfl)⟩, ⟨_, rfl, .ref rfl (by decide) (ltd rfl)⟩, ⟨_, rfl, .ref rfl (by decide) (ltd rfl)⟩, ⟨_, rfl, .d (.refl _)⟩, ⟨_, rfl, .d (.refl _)⟩, ⟨_, rfl, .hs rfl (by decide) (ltd rfl)⟩, ⟨_, rfl, .d (.refl _)⟩, ⟨_, rfl, .d (.refl _)⟩, trivial⟩ ⟨⟨ltd rfl, .inr ⟨by decide, _, rfl, wb_cel1 (.cons (.hs rfl (by decide) (ltd rfl)) rfl .nil)⟩⟩, ⟨ltd rfl, .inr ⟨by decide, _, rfl, wb_cel1 (.cons (.d (.refl _)) rfl .nil)⟩⟩, ⟨ltd rfl, .inr ⟨by decide, _, rfl, wb_cel1 (.cons (.hs rfl (by decide) (ltd rfl)) rfl .nil)⟩⟩, ⟨ltd rfl, .inr ⟨by decide, _, rfl, .dat _ _⟩⟩, ⟨ltd rfl, .inr ⟨by decide, _, rfl, .dat _ _⟩⟩, ⟨ltd rfl, .inr ⟨by decide, _, rfl, .dat _ _⟩⟩, ⟨ltd rfl, .inr ⟨by decide, _, rfl, .dat _ _⟩⟩, ⟨ltd rfl, .inr ⟨by decide, _, rfl, wb_loopS (.cons rfl (.d (.refl _)) (.cons rfl (.d (.refl _)) (.cons rfl (.ref rfl (by decide) (ltd rfl)) (.cons rfl (.ref rfl (by decide) (ltd rfl)) (.cons rfl ((wv_fn (.cons (.ref rfl (by decide) (ltd rfl)) (.cons (.ref rfl (by decide) (ltd rfl)) (.cons (.ref rfl (by decide) (ltd rfl)) .nil))))) .nil)))))⟩⟩, trivial⟩) ?_
                  intro a279 y277 h278
                  unfold split_Sizes_L2 at h278
                  refine rk_seq ?_
                  refine rk_region ?_
                  refine ok_v (.d (.bool (decide (a279.2.2.1 < (e106.1.length : Int))))) rfl rfl ?_
                  refine ok_nil ?_
                  refine rk_seq ?_
                  refine rk_condH rfl h278 (fun _ h278 => ?_) (fun _ h278 => ?_)
                  · refine rk_skip ?_
                    refine rk_seq ?_
                    refine rk_block ?_
                    refine rk_seq ?_
                    refine rk_region ?_
                    obtain ⟨v295, h296, h278⟩ := bindE h278
                    refine ok_ih h296 rfl rfl rfl rfl rfl rfl rfl ?_
                    refine ok_lh (.d (.int .i64 v295)) h296 rfl rfl rfl rfl rfl rfl ?_
                    refine ok_as rfl rfl ?_
                    refine ok_nil ?_
                    refine rk_seq ?_
                    refine rk_region ?_
                    refine ok_mv rfl rfl ?_
                    refine ok_mv rfl rfl ?_
                    refine ok_v (.d (.int .i64 (w64 (a279.1 + v295)))) rfl rfl ?_
                    refine ok_as rfl rfl ?_
                    refine ok_nil ?_
                    refine rk_seq ?_
                    refine rk_region ?_
                    refine ok_v (.d (.int .i64 e106.2.1)) rfl rfl ?_
                    refine ok_mv rfl rfl ?_
                    refine ok_v (.d (.int .i64 (w64 (e106.2.1 * (w64 (a279.1 + v295)))))) rfl rfl ?_
                    refine ok_v (.d (.int .i64 e106.2.2)) rfl rfl ?_
                    obtain ⟨q297, h298, h278⟩ := bindE h278
                    refine ok_quo h298 rfl rfl rfl ?_
                    refine ok_as rfl rfl ?_
                    refine ok_nil ?_
                    refine rk_seq ?_
                    refine rk_seq ?_
                    refine rk_region ?_
                    refine ok_mv rfl rfl ?_
                    refine ok_mv rfl rfl ?_
                    refine ok_mv rfl rfl ?_
                    refine ok_v (.d (.int .i64 (w64 (q297 - a279.2.1)))) rfl rfl ?_
                    obtain ⟨m306, h305, h278⟩ := bindE h278
                    refine ok_yieldC (fun b307 => b307 = m306) (fun (b307 : List Int × List Int) => ⟨[(0, .yld 7), (2, .ref 3 1 0 0), (3, .ref 4 1 0 0), (5, .d (.int .i64 (w64 (a279.1 + v295)))), (9, .d (.int .i64 q297)), (10, .hs 6 1 0 e106.1.length), (11, .d (.int .i64 (e106.1.length : Int))), (12, .d (.int .i64 a279.2.2.1)), (28, .d (.bool true))], [(0, .cel 1 [[.hs 5 1 0 b307.2.length]]), (1, .cel 1 [[.d (.sl 1 (b307.1.map (eI .i64)))]]), (2, .cel 1 [[.hs 6 1 0 e106.1.length]]), (3, .dat 1 [[.int .i64 e106.2.1]]), (4, .dat 1 [[.int .i64 e106.2.2]]), (5, .dat 1 (b307.2.map (eI .i64))), (6, .dat 1 (e106.1.map (eI .i64))), (7, .loop [(4, .d (.nilsl)), (5, .d (.int .i64 0)), (7, .ref 0 1 0 0), (10, .ref 1 1 0 0), (82, .fn 46 [.ref 2 1 0 0, .ref 3 1 0 0, .ref 4 1 0 0])] [83] A223 B224 .ready none)], 8⟩) hA223 hB224 rfl rfl rfl rfl rfl rfl ?_ ?_
                    · refine rk_region ?_
                      refine ok_as rfl rfl ?_
                      refine ok_nil ?_
                      refine rk_nil ?_
                      refine ⟨rfl, _, rfl, ?_⟩
                      refine rk_block ?_
                      refine rk_seq ?_
                      refine rk_regionD [(some [5], [5]), (some [], []), (some [], []), (some [], []), (some [], []), (some [1], []), (some [0], [])] (by kernel_rfl) ?_
                      refine ok_v (.hs 5 1 0 a279.2.2.2.2.length) rfl rfl ?_
                      refine ok_v (.d (.sl 1 (a279.2.2.2.1.map (eI .i64)))) rfl rfl ?_
                      obtain ⟨v308, h309, h305⟩ := bindE h305
                      refine ok_ix (enc := (eI .i64)) h309 rfl rfl rfl rfl rfl rfl ?_
                      refine ok_v (.d (.int .i64 v308)) rfl rfl ?_
                      refine ok_mv rfl rfl ?_
                      obtain ⟨v310, h311, h305⟩ := bindE h305
                      refine ok_ih h311 rfl rfl rfl rfl rfl rfl rfl ?_
                      refine ok_sh (ds := [.int .i64 (w64 (q297 - a279.2.1))]) (w64 (q297 - a279.2.1)) h311 rfl rfl rfl rfl rfl rfl rfl rfl (leb rfl) rfl ?_
                      refine ok_nil ?_
                      refine rk_region ?_
                      refine ok_v (.d (.sl 1 (a279.2.2.2.1.map (eI .i64)))) rfl rfl ?_
                      obtain ⟨z312, h313, h305⟩ := bindE h305
                      refine ok_slc (enc := (eI .i64)) h313 rfl rfl rfl rfl rfl (bound_v rfl) (fun _ => rfl) ?_
                      refine ok_sto 1 (.cel 1 [[.d (.sl 1 (z312.map (eI .i64)))]]) rfl rfl ?_
                      refine ok_nil ?_
                      refine rk_nil ?_
                      refine blk_nor ?_
                      refine rk_nil ?_
                      refine ⟨_, rfl, ?_⟩
                      obtain rfl := someE h305
                      exact ⟨_, rfl, wkE [] [] [] rfl ⟨⟨_, rfl, .yld rfl (by decide) (ltd rfl)⟩, ⟨_, rfl, .ref rfl (by decide) (ltd rfl)⟩, ⟨_, rfl, .ref rfl (by decide) (ltd rfl)⟩, ⟨_, rfl, .d (.refl _)⟩, ⟨_, rfl, .d (.refl _)⟩, ⟨_, rfl, .hs rfl (by decide) (ltd rfl)⟩, ⟨_, rfl, .d (.refl _)⟩, ⟨_, rfl, .d (.refl _)⟩, ⟨_, rfl, .d (.refl _)⟩, trivial⟩ ⟨⟨ltd rfl, .inr ⟨by decide, _, rfl, wb_cel1 (.cons (wv_hsL (by simp) rfl (by decide) (ltd rfl)) rfl .nil)⟩⟩, ⟨ltd rfl, .inr ⟨by decide, _, rfl, wb_cel1 (.cons (.d (.refl _)) rfl .nil)⟩⟩, ⟨ltd rfl, .inr ⟨by decide, _, rfl, wb_cel1 (.cons (.hs rfl (by decide) (ltd rfl)) rfl .nil)⟩⟩, ⟨ltd rfl, .inr ⟨by decide, _, rfl, .dat _ _⟩⟩, ⟨ltd rfl, .inr ⟨by decide, _, rfl, .dat _ _⟩⟩, ⟨ltd rfl, .inr ⟨by decide, _, rfl, .dat _ _⟩⟩, ⟨ltd rfl, .inr ⟨by decide, _, rfl, .dat _ _⟩⟩, ⟨ltd rfl, .inr ⟨by decide, _, rfl, wb_loopS (.cons rfl (.d (.refl _)) (.cons rfl (.d (.refl _)) (.cons rfl (.ref rfl (by decide) (ltd rfl)) (.cons rfl (.ref rfl (by decide) (ltd rfl)) (.cons rfl ((wv_fn (.cons (.ref rfl (by decide) (ltd rfl)) (.cons (.ref rfl (by decide) (ltd rfl)) (.cons (.ref rfl (by decide) (ltd rfl)) .nil))))) .nil)))))⟩⟩, trivial⟩⟩
                    · intro b307 hb
                      subst hb
                      refine ok_v (.d (.bool (!true))) rfl rfl ?_
                      refine ok_nil ?_
                      refine rk_condH rfl h278 (fun _ h278 => ?_) (fun _ h278 => ?_)
                      · refine rk_ret ?_
                        refine ⟨_, (Option.some.inj h278).symm, fun hm => ?_⟩
                        subst hm
                        refine ⟨.inr rfl, _, rfl, _, _, .nor, rfl, by decide, ?_⟩
                        refine after_nor ?_
                        refine rk_nil ?_
                        obtain rfl := someE h220
                        exact ⟨_, rfl, wkE [(0, 0), (1, 5)] [] [] rfl ⟨⟨_, rfl, .ref rfl (by decide) (ltd rfl)⟩, trivial⟩ ⟨⟨ltd rfl, .inr ⟨by decide, _, rfl, wb_cel1 (.cons (.hs rfl (by decide) (ltd rfl)) rfl .nil)⟩⟩, ⟨ltd rfl, .inr ⟨by decide, _, rfl, .dat _ _⟩⟩, trivial⟩⟩
                      · refine rk_skip ?_
                        refine rk_region ?_
                        refine ok_mv rfl rfl ?_
                        refine ok_as rfl rfl ?_
                        refine ok_nil ?_
                        refine rk_nil ?_
                        refine blk_nor ?_
                        refine rk_region ?_
                        refine ok_v (.d (.int .i64 (w64 (a279.2.2.1 + 1)))) rfl rfl ?_
                        refine ok_mv rfl rfl ?_
                        refine ok_nil ?_
                        refine rk_nil ?_
                        exact ⟨_, (Option.some.inj h278).symm, wkE [] [] [] rfl ⟨⟨_, rfl, .yld rfl (by decide) (ltd rfl)⟩, ⟨_, rfl, .ref rfl (by decide) (ltd rfl)⟩, ⟨_, rfl, .ref rfl (by decide) (ltd rfl)⟩, ⟨_, rfl, .d (.refl _)⟩, ⟨_, rfl, .d (.refl _)⟩, ⟨_, rfl, .hs rfl (by decide) (ltd rfl)⟩, ⟨_, rfl, .d (.refl _)⟩, ⟨_, rfl, .d (.refl _)⟩, trivial⟩ ⟨⟨ltd rfl, .inr ⟨by decide, _, rfl, wb_cel1 (.cons (.hs rfl (by decide) (ltd rfl)) rfl .nil)⟩⟩, ⟨ltd rfl, .inr ⟨by decide, _, rfl, wb_cel1 (.cons (.d (.refl _)) rfl .nil)⟩⟩, ⟨ltd rfl, .inr ⟨by decide, _, rfl, wb_cel1 (.cons (.hs rfl (by decide) (ltd rfl)) rfl .nil)⟩⟩, ⟨ltd rfl, .inr ⟨by decide, _, rfl, .dat _ _⟩⟩, ⟨ltd rfl, .inr ⟨by decide, _, rfl, .dat _ _⟩⟩, ⟨ltd rfl, .inr ⟨by decide, _, rfl, .dat _ _⟩⟩, ⟨ltd rfl, .inr ⟨by decide, _, rfl, .dat _ _⟩⟩, ⟨ltd rfl, .inr ⟨by decide, _, rfl, wb_loopS (.cons rfl (.d (.refl _)) (.cons rfl (.d (.refl _)) (.cons rfl (.ref rfl (by decide) (ltd rfl)) (.cons rfl (.ref rfl (by decide) (ltd rfl)) (.cons rfl ((wv_fn (.cons (.ref rfl (by decide) (ltd rfl)) (.cons (.ref rfl (by decide) (ltd rfl)) (.cons (.ref rfl (by decide) (ltd rfl)) .nil))))) .nil)))))⟩⟩, trivial⟩⟩
                  · refine rk_exit ?_
                    refine ⟨_, (Option.some.inj h278).symm, fun hm => ?_⟩
                    subst hm
                    refine ⟨.inl rfl, _, rfl, _, _, .nor, rfl, by decide, ?_⟩
                    refine after_nor ?_
                    refine rk_nil ?_
                    obtain rfl := someE h220
                    exact ⟨_, rfl, wkE [(0, 0), (1, 5)] [] [] rfl ⟨⟨_, rfl, .ref rfl (by decide) (ltd rfl)⟩, trivial⟩ ⟨⟨ltd rfl, .inr ⟨by decide, _, rfl, wb_cel1 (.cons (.hs rfl (by decide) (ltd rfl)) rfl .nil)⟩⟩, ⟨ltd rfl, .inr ⟨by decide, _, rfl, .dat _ _⟩⟩, trivial⟩⟩
                · intro b222 st hb hw
                  subst hb
                  refine rk_wk hw ?_ (by simp)
                  refine rk_seq ?_
                  refine rk_region ?_
                  refine ok_v (.hs 1 1 0 b222.length) rfl rfl ?_
                  refine ok_as rfl rfl ?_
                  refine ok_as rfl rfl ?_
                  refine ok_nil ?_
                  refine rk_ret ?_
                  obtain rfl := someE h0
                  exact finD (.inr rfl) (v := .tup [.hs 1 1 0 b222.length, .d (.int .i64 0)]) rfl (td_tup (mm_cons (td_hs rfl rfl) (mm_cons rfl rfl))) (.refl _)

theorem slices_IndexFunc_int_int_ok (p0 : List Int) (p1 : Int → Option Bool) (p1F : FuncId) (p1C : List DV) (p1Ok : ∀ (x0 : Int) (r : Bool), p1 x0 = some r → Pure Try.prog tab p1F ([.int .i64 x0] ++ p1C) (.bool r)) (r : Int) (h0 : slices_IndexFunc_int_int p0 p1 = some r) : Pure Try.prog tab 50 [.sl 1 (p0.map (eI .i64)), .fn p1F p1C] (.int .i64 r) := by
  unfold slices_IndexFunc_int_int at h0
  refine pure_of_run Try.func50 rfl (by kernel_rfl) (by kernel_rfl) rfl ?_
  refine rk_seq ?_
  refine rk_region ?_
  refine ok_as rfl rfl ?_
  refine ok_nil ?_
  refine rk_seq ?_
  refine rk_seq ?_
  refine rk_region ?_
  refine ok_mv rfl rfl ?_
  refine ok_ln rfl rfl rfl rfl ?_
  refine ok_mv rfl rfl ?_
  refine ok_nil ?_
  obtain ⟨m20, h21, h0⟩ := bindE h0
  refine rk_blockcut (fun b22 => .inl b22 = m20) (fun (b22 : Unit) => ⟨[], [], 0⟩) (by simp) ?_ ?_
  · refine rk_loopF (slices_IndexFunc_int_int_L1 p0 p1) (fun (a19 : Int) => ⟨[(0, .d (.sl 1 (p0.map (eI .i64)))), (1, .d (.fn p1F p1C)), (7, .d (.int .i64 (p0.length : Int))), (8, .d (.int .i64 a19))], [], 0⟩) 0 m20 h21 (wkE [] [] [] rfl ⟨⟨_, rfl, .d (.refl _)⟩, ⟨_, rfl, .d (.refl _)⟩, ⟨_, rfl, .d (.refl _)⟩, ⟨_, rfl, .d (.refl _)⟩, trivial⟩ trivial) ?_
    intro a19 y17 h18
    unfold slices_IndexFunc_int_int_L1 at h18
    refine rk_seq ?_
    refine rk_region ?_
    refine ok_v (.d (.bool (decide (a19 < (p0.length : Int))))) rfl rfl ?_
    refine ok_nil ?_
    refine rk_seq ?_
    refine rk_condH rfl h18 (fun _ h18 => ?_) (fun _ h18 => ?_)
    · refine rk_skip ?_
      refine rk_seq ?_
      refine rk_block ?_
      refine rk_seq ?_
      refine rk_region ?_
      refine ok_mv rfl rfl ?_
      refine ok_as rfl rfl ?_
      refine ok_nil ?_
      refine rk_seq ?_
      refine rk_region ?_
      refine ok_mv rfl rfl ?_
      refine ok_mv rfl rfl ?_
      refine ok_mv rfl rfl ?_
      obtain ⟨v27, h28, h18⟩ := bindE h18
      refine ok_ix (enc := (eI .i64)) h28 rfl rfl rfl rfl rfl rfl ?_
      refine ok_v (.d (.int .i64 v27)) rfl rfl ?_
      obtain ⟨r29, h30, h18⟩ := bindE h18
      refine ok_pf [.d (.int .i64 v27)] (p1Ok v27 r29 h30) rfl rfl rfl (.inl rfl) ?_
      refine ok_nil ?_
      refine rk_condH rfl h18 (fun _ h18 => ?_) (fun _ h18 => ?_)
      · refine rk_seq ?_
        refine rk_region ?_
        refine ok_mv rfl rfl ?_
        refine ok_as rfl rfl ?_
        refine ok_nil ?_
        refine rk_ret ?_
        refine ⟨_, (Option.some.inj h18).symm, fun hm => ?_⟩
        subst hm
        obtain rfl := someE h0
        exact finD (.inr rfl) (v := .d (.int .i64 a19)) rfl rfl (.refl _)
      · refine rk_skip ?_
        refine rk_nil ?_
        refine blk_nor ?_
        refine rk_region ?_
        refine ok_v (.d (.int .i64 (w64 (a19 + 1)))) rfl rfl ?_
        refine ok_mv rfl rfl ?_
        refine ok_nil ?_
        refine rk_nil ?_
        exact ⟨_, (Option.some.inj h18).symm, wkE [] [] [] rfl ⟨⟨_, rfl, .d (.refl _)⟩, ⟨_, rfl, .d (.refl _)⟩, ⟨_, rfl, .d (.refl _)⟩, ⟨_, rfl, .d (.refl _)⟩, trivial⟩ trivial⟩
    · refine rk_exit ?_
      refine ⟨_, (Option.some.inj h18).symm, fun hm => ?_⟩
      subst hm
      exact ⟨_, rfl, wkE [] [] [] rfl trivial trivial⟩
  · intro b22 hb
    subst hb
    refine rk_seq ?_
    refine rk_region ?_
    refine ok_as rfl rfl ?_
    refine ok_nil ?_
    refine rk_ret ?_
    obtain rfl := someE h0
    exact finD (.inr rfl) (v := .d (.int .i64 (-1))) rfl rfl (.refl _)

theorem slices_ContainsFunc_int_int_ok (p0 : List Int) (p1 : Int → Option Bool) (p1F : FuncId) (p1C : List DV) (p1Ok : ∀ (x0 : Int) (r : Bool), p1 x0 = some r → Pure Try.prog tab p1F ([.int .i64 x0] ++ p1C) (.bool r)) (r : Bool) (h0 : slices_ContainsFunc_int_int p0 p1 = some r) : Pure Try.prog tab 34 [.sl 1 (p0.map (eI .i64)), .fn p1F p1C] (.bool r) := by
  unfold slices_ContainsFunc_int_int at h0
  refine pure_of_run Try.func34 rfl (by kernel_rfl) (by kernel_rfl) rfl ?_
  refine rk_seq ?_
  refine rk_region ?_
  refine ok_as rfl rfl ?_
  refine ok_nil ?_
  refine rk_seq ?_
  refine rk_region ?_
  refine ok_mv rfl rfl ?_
  refine ok_mv rfl rfl ?_
  obtain ⟨r1, h2, h0⟩ := bindE h0
  refine ok_pc [.d (.sl 1 (p0.map (eI .i64))), .d (.fn p1F p1C)] (slices_IndexFunc_int_int_ok p0 p1 p1F p1C p1Ok r1 h2) rfl rfl rfl (.inl rfl) ?_
  refine ok_v (.d (.bool (decide (r1 ≥ 0)))) rfl rfl ?_
  refine ok_as rfl rfl ?_
  refine ok_nil ?_
  refine rk_ret ?_
  obtain rfl := someE h0
  exact finD (.inr rfl) (v := .d (.bool (decide (r1 ≥ 0)))) rfl rfl (.refl _)

theorem split_Cuts_1_ok (p0 : Int) (r : Bool) (h0 : split_Cuts_1 p0 = some r) : Pure Try.prog tab 35 [.int .i64 p0] (.bool r) := by
  unfold split_Cuts_1 at h0
  refine pure_of_run Try.func35 rfl (by kernel_rfl) (by kernel_rfl) rfl ?_
  refine rk_seq ?_
  refine rk_region ?_
  refine ok_as rfl rfl ?_
  refine ok_nil ?_
  refine rk_seq ?_
  refine rk_region ?_
  refine ok_mv rfl rfl ?_
  refine ok_v (.d (.bool (decide (p0 < 0)))) rfl rfl ?_
  refine ok_as rfl rfl ?_
  refine ok_nil ?_
  refine rk_ret ?_
  obtain rfl := someE h0
  exact finD (.inr rfl) (v := .d (.bool (decide (p0 < 0)))) rfl rfl (.refl _)

theorem split_Cuts_ok (p0 : List Int) (r : List Int × Int) (h0 : split_Cuts p0 = some r) : Pure Try.prog tab 16 [.sl 1 (p0.map (eI .i64))] (.tup [.sl 1 (r.1.map (eI .i64)), .int .i64 r.2]) := by
  unfold split_Cuts at h0
  refine pure_of_run Try.func16 rfl (by kernel_rfl) (by kernel_rfl) rfl ?_
  refine rk_seq ?_
  refine rk_region ?_
  refine ok_as rfl rfl ?_
  refine ok_as rfl rfl ?_
  refine ok_nil ?_
  refine rk_seq ?_
  refine rk_seq ?_
  refine rk_region ?_
  refine ok_mv rfl rfl ?_
  refine ok_ln rfl rfl rfl rfl ?_
  refine ok_v (.d (.bool (decide ((p0.length : Int) > 200)))) rfl rfl ?_
  refine ok_nil ?_
  refine rk_condH rfl h0 (fun _ h0 => ?_) (fun _ h0 => ?_)
  · refine rk_seq ?_
    refine rk_region ?_
    refine ok_as rfl rfl ?_
    refine ok_as rfl rfl ?_
    refine ok_nil ?_
    refine rk_ret ?_
    obtain rfl := someE h0
    exact finD (.inr rfl) (v := .d (.tup [.nilsl, .int .i64 4])) rfl rfl (dle_tup (.cons (.nil _) (.cons (.refl _) .nil)))
  · refine rk_skip ?_
    refine rk_seq ?_
    refine rk_seq ?_
    refine rk_region ?_
    refine ok_mv rfl rfl ?_
    obtain ⟨r1, h2, h0⟩ := bindE h0
    refine ok_pc [.d (.sl 1 (p0.map (eI .i64))), .d (.fn 35 [])] (slices_ContainsFunc_int_int_ok p0 (fun x0 => split_Cuts_1 x0) 35 [] (fun x0 r hr => split_Cuts_1_ok x0 r hr) r1 h2) rfl rfl rfl (.inl rfl) ?_
    refine ok_nil ?_
    refine rk_condH rfl h0 (fun _ h0 => ?_) (fun _ h0 => ?_)
    · refine rk_seq ?_
      refine rk_region ?_
      refine ok_as rfl rfl ?_
      refine ok_as rfl rfl ?_
      refine ok_nil ?_
      refine rk_ret ?_
      obtain rfl := someE h0
      exact finD (.inr rfl) (v := .d (.tup [.nilsl, .int .i64 8])) rfl rfl (dle_tup (.cons (.nil _) (.cons (.refl _) .nil)))
    · refine rk_skip ?_
      refine rk_seq ?_
      refine rk_region ?_
      refine ok_new (.hs 0 1 0 [0].length) (.dat 1 ([0].map (eI .i64))) rfl rfl ?_
      refine ok_as rfl rfl ?_
      refine ok_nil ?_
      refine rk_seq ?_
      refine rk_seq ?_
      refine rk_region ?_
      refine ok_mv rfl rfl ?_
      refine ok_ln rfl rfl rfl rfl ?_
      refine ok_mv rfl rfl ?_
      refine ok_nil ?_
      obtain ⟨m38, h39, h0⟩ := bindE h0
      refine rk_blockcut (fun b40 => .inl b40 = m38) (fun (b40 : List Int) => ⟨[(4, .hs 0 1 0 b40.length)], [(0, .dat 1 (b40.map (eI .i64)))], 1⟩) (by simp) ?_ ?_
      · refine rk_loopF (split_Cuts_L1 p0) (fun (a37 : Int × List Int) => ⟨[(4, .hs 0 1 0 a37.2.length), (13, .d (.sl 1 (p0.map (eI .i64)))), (14, .d (.int .i64 (p0.length : Int))), (15, .d (.int .i64 a37.1))], [(0, .dat 1 (a37.2.map (eI .i64)))], 1⟩) (0, [0]) m38 h39 (wkE [(0, 0)] [] [] rfl ⟨⟨_, rfl, .hs rfl (by decide) (ltd rfl)⟩, ⟨_, rfl, .d (.refl _)⟩, ⟨_, rfl, .d (.refl _)⟩, ⟨_, rfl, .d (.refl _)⟩, trivial⟩ ⟨⟨ltd rfl, .inr ⟨by decide, _, rfl, .dat _ _⟩⟩, trivial⟩) ?_
        intro a37 y35 h36
        unfold split_Cuts_L1 at h36
        refine rk_seq ?_
        refine rk_region ?_
        refine ok_v (.d (.bool (decide (a37.1 < (p0.length : Int))))) rfl rfl ?_
        refine ok_nil ?_
        refine rk_seq ?_
        refine rk_condH rfl h36 (fun _ h36 => ?_) (fun _ h36 => ?_)
        · refine rk_skip ?_
          refine rk_seq ?_
          refine rk_block ?_
          refine rk_seq ?_
          refine rk_region ?_
          refine ok_mv rfl rfl ?_
          obtain ⟨v49, h50, h36⟩ := bindE h36
          refine ok_ix (enc := (eI .i64)) h50 rfl rfl rfl rfl rfl rfl ?_
          refine ok_v (.d (.int .i64 v49)) rfl rfl ?_
          refine ok_as rfl rfl ?_
          refine ok_as rfl rfl ?_
          refine ok_nil ?_
          refine rk_seq ?_
          refine rk_seq ?_
          refine rk_region ?_
          refine ok_mv rfl rfl ?_
          refine ok_mv rfl rfl ?_
          refine ok_mv rfl rfl ?_
          obtain ⟨v51, h52, h36⟩ := bindE h36
          refine ok_ih h52 rfl rfl rfl rfl rfl rfl rfl ?_
          refine ok_lh (.d (.int .i64 v51)) h52 rfl rfl rfl rfl rfl rfl ?_
          refine ok_v (.d (.int .i64 (w64 (1000000 - v51)))) rfl rfl ?_
          refine ok_v (.d (.bool (decide (v49 > (w64 (1000000 - v51)))))) rfl rfl ?_
          refine ok_nil ?_
          refine rk_condH rfl h36 (fun _ h36 => ?_) (fun _ h36 => ?_)
          · refine rk_seq ?_
            refine rk_region ?_
            refine ok_as rfl rfl ?_
            refine ok_as rfl rfl ?_
            refine ok_nil ?_
            refine rk_ret ?_
            refine ⟨_, (Option.some.inj h36).symm, fun hm => ?_⟩
            subst hm
            obtain rfl := someE h0
            exact finD (.inr rfl) (v := .d (.tup [.nilsl, .int .i64 16])) rfl rfl (dle_tup (.cons (.nil _) (.cons (.refl _) .nil)))
          · refine rk_skip ?_
            refine rk_region ?_
            refine ok_mv rfl rfl ?_
            refine ok_mv rfl rfl ?_
            refine ok_mv rfl rfl ?_
            obtain ⟨v53, h54, h36⟩ := bindE h36
            refine ok_ih h54 rfl rfl rfl rfl rfl rfl rfl ?_
            refine ok_lh (.d (.int .i64 v53)) h54 rfl rfl rfl rfl rfl rfl ?_
            refine ok_mv rfl rfl ?_
            refine ok_v (.d (.int .i64 (w64 (v53 + v49)))) rfl rfl ?_
            refine ok_new (.hs 1 1 0 [w64 (v53 + v49)].length) (.dat 1 ([w64 (v53 + v49)].map (eI .i64))) rfl rfl ?_
            obtain ⟨z55, h56, h36⟩ := bindE h36
            refine ok_ap (xs := a37.2) (ys := [w64 (v53 + v49)]) (enc := (eI .i64)) (.hs 1 1 0 [w64 (v53 + v49)].length) h56 rfl rfl rfl rfl rfl rfl rfl (conts_hs rfl rfl) rfl rfl rfl rfl ?_
            refine ok_as rfl rfl ?_
            refine ok_nil ?_
            refine rk_nil ?_
            refine blk_nor ?_
            refine rk_region ?_
            refine ok_v (.d (.int .i64 (w64 (a37.1 + 1)))) rfl rfl ?_
            refine ok_mv rfl rfl ?_
            refine ok_nil ?_
            refine rk_nil ?_
            exact ⟨_, (Option.some.inj h36).symm, wkE [(0, 2)] [] [] rfl ⟨⟨_, rfl, .hs rfl (by decide) (ltd rfl)⟩, ⟨_, rfl, .d (.refl _)⟩, ⟨_, rfl, .d (.refl _)⟩, ⟨_, rfl, .d (.refl _)⟩, trivial⟩ ⟨⟨ltd rfl, .inr ⟨by decide, _, rfl, .dat _ _⟩⟩, trivial⟩⟩
        · refine rk_exit ?_
          refine ⟨_, (Option.some.inj h36).symm, fun hm => ?_⟩
          subst hm
          exact ⟨_, rfl, wkE [(0, 0)] [] [] rfl ⟨⟨_, rfl, .hs rfl (by decide) (ltd rfl)⟩, trivial⟩ ⟨⟨ltd rfl, .inr ⟨by decide, _, rfl, .dat _ _⟩⟩, trivial⟩⟩
      · intro b40 hb
        subst hb
        refine rk_seq ?_
        refine rk_region ?_
        refine ok_mv rfl rfl ?_
        refine ok_as rfl rfl ?_
        refine ok_as rfl rfl ?_
        refine ok_nil ?_
        refine rk_ret ?_
        obtain rfl := someE h0
        exact finD (.inr rfl) (v := .tup [.hs 0 1 0 b40.length, .d (.int .i64 0)]) rfl (td_tup (mm_cons (td_hs rfl rfl) (mm_cons rfl rfl))) (.refl _)

theorem math_bits_Mul64_ok (p0 : Int) (p1 : Int) (r : Int × Int) (h0 : math_bits_Mul64 p0 p1 = some r) : Pure Try.prog tab 67 [.int .u64 p0, .int .u64 p1] (.tup [.int .u64 r.1, .int .u64 r.2]) := by
  unfold math_bits_Mul64 at h0
  refine pure_of_run Try.func67 rfl (by kernel_rfl) (by kernel_rfl) rfl ?_
  refine rk_seq ?_
  refine rk_region ?_
  refine ok_as rfl rfl ?_
  refine ok_as rfl rfl ?_
  refine ok_nil ?_
  refine rk_seq ?_
  refine rk_region ?_
  refine ok_mv rfl rfl ?_
  refine ok_v (.d (.int .u64 (andI .u64 p0 4294967295))) rfl rfl ?_
  refine ok_as rfl rfl ?_
  refine ok_nil ?_
  refine rk_seq ?_
  refine rk_region ?_
  refine ok_mv rfl rfl ?_
  refine ok_v (.d (.int .u64 (Int.fdiv p0 (2 ^ 32)))) rfl rfl ?_
  refine ok_as rfl rfl ?_
  refine ok_nil ?_
  refine rk_seq ?_
  refine rk_region ?_
  refine ok_mv rfl rfl ?_
  refine ok_v (.d (.int .u64 (andI .u64 p1 4294967295))) rfl rfl ?_
  refine ok_as rfl rfl ?_
  refine ok_nil ?_
  refine rk_seq ?_
  refine rk_region ?_
  refine ok_mv rfl rfl ?_
  refine ok_v (.d (.int .u64 (Int.fdiv p1 (2 ^ 32)))) rfl rfl ?_
  refine ok_as rfl rfl ?_
  refine ok_nil ?_
  refine rk_seq ?_
  refine rk_region ?_
  refine ok_mv rfl rfl ?_
  refine ok_mv rfl rfl ?_
  refine ok_v (.d (.int .u64 (IntKind.wrap .u64 ((andI .u64 p0 4294967295) * (andI .u64 p1 4294967295))))) rfl rfl ?_
  refine ok_as rfl rfl ?_
  refine ok_nil ?_
  refine rk_seq ?_
  refine rk_region ?_
  refine ok_mv rfl rfl ?_
  refine ok_mv rfl rfl ?_
  refine ok_v (.d (.int .u64 (IntKind.wrap .u64 ((Int.fdiv p0 (2 ^ 32)) * (andI .u64 p1 4294967295))))) rfl rfl ?_
  refine ok_mv rfl rfl ?_
  refine ok_v (.d (.int .u64 (Int.fdiv (IntKind.wrap .u64 ((andI .u64 p0 4294967295) * (andI .u64 p1 4294967295))) (2 ^ 32)))) rfl rfl ?_
  refine ok_v (.d (.int .u64 (IntKind.wrap .u64 ((IntKind.wrap .u64 ((Int.fdiv p0 (2 ^ 32)) * (andI .u64 p1 4294967295))) + (Int.fdiv (IntKind.wrap .u64 ((andI .u64 p0 4294967295) * (andI .u64 p1 4294967295))) (2 ^ 32)))))) rfl rfl ?_
  refine ok_as rfl rfl ?_
  refine ok_nil ?_
  refine rk_seq ?_
  refine rk_region ?_
  refine ok_mv rfl rfl ?_
  refine ok_v (.d (.int .u64 (andI .u64 (IntKind.wrap .u64 ((IntKind.wrap .u64 ((Int.fdiv p0 (2 ^ 32)) * (andI .u64 p1 4294967295))) + (Int.fdiv (IntKind.wrap .u64 ((andI .u64 p0 4294967295) * (andI .u64 p1 4294967295))) (2 ^ 32)))) 4294967295))) rfl rfl ?_
  refine ok_as rfl rfl ?_
  refine ok_nil ?_
  refine rk_seq ?_
  refine rk_region ?_
  refine ok_mv rfl rfl ?_
  refine ok_v (.d (.int .u64 (Int.fdiv (IntKind.wrap .u64 ((IntKind.wrap .u64 ((Int.fdiv p0 (2 ^ 32)) * (andI .u64 p1 4294967295))) + (Int.fdiv (IntKind.wrap .u64 ((andI .u64 p0 4294967295) * (andI .u64 p1 4294967295))) (2 ^ 32)))) (2 ^ 32)))) rfl rfl ?_
  refine ok_as rfl rfl ?_
  refine ok_nil ?_
  refine rk_seq ?_
  refine rk_region ?_
  refine ok_mv rfl rfl ?_
  refine ok_mv rfl rfl ?_
  refine ok_mv rfl rfl ?_
  refine ok_v (.d (.int .u64 (IntKind.wrap .u64 ((andI .u64 p0 4294967295) * (Int.fdiv p1 (2 ^ 32)))))) rfl rfl ?_
  refine ok_v (.d (.int .u64 (IntKind.wrap .u64 ((andI .u64 (IntKind.wrap .u64 ((IntKind.wrap .u64 ((Int.fdiv p0 (2 ^ 32)) * (andI .u64 p1 4294967295))) + (Int.fdiv (IntKind.wrap .u64 ((andI .u64 p0 4294967295) * (andI .u64 p1 4294967295))) (2 ^ 32)))) 4294967295) + (IntKind.wrap .u64 ((andI .u64 p0 4294967295) * (Int.fdiv p1 (2 ^ 32)))))))) rfl rfl ?_
  refine ok_as rfl rfl ?_
  refine ok_nil ?_
  refine rk_seq ?_
  refine rk_region ?_
  refine ok_mv rfl rfl ?_
  refine ok_mv rfl rfl ?_
  refine ok_v (.d (.int .u64 (IntKind.wrap .u64 ((Int.fdiv p0 (2 ^ 32)) * (Int.fdiv p1 (2 ^ 32)))))) rfl rfl ?_
  refine ok_mv rfl rfl ?_
  refine ok_v (.d (.int .u64 (IntKind.wrap .u64 ((IntKind.wrap .u64 ((Int.fdiv p0 (2 ^ 32)) * (Int.fdiv p1 (2 ^ 32)))) + (Int.fdiv (IntKind.wrap .u64 ((IntKind.wrap .u64 ((Int.fdiv p0 (2 ^ 32)) * (andI .u64 p1 4294967295))) + (Int.fdiv (IntKind.wrap .u64 ((andI .u64 p0 4294967295) * (andI .u64 p1 4294967295))) (2 ^ 32)))) (2 ^ 32)))))) rfl rfl ?_
  refine ok_mv rfl rfl ?_
  refine ok_v (.d (.int .u64 (Int.fdiv (IntKind.wrap .u64 ((andI .u64 (IntKind.wrap .u64 ((IntKind.wrap .u64 ((Int.fdiv p0 (2 ^ 32)) * (andI .u64 p1 4294967295))) + (Int.fdiv (IntKind.wrap .u64 ((andI .u64 p0 4294967295) * (andI .u64 p1 4294967295))) (2 ^ 32)))) 4294967295) + (IntKind.wrap .u64 ((andI .u64 p0 4294967295) * (Int.fdiv p1 (2 ^ 32)))))) (2 ^ 32)))) rfl rfl ?_
  refine ok_v (.d (.int .u64 (IntKind.wrap .u64 ((IntKind.wrap .u64 ((IntKind.wrap .u64 ((Int.fdiv p0 (2 ^ 32)) * (Int.fdiv p1 (2 ^ 32)))) + (Int.fdiv (IntKind.wrap .u64 ((IntKind.wrap .u64 ((Int.fdiv p0 (2 ^ 32)) * (andI .u64 p1 4294967295))) + (Int.fdiv (IntKind.wrap .u64 ((andI .u64 p0 4294967295) * (andI .u64 p1 4294967295))) (2 ^ 32)))) (2 ^ 32)))) + (Int.fdiv (IntKind.wrap .u64 ((andI .u64 (IntKind.wrap .u64 ((IntKind.wrap .u64 ((Int.fdiv p0 (2 ^ 32)) * (andI .u64 p1 4294967295))) + (Int.fdiv (IntKind.wrap .u64 ((andI .u64 p0 4294967295) * (andI .u64 p1 4294967295))) (2 ^ 32)))) 4294967295) + (IntKind.wrap .u64 ((andI .u64 p0 4294967295) * (Int.fdiv p1 (2 ^ 32)))))) (2 ^ 32)))))) rfl rfl ?_
  refine ok_as rfl rfl ?_
  refine ok_nil ?_
  refine rk_seq ?_
  refine rk_region ?_
  refine ok_mv rfl rfl ?_
  refine ok_mv rfl rfl ?_
  refine ok_v (.d (.int .u64 (IntKind.wrap .u64 (p0 * p1)))) rfl rfl ?_
  refine ok_as rfl rfl ?_
  refine ok_nil ?_
  refine rk_ret ?_
  obtain rfl := someE h0
  exact finD (.inr rfl) (v := .d (.tup [.int .u64 (IntKind.wrap .u64 ((IntKind.wrap .u64 ((IntKind.wrap .u64 ((Int.fdiv p0 (2 ^ 32)) * (Int.fdiv p1 (2 ^ 32)))) + (Int.fdiv (IntKind.wrap .u64 ((IntKind.wrap .u64 ((Int.fdiv p0 (2 ^ 32)) * (andI .u64 p1 4294967295))) + (Int.fdiv (IntKind.wrap .u64 ((andI .u64 p0 4294967295) * (andI .u64 p1 4294967295))) (2 ^ 32)))) (2 ^ 32)))) + (Int.fdiv (IntKind.wrap .u64 ((andI .u64 (IntKind.wrap .u64 ((IntKind.wrap .u64 ((Int.fdiv p0 (2 ^ 32)) * (andI .u64 p1 4294967295))) + (Int.fdiv (IntKind.wrap .u64 ((andI .u64 p0 4294967295) * (andI .u64 p1 4294967295))) (2 ^ 32)))) 4294967295) + (IntKind.wrap .u64 ((andI .u64 p0 4294967295) * (Int.fdiv p1 (2 ^ 32)))))) (2 ^ 32)))), .int .u64 (IntKind.wrap .u64 (p0 * p1))])) rfl rfl (.refl _)

theorem math_bits_Mul_ok (p0 : Int) (p1 : Int) (r : Int × Int) (h0 : math_bits_Mul p0 p1 = some r) : Pure Try.prog tab 52 [.int .u64 p0, .int .u64 p1] (.tup [.int .u64 r.1, .int .u64 r.2]) := by
  unfold math_bits_Mul at h0
  refine pure_of_run Try.func52 rfl (by kernel_rfl) (by kernel_rfl) rfl ?_
  refine rk_seq ?_
  refine rk_region ?_
  refine ok_as rfl rfl ?_
  refine ok_as rfl rfl ?_
  refine ok_nil ?_
  refine rk_seq ?_
  refine rk_condF rfl ?_
  refine rk_skip ?_
  refine rk_seq ?_
  refine rk_region ?_
  refine ok_mv rfl rfl ?_
  refine ok_mv rfl rfl ?_
  obtain ⟨r1, h2, h0⟩ := bindE h0
  refine ok_pc [.d (.int .u64 p0), .d (.int .u64 p1)] (math_bits_Mul64_ok p0 p1 r1 h2) rfl rfl rfl (.inl rfl) ?_
  refine ok_mv rfl rfl ?_
  refine ok_v (.d (.int .u64 r1.1)) rfl rfl ?_
  refine ok_v (.d (.int .u64 r1.2)) rfl rfl ?_
  refine ok_as rfl rfl ?_
  refine ok_as rfl rfl ?_
  refine ok_nil ?_
  refine rk_seq ?_
  refine rk_region ?_
  refine ok_mv rfl rfl ?_
  refine ok_mv rfl rfl ?_
  refine ok_as rfl rfl ?_
  refine ok_as rfl rfl ?_
  refine ok_nil ?_
  refine rk_ret ?_
  obtain rfl := someE h0
  exact finD (.inr rfl) (v := .d (.tup [.int .u64 r1.1, .int .u64 r1.2])) rfl rfl (.refl _)

theorem slices_Repeat_int_int_ok (p0 : List Int) (p1 : Int) (r : List Int) (h0 : slices_Repeat_int_int p0 p1 = some r) : Pure Try.prog tab 37 [.sl 1 (p0.map (eI .i64)), .int .i64 p1] (.sl 1 (r.map (eI .i64))) := by
  unfold slices_Repeat_int_int at h0
  refine pure_of_run Try.func37 rfl (by kernel_rfl) (by kernel_rfl) rfl ?_
  refine rk_seq ?_
  refine rk_region ?_
  refine ok_as rfl rfl ?_
  refine ok_nil ?_
  refine rk_seq ?_
  refine rk_seq ?_
  refine rk_region ?_
  refine ok_mv rfl rfl ?_
  refine ok_v (.d (.bool (decide (p1 < 0)))) rfl rfl ?_
  refine ok_nil ?_
  refine rk_condH rfl h0 (fun _ h0 => ?_) (fun _ h0 => ?_)
  · refine rk_region ?_
    cases h0
  · refine rk_skip ?_
    refine rk_seq ?_
    refine rk_region ?_
    refine ok_mv rfl rfl ?_
    refine ok_ln rfl rfl rfl rfl ?_
    refine ok_v (.d (.int .u64 (IntKind.wrap .u64 (p0.length : Int)))) rfl rfl ?_
    refine ok_mv rfl rfl ?_
    refine ok_v (.d (.int .u64 (IntKind.wrap .u64 p1))) rfl rfl ?_
    obtain ⟨r1, h2, h0⟩ := bindE h0
    refine ok_pc [.d (.int .u64 (IntKind.wrap .u64 (p0.length : Int))), .d (.int .u64 (IntKind.wrap .u64 p1))] (math_bits_Mul_ok (IntKind.wrap .u64 (p0.length : Int)) (IntKind.wrap .u64 p1) r1 h2) rfl rfl rfl (.inl rfl) ?_
    refine ok_mv rfl rfl ?_
    refine ok_v (.d (.int .u64 r1.1)) rfl rfl ?_
    refine ok_v (.d (.int .u64 r1.2)) rfl rfl ?_
    refine ok_as rfl rfl ?_
    refine ok_as rfl rfl ?_
    refine ok_nil ?_
    refine rk_seq ?_
    refine rk_seq ?_
    refine rk_region ?_
    refine ok_mv rfl rfl ?_
    refine ok_v (.d (.bool (decide (r1.1 > 0)))) rfl rfl ?_
    obtain ⟨c3, h4, h0⟩ := bindE h0
    refine ok_cutQ 4 (fun A st => ∃ (j5 j6 j7 : V), st = A [(26, .d (.bool c3)), (25, j7), (24, j6), (23, j5)]) ?_ ?_
    · refine ok_mvB rfl rfl h4 (fun h4 => ?_) (fun h4 => ?_)
      · refine ok_sg rfl ?_
        refine ok_sg rfl ?_
        refine ok_v (.d (.bool true)) rfl rfl ?_
        refine ok_nil ?_
        obtain rfl := someE h4
        exact ⟨_, _, _, rfl⟩
      · refine ok_mv rfl rfl ?_
        refine ok_v (.d (.bool (decide (r1.2 > 9223372036854775807)))) rfl rfl ?_
        refine ok_v (.d (.bool (decide (r1.2 > 9223372036854775807)))) rfl rfl ?_
        refine ok_nil ?_
        obtain rfl := someE h4
        exact ⟨_, _, _, rfl⟩
    · rintro _ ⟨j5, j6, j7, rfl⟩
      refine ok_nil ?_
      refine rk_condH rfl h0 (fun _ h0 => ?_) (fun _ h0 => ?_)
      · refine rk_region ?_
        cases h0
      · refine rk_skip ?_
        refine rk_seq ?_
        refine rk_region ?_
        refine ok_mv rfl rfl ?_
        refine ok_v (.d (.int .i64 (w64 r1.2))) rfl rfl ?_
        obtain ⟨z8, h9, h0⟩ := bindE h0
        refine ok_mks (z := 0) (enc := (eI .i64)) h9 rfl rfl rfl rfl rfl rfl ?_
        refine ok_as rfl rfl ?_
        refine ok_nil ?_
        refine rk_seq ?_
        refine rk_region ?_
        refine ok_mv rfl rfl ?_
        refine ok_mv rfl rfl ?_
        refine ok_cpy (w := (0, z8.length)) (xs := z8) (ys := p0) (enc := (eI .i64)) (.d (.sl 1 (p0.map (eI .i64)))) (by simp) rfl rfl rfl rfl rfl rfl contsDsl rfl rfl rfl rfl ?_
        have h10 := @cpyw_len _ z8 p0 (0, z8.length) (by simp)
        refine ok_as rfl rfl ?_
        refine ok_nil ?_
        refine rk_seq ?_
        obtain ⟨m24, h25, h0⟩ := bindE h0
        refine rk_blockcut (fun b26 => b26 = m24) (fun (b26 : List Int) => ⟨[(7, .hs 0 1 0 b26.length)], [(0, .dat 1 (b26.map (eI .i64)))], 1⟩) (by simp) ?_ ?_
        · refine rk_loopF (slices_Repeat_int_int_L1) (fun (a23 : Int × List Int) => ⟨[(7, .hs 0 1 0 a23.2.length), (8, .d (.int .i64 a23.1))], [(0, .dat 1 (a23.2.map (eI .i64)))], 1⟩) (((min p0.length (0, z8.length).2 : Nat) : Int), cpyw z8 (0, z8.length) p0) m24 h25 (wkE [(0, 0)] [] [] rfl ⟨⟨_, rfl, wv_hsL (by simp [h10]) rfl (by decide) (ltd rfl)⟩, ⟨_, rfl, .d (.refl _)⟩, trivial⟩ ⟨⟨ltd rfl, .inr ⟨by decide, _, rfl, .dat _ _⟩⟩, trivial⟩) ?_
          intro a23 y21 h22
          unfold slices_Repeat_int_int_L1 at h22
          refine rk_seq ?_
          refine rk_seq ?_
          refine rk_region ?_
          refine ok_mv rfl rfl ?_
          refine ok_mv rfl rfl ?_
          refine ok_v (.d (.int .i64 (a23.2.length : Int))) rfl rfl ?_
          refine ok_v (.d (.bool (decide (a23.1 < (a23.2.length : Int))))) rfl rfl ?_
          refine ok_nil ?_
          refine rk_condH rfl h22 (fun _ h22 => ?_) (fun _ h22 => ?_)
          · refine rk_skip ?_
            refine rk_block ?_
            refine rk_regionD [(some [], []), (some [], []), (some [0], [0]), (some [], []), (some [], []), (some [], []), (some [], []), (some [], []), (some [], []), (some [], [])] (by kernel_rfl) ?_
            refine ok_mv rfl rfl ?_
            refine ok_mv rfl rfl ?_
            refine ok_mv rfl rfl ?_
            obtain ⟨w27, h28, h22⟩ := bindE h22
            refine ok_slh h28 rfl rfl rfl rfl rfl (bound_v rfl) (fun _ => rfl) ?_
            refine ok_mv rfl rfl ?_
            refine ok_mv rfl rfl ?_
            obtain ⟨w29, h30, h22⟩ := bindE h22
            refine ok_slh h30 rfl rfl rfl rfl rfl (fun _ => rfl) (bound_v rfl) ?_
            refine ok_cpy (w := w27) (xs := a23.2) (ys := (a23.2.drop w29.1).take w29.2) (enc := (eI .i64)) (.hs 0 1 w29.1 w29.2) (sub2_some h28) rfl rfl rfl rfl rfl rfl (conts_sub (sub2_some h30) rfl) rfl rfl rfl rfl ?_
            have h31 := @cpyw_len _ a23.2 ((a23.2.drop w29.1).take w29.2) w27 (sub2_some h28)
            refine ok_v (.d (.int .i64 (w64 (a23.1 + ((min ((a23.2.drop w29.1).take w29.2).length w27.2 : Nat) : Int))))) rfl rfl ?_
            refine ok_as rfl rfl ?_
            refine ok_nil ?_
            refine rk_nil ?_
            refine blk_nor ?_
            refine rk_nil ?_
            exact ⟨_, (Option.some.inj h22).symm, wkE [(0, 0)] [] [] rfl ⟨⟨_, rfl, wv_hsL (by simp [h31]) rfl (by decide) (ltd rfl)⟩, ⟨_, rfl, .d (.refl _)⟩, trivial⟩ ⟨⟨ltd rfl, .inr ⟨by decide, _, rfl, .dat _ _⟩⟩, trivial⟩⟩
          · refine rk_exit ?_
            refine ⟨_, (Option.some.inj h22).symm, fun hm => ?_⟩
            subst hm
            exact ⟨_, rfl, wkE [(0, 0)] [] [] rfl ⟨⟨_, rfl, .hs rfl (by decide) (ltd rfl)⟩, trivial⟩ ⟨⟨ltd rfl, .inr ⟨by decide, _, rfl, .dat _ _⟩⟩, trivial⟩⟩
        · intro b26 hb
          subst hb
          refine rk_seq ?_
          refine rk_region ?_
          refine ok_mv rfl rfl ?_
          refine ok_as rfl rfl ?_
          refine ok_nil ?_
          refine rk_ret ?_
          obtain rfl := someE h0
          exact finD (.inr rfl) (v := .hs 0 1 0 b26.length) rfl (td_hs rfl rfl) (.refl _)

theorem split_Repeat_ok (p0 : Int) (p1 : Int) (r : List Int × Int) (h0 : split_Repeat p0 p1 = some r) : Pure Try.prog tab 18 [.int .i64 p0, .int .i64 p1] (.tup [.sl 1 (r.1.map (eI .i64)), .int .i64 r.2]) := by
  unfold split_Repeat at h0
  refine pure_of_run Try.func18 rfl (by kernel_rfl) (by kernel_rfl) rfl ?_
  refine rk_seq ?_
  refine rk_region ?_
  refine ok_as rfl rfl ?_
  refine ok_as rfl rfl ?_
  refine ok_nil ?_
  refine rk_seq ?_
  refine rk_seq ?_
  refine rk_region ?_
  refine ok_mv rfl rfl ?_
  refine ok_v (.d (.bool (decide (p0 < 0)))) rfl rfl ?_
  obtain ⟨c1, h2, h0⟩ := bindE h0
  refine ok_cutQ 4 (fun A st => ∃ (j3 j4 j5 : V), st = A [(12, .d (.bool c1)), (11, j5), (10, j4), (9, j3)]) ?_ ?_
  · refine ok_mvB rfl rfl h2 (fun h2 => ?_) (fun h2 => ?_)
    · refine ok_sg rfl ?_
      refine ok_sg rfl ?_
      refine ok_v (.d (.bool true)) rfl rfl ?_
      refine ok_nil ?_
      obtain rfl := someE h2
      exact ⟨_, _, _, rfl⟩
    · refine ok_mv rfl rfl ?_
      refine ok_v (.d (.bool (decide (p0 > 1000000)))) rfl rfl ?_
      refine ok_v (.d (.bool (decide (p0 > 1000000)))) rfl rfl ?_
      refine ok_nil ?_
      obtain rfl := someE h2
      exact ⟨_, _, _, rfl⟩
  · rintro _ ⟨j3, j4, j5, rfl⟩
    obtain ⟨c6, h7, h0⟩ := bindE h0
    refine ok_cutQ 4 (fun A st => ∃ (j8 j9 j10 : V), st = A [(16, .d (.bool c6)), (15, j10), (14, j9), (13, j8)]) ?_ ?_
    · refine ok_mvB rfl rfl h7 (fun h7 => ?_) (fun h7 => ?_)
      · refine ok_sg rfl ?_
        refine ok_sg rfl ?_
        refine ok_v (.d (.bool true)) rfl rfl ?_
        refine ok_nil ?_
        obtain rfl := someE h7
        exact ⟨_, _, _, rfl⟩
      · refine ok_mv rfl rfl ?_
        refine ok_v (.d (.bool (decide (p1 < 1)))) rfl rfl ?_
        refine ok_v (.d (.bool (decide (p1 < 1)))) rfl rfl ?_
        refine ok_nil ?_
        obtain rfl := someE h7
        exact ⟨_, _, _, rfl⟩
    · rintro _ ⟨j8, j9, j10, rfl⟩
      obtain ⟨c11, h12, h0⟩ := bindE h0
      refine ok_cutQ 4 (fun A st => ∃ (j13 j14 j15 : V), st = A [(20, .d (.bool c11)), (19, j15), (18, j14), (17, j13)]) ?_ ?_
      · refine ok_mvB rfl rfl h12 (fun h12 => ?_) (fun h12 => ?_)
        · refine ok_sg rfl ?_
          refine ok_sg rfl ?_
          refine ok_v (.d (.bool true)) rfl rfl ?_
          refine ok_nil ?_
          obtain rfl := someE h12
          exact ⟨_, _, _, rfl⟩
        · refine ok_mv rfl rfl ?_
          refine ok_v (.d (.bool (decide (p1 > 1000000)))) rfl rfl ?_
          refine ok_v (.d (.bool (decide (p1 > 1000000)))) rfl rfl ?_
          refine ok_nil ?_
          obtain rfl := someE h12
          exact ⟨_, _, _, rfl⟩
      · rintro _ ⟨j13, j14, j15, rfl⟩
        refine ok_nil ?_
        refine rk_condH rfl h0 (fun _ h0 => ?_) (fun _ h0 => ?_)
        · refine rk_seq ?_
          refine rk_region ?_
          refine ok_as rfl rfl ?_
          refine ok_as rfl rfl ?_
          refine ok_nil ?_
          refine rk_ret ?_
          obtain rfl := someE h0
          exact finD (.inr rfl) (v := .d (.tup [.nilsl, .int .i64 2])) rfl rfl (dle_tup (.cons (.nil _) (.cons (.refl _) .nil)))
        · refine rk_skip ?_
          refine rk_seq ?_
          refine rk_region ?_
          refine ok_mv rfl rfl ?_
          refine ok_v (.d (.int .i64 (w64 (2 * p0)))) rfl rfl ?_
          refine ok_mv rfl rfl ?_
          refine ok_v (.d (.int .i64 (w64 ((w64 (2 * p0)) + p1)))) rfl rfl ?_
          refine ok_mv rfl rfl ?_
          refine ok_v (.d (.int .i64 (w64 (2 * p1)))) rfl rfl ?_
          obtain ⟨q16, h17, h0⟩ := bindE h0
          refine ok_quo h17 rfl rfl rfl ?_
          refine ok_max (r := max 1 q16) rfl rfl (by simp only [minI_max]; rfl) ?_
          refine ok_as rfl rfl ?_
          refine ok_nil ?_
          refine rk_seq ?_
          refine rk_seq ?_
          refine rk_region ?_
          refine ok_mv rfl rfl ?_
          refine ok_v (.d (.bool (decide ((max 1 q16) > 200)))) rfl rfl ?_
          refine ok_nil ?_
          refine rk_condH rfl h0 (fun _ h0 => ?_) (fun _ h0 => ?_)
          · refine rk_seq ?_
            refine rk_region ?_
            refine ok_as rfl rfl ?_
            refine ok_as rfl rfl ?_
            refine ok_nil ?_
            refine rk_ret ?_
            obtain rfl := someE h0
            exact finD (.inr rfl) (v := .d (.tup [.nilsl, .int .i64 4])) rfl rfl (dle_tup (.cons (.nil _) (.cons (.refl _) .nil)))
          · refine rk_skip ?_
            refine rk_seq ?_
            refine rk_region ?_
            refine ok_mv rfl rfl ?_
            refine ok_fzn (es := 1) ([1].map (eI .i64)) rfl rfl rfl rfl rfl ?_
            refine ok_mv rfl rfl ?_
            obtain ⟨r18, h19, h0⟩ := bindE h0
            refine ok_pc [.d (.sl 1 ([1].map (eI .i64))), .d (.int .i64 (max 1 q16))] (slices_Repeat_int_int_ok [1] (max 1 q16) r18 h19) rfl rfl rfl (.inl rfl) ?_
            obtain ⟨m30, h29, h0⟩ := bindE h0
            refine ok_callC [.d (.int .i64 p0), .d (.sl 1 (r18.map (eI .i64)))] (fun b31 => b31 = m30) (fun (b31 : Int) => ⟨[(35, .fn 46 [.ref 0 1 0 0, .ref 1 1 0 0, .ref 2 1 0 0])], [(0, .dat 1 [[.sl 1 (r18.map (eI .i64))]]), (1, .dat 1 [[.int .i64 p0]]), (2, .dat 1 [[.int .i64 b31]])], 3⟩) rfl rfl Try.func28 rfl (by kernel_rfl) (by kernel_rfl) rfl ?_ ?_
            · refine rk_seq ?_
              refine rk_region ?_
              refine ok_new (.ref 1 1 0 0) (.dat 1 [[.int .i64 p0]]) rfl rfl ?_
              refine ok_new (.ref 2 1 0 0) (.dat 1 [[.sl 1 (r18.map (eI .i64))]]) rfl rfl ?_
              refine ok_as rfl rfl ?_
              refine ok_nil ?_
              refine rk_seq ?_
              refine rk_region ?_
              refine ok_alloc rfl rfl ?_
              refine ok_sto 3 (.dat 1 [[.int .i64 0]]) rfl rfl ?_
              refine ok_nil ?_
              refine rk_seq ?_
              refine rk_seq ?_
              refine rk_region ?_
              refine ok_v (.d (.sl 1 (r18.map (eI .i64)))) rfl rfl ?_
              refine ok_ln rfl rfl rfl rfl ?_
              refine ok_mv rfl rfl ?_
              refine ok_nil ?_
              obtain ⟨m43, h44, h29⟩ := bindE h29
              refine rk_blockcut (fun b45 => b45 = m43) (fun (b45 : Int) => ⟨[(2, .ref 1 1 0 0), (3, .ref 2 1 0 0), (5, .ref 3 1 0 0)], [(1, .dat 1 [[.int .i64 p0]]), (2, .dat 1 [[.sl 1 (r18.map (eI .i64))]]), (3, .dat 1 [[.int .i64 b45]])], 4⟩) (by simp) ?_ ?_
              · refine rk_loopF (split_Repeat_L1 r18) (fun (a42 : Int × Int) => ⟨[(2, .ref 1 1 0 0), (3, .ref 2 1 0 0), (5, .ref 3 1 0 0), (8, .d (.sl 1 (r18.map (eI .i64)))), (9, .d (.int .i64 (r18.length : Int))), (10, .d (.int .i64 a42.1))], [(1, .dat 1 [[.int .i64 p0]]), (2, .dat 1 [[.sl 1 (r18.map (eI .i64))]]), (3, .dat 1 [[.int .i64 a42.2]])], 4⟩) (0, 0) m43 h44 (wkE [(1, 1), (2, 2), (3, 3)] [] [] rfl ⟨⟨_, rfl, .ref rfl (by decide) (ltd rfl)⟩, ⟨_, rfl, .ref rfl (by decide) (ltd rfl)⟩, ⟨_, rfl, .ref rfl (by decide) (ltd rfl)⟩, ⟨_, rfl, .d (.refl _)⟩, ⟨_, rfl, .d (.refl _)⟩, ⟨_, rfl, .d (.refl _)⟩, trivial⟩ ⟨⟨ltd rfl, .inr ⟨by decide, _, rfl, .dat _ _⟩⟩, ⟨ltd rfl, .inr ⟨by decide, _, rfl, .dat _ _⟩⟩, ⟨ltd rfl, .inr ⟨by decide, _, rfl, .dat _ _⟩⟩, trivial⟩) ?_
                intro a42 y40 h41
                unfold split_Repeat_L1 at h41
                refine rk_seq ?_
                refine rk_region ?_
                refine ok_v (.d (.bool (decide (a42.1 < (r18.length : Int))))) rfl rfl ?_
                refine ok_nil ?_
                refine rk_seq ?_
                refine rk_condH rfl h41 (fun _ h41 => ?_) (fun _ h41 => ?_)
                · refine rk_skip ?_
                  refine rk_seq ?_
                  refine rk_block ?_
                  refine rk_seq ?_
                  refine rk_region ?_
                  obtain ⟨v48, h49, h41⟩ := bindE h41
                  refine ok_ix (enc := (eI .i64)) h49 rfl rfl rfl rfl rfl rfl ?_
                  refine ok_v (.d (.int .i64 v48)) rfl rfl ?_
                  refine ok_as rfl rfl ?_
                  refine ok_nil ?_
                  refine rk_region ?_
                  refine ok_v (.d (.int .i64 a42.2)) rfl rfl ?_
                  refine ok_mv rfl rfl ?_
                  refine ok_v (.d (.int .i64 (w64 (a42.2 + v48)))) rfl rfl ?_
                  refine ok_sto 3 (.dat 1 [[.int .i64 (w64 (a42.2 + v48))]]) rfl rfl ?_
                  refine ok_nil ?_
                  refine rk_nil ?_
                  refine blk_nor ?_
                  refine rk_region ?_
                  refine ok_v (.d (.int .i64 (w64 (a42.1 + 1)))) rfl rfl ?_
                  refine ok_mv rfl rfl ?_
                  refine ok_nil ?_
                  refine rk_nil ?_
                  exact ⟨_, (Option.some.inj h41).symm, wkE [(1, 1), (2, 2), (3, 3)] [] [] rfl ⟨⟨_, rfl, .ref rfl (by decide) (ltd rfl)⟩, ⟨_, rfl, .ref rfl (by decide) (ltd rfl)⟩, ⟨_, rfl, .ref rfl (by decide) (ltd rfl)⟩, ⟨_, rfl, .d (.refl _)⟩, ⟨_, rfl, .d (.refl _)⟩, ⟨_, rfl, .d (.refl _)⟩, trivial⟩ ⟨⟨ltd rfl, .inr ⟨by decide, _, rfl, .dat _ _⟩⟩, ⟨ltd rfl, .inr ⟨by decide, _, rfl, .dat _ _⟩⟩, ⟨ltd rfl, .inr ⟨by decide, _, rfl, .dat _ _⟩⟩, trivial⟩⟩
                · refine rk_exit ?_
                  refine ⟨_, (Option.some.inj h41).symm, fun hm => ?_⟩
                  subst hm
                  exact ⟨_, rfl, wkE [(1, 1), (2, 2), (3, 3)] [] [] rfl ⟨⟨_, rfl, .ref rfl (by decide) (ltd rfl)⟩, ⟨_, rfl, .ref rfl (by decide) (ltd rfl)⟩, ⟨_, rfl, .ref rfl (by decide) (ltd rfl)⟩, trivial⟩ ⟨⟨ltd rfl, .inr ⟨by decide, _, rfl, .dat _ _⟩⟩, ⟨ltd rfl, .inr ⟨by decide, _, rfl, .dat _ _⟩⟩, ⟨ltd rfl, .inr ⟨by decide, _, rfl, .dat _ _⟩⟩, trivial⟩⟩
              · intro b45 hb
                subst hb
                refine rk_seq ?_
                refine rk_region ?_
                refine ok_v (.fn 46 [.ref 2 1 0 0, .ref 1 1 0 0, .ref 3 1 0 0]) rfl rfl ?_
                refine ok_as rfl rfl ?_
                refine ok_nil ?_
                refine rk_ret ?_
                refine ⟨.inr rfl, _, rfl, ?_⟩
                obtain rfl := someE h29
                exact ⟨_, rfl, wkE [(0, 2), (1, 1), (2, 3)] [] [] rfl ⟨⟨_, rfl, (wv_fn (.cons (.ref rfl (by decide) (ltd rfl)) (.cons (.ref rfl (by decide) (ltd rfl)) (.cons (.ref rfl (by decide) (ltd rfl)) .nil))))⟩, trivial⟩ ⟨⟨ltd rfl, .inr ⟨by decide, _, rfl, .dat _ _⟩⟩, ⟨ltd rfl, .inr ⟨by decide, _, rfl, .dat _ _⟩⟩, ⟨ltd rfl, .inr ⟨by decide, _, rfl, .dat _ _⟩⟩, trivial⟩⟩
            · intro b31 hb
              subst hb
              obtain ⟨m122, h121, h0⟩ := bindE h0
              refine ok_callC [.fn 46 [.ref 0 1 0 0, .ref 1 1 0 0, .ref 2 1 0 0]] (fun b123 => b123 = m122) (fun (b123 : List Int) => ⟨[(36, .hs 0 1 0 b123.length)], [(0, .dat 1 (b123.map (eI .i64)))], 1⟩) rfl rfl Try.func36 rfl (by kernel_rfl) (by kernel_rfl) rfl ?_ ?_
              · refine rk_seq ?_
                refine rk_region ?_
                refine ok_as rfl rfl ?_
                refine ok_nil ?_
                refine rk_seq ?_
                refine rk_region ?_
                refine ok_mv rfl rfl ?_
                obtain ⟨m195, h194, h121⟩ := bindE h121
                refine ok_callC [.d (.nilsl), .fn 46 [.ref 0 1 0 0, .ref 1 1 0 0, .ref 2 1 0 0]] (fun b196 => b196 = m195) (fun (b196 : List Int) => ⟨[(4, .hs 3 1 0 b196.length)], [(0, .dat 1 [[.sl 1 (r18.map (eI .i64))]]), (1, .dat 1 [[.int .i64 p0]]), (2, .dat 1 [[.int .i64 b31]]), (3, .dat 1 (b196.map (eI .i64)))], 4⟩) rfl rfl Try.func51 rfl (by kernel_rfl) (by kernel_rfl) rfl ?_ ?_
                · refine rk_seq ?_
                  refine rk_region ?_
                  refine ok_new (.ref 3 1 0 0) (.dat 1 [[.nilsl]]) rfl rfl ?_
                  refine ok_as rfl rfl ?_
                  refine ok_nil ?_
                  refine rk_seq ?_
                  refine rk_seq ?_
                  refine rk_region ?_
                  refine ok_mv rfl rfl ?_
                  refine ok_nil ?_
                  refine rk_block ?_
                  obtain ⟨m267, h266, h194⟩ := bindE h194
                  refine rk_cut0 (fun b268 => b268 = m267) (fun (b268 : List Int) => ⟨[(2, .ref 3 1 0 0)], [(0, .dat 1 [[.sl 1 (r18.map (eI .i64))]]), (1, .dat 1 [[.int .i64 p0]]), (2, .dat 1 [[.int .i64 b31]]), (3, .cel 1 [[.hs 4 1 0 b268.length]]), (4, .dat 1 (b268.map (eI .i64)))], 5⟩) ?_ ?_
                  · refine rk_wk (st' := ⟨[(2, .ref 3 1 0 0), (4, .d (.nilsl)), (6, .fn 46 [.ref 0 1 0 0, .ref 1 1 0 0, .ref 2 1 0 0])], [(0, .dat 1 [[.sl 1 (r18.map (eI .i64))]]), (1, .dat 1 [[.int .i64 p0]]), (2, .dat 1 [[.int .i64 b31]]), (3, .dat 1 [[.nilsl]])], 4⟩) (wkE [(3, 3)] [] [] rfl ⟨⟨_, rfl, .ref rfl (by decide) (ltd rfl)⟩, ⟨_, rfl, .d (.refl _)⟩, ⟨_, rfl, (wv_fn (.cons (.ref rfl (by decide) (ltd rfl)) (.cons (.ref rfl (by decide) (ltd rfl)) (.cons (.ref rfl (by decide) (ltd rfl)) .nil))))⟩, trivial⟩ ⟨⟨ltd rfl, .inr ⟨by decide, _, rfl, .dat _ _⟩⟩, ⟨ltd rfl, .inr ⟨by decide, _, rfl, .dat _ _⟩⟩, ⟨ltd rfl, .inr ⟨by decide, _, rfl, .dat _ _⟩⟩, ⟨ltd rfl, .inr ⟨by decide, _, rfl, .dat _ _⟩⟩, trivial⟩) ?_ (by simp)
                    refine rk_rangeF [.ref 0 1 0 0, .ref 1 1 0 0, .ref 2 1 0 0] (.inl rfl) Try.func46 rfl (by kernel_rfl) (by kernel_rfl) rfl ?_
                    intro A269 B270 hA269 hB270
                    refine rk_seq ?_
                    refine rk_region ?_
                    refine ok_as rfl rfl ?_
                    refine ok_as rfl rfl ?_
                    refine ok_nil ?_
                    refine rk_seq ?_
                    refine rk_region ?_
                    refine ok_v (.d (.sl 1 (r18.map (eI .i64)))) rfl rfl ?_
                    refine ok_ln rfl rfl rfl rfl ?_
                    refine ok_mv rfl rfl ?_
                    refine ok_nil ?_
                    obtain ⟨m306, h307, h266⟩ := bindE h266
                    refine rk_block ?_
                    refine rk_loopF (split_Repeat_L2 r18 p0 b31) (fun (a305 : Int × Int × Int × List Int) => ⟨[(0, .yld 4), (2, .ref 1 1 0 0), (3, .ref 2 1 0 0), (5, .d (.int .i64 a305.1)), (6, .d (.int .i64 a305.2.1)), (10, .d (.sl 1 (r18.map (eI .i64)))), (11, .d (.int .i64 (r18.length : Int))), (12, .d (.int .i64 a305.2.2.1))], [(0, .dat 1 [[.sl 1 (r18.map (eI .i64))]]), (1, .dat 1 [[.int .i64 p0]]), (2, .dat 1 [[.int .i64 b31]]), (3, .cel 1 [[.hs 5 1 0 a305.2.2.2.length]]), (4, .loop [(2, .ref 3 1 0 0), (4, .d (.nilsl)), (6, .fn 46 [.ref 0 1 0 0, .ref 1 1 0 0, .ref 2 1 0 0])] [7] A269 B270 .ready none), (5, .dat 1 (a305.2.2.2.map (eI .i64)))], 6⟩) (0, 0, 0, []) m306 h307 (wkE [] [] [5] rfl ⟨⟨_, rfl, .yld rfl (by decide) (ltd rfl)⟩, ⟨_, rfl, .ref rfl (by decide) (ltd rfl)⟩, ⟨_, rfl, .ref rfl (by decide) (ltd rfl)⟩, ⟨_, rfl, .d (.refl _)⟩, ⟨_, rfl, .d (.refl _)⟩, ⟨_, rfl, .d (.refl _)⟩, ⟨_, rfl, .d (.refl _)⟩, ⟨_, rfl, .d (.refl _)⟩, trivial⟩ ⟨⟨ltd rfl, .inr ⟨by decide, _, rfl, .dat _ _⟩⟩, ⟨ltd rfl, .inr ⟨by decide, _, rfl, .dat _ _⟩⟩, ⟨ltd rfl, .inr ⟨by decide, _, rfl, .dat _ _⟩⟩, ⟨ltd rfl, .inr ⟨by decide, _, rfl, wb_datcel1 (.cons (.nil (by decide) (ltd rfl)) rfl .nil)⟩⟩, ⟨ltd rfl, .inr ⟨by decide, _, rfl, wb_loopS (.cons rfl (.ref rfl (by decide) (ltd rfl)) (.cons rfl (.d (.refl _)) (.cons rfl ((wv_fn (.cons (.ref rfl (by decide) (ltd rfl)) (.cons (.ref rfl (by decide) (ltd rfl)) (.cons (.ref rfl (by decide) (ltd rfl)) .nil))))) .nil)))⟩⟩, ⟨ltd rfl, .inl ⟨by decide, _, by decide, rfl⟩⟩, trivial⟩) ?_
                    intro a305 y303 h304
                    unfold split_Repeat_L2 at h304
                    refine rk_seq ?_
                    refine rk_region ?_
                    refine ok_v (.d (.bool (decide (a305.2.2.1 < (r18.length : Int))))) rfl rfl ?_
                    refine ok_nil ?_
                    refine rk_seq ?_
                    refine rk_condH rfl h304 (fun _ h304 => ?_) (fun _ h304 => ?_)
                    · refine rk_skip ?_
                      refine rk_seq ?_
                      refine rk_block ?_
                      refine rk_seq ?_
                      refine rk_region ?_
                      obtain ⟨v316, h317, h304⟩ := bindE h304
                      refine ok_ix (enc := (eI .i64)) h317 rfl rfl rfl rfl rfl rfl ?_
                      refine ok_v (.d (.int .i64 v316)) rfl rfl ?_
                      refine ok_as rfl rfl ?_
                      refine ok_nil ?_
                      refine rk_seq ?_
                      refine rk_region ?_
                      refine ok_mv rfl rfl ?_
                      refine ok_mv rfl rfl ?_
                      refine ok_v (.d (.int .i64 (w64 (a305.1 + v316)))) rfl rfl ?_
                      refine ok_as rfl rfl ?_
                      refine ok_nil ?_
                      refine rk_seq ?_
                      refine rk_region ?_
                      refine ok_v (.d (.int .i64 p0)) rfl rfl ?_
                      refine ok_mv rfl rfl ?_
                      refine ok_v (.d (.int .i64 (w64 (p0 * (w64 (a305.1 + v316)))))) rfl rfl ?_
                      refine ok_v (.d (.int .i64 b31)) rfl rfl ?_
                      obtain ⟨q318, h319, h304⟩ := bindE h304
                      refine ok_quo h319 rfl rfl rfl ?_
                      refine ok_as rfl rfl ?_
                      refine ok_nil ?_
                      refine rk_seq ?_
                      refine rk_seq ?_
                      refine rk_region ?_
                      refine ok_mv rfl rfl ?_
                      refine ok_mv rfl rfl ?_
                      refine ok_mv rfl rfl ?_
                      refine ok_v (.d (.int .i64 (w64 (q318 - a305.2.1)))) rfl rfl ?_
                      obtain ⟨m323, h322, h304⟩ := bindE h304
                      refine ok_yieldC (fun b324 => b324 = m323) (fun (b324 : List Int) => ⟨[(0, .yld 4), (2, .ref 1 1 0 0), (3, .ref 2 1 0 0), (5, .d (.int .i64 (w64 (a305.1 + v316)))), (9, .d (.int .i64 q318)), (10, .d (.sl 1 (r18.map (eI .i64)))), (11, .d (.int .i64 (r18.length : Int))), (12, .d (.int .i64 a305.2.2.1)), (28, .d (.bool true))], [(0, .dat 1 [[.sl 1 (r18.map (eI .i64))]]), (1, .dat 1 [[.int .i64 p0]]), (2, .dat 1 [[.int .i64 b31]]), (3, .cel 1 [[.hs 5 1 0 b324.length]]), (4, .loop [(2, .ref 3 1 0 0), (4, .d (.nilsl)), (6, .fn 46 [.ref 0 1 0 0, .ref 1 1 0 0, .ref 2 1 0 0])] [7] A269 B270 .ready none), (5, .dat 1 (b324.map (eI .i64)))], 6⟩) hA269 hB270 rfl rfl rfl rfl rfl rfl ?_ ?_
                      · refine rk_region ?_
                        refine ok_as rfl rfl ?_
                        refine ok_nil ?_
                        refine rk_nil ?_
                        refine ⟨rfl, _, rfl, ?_⟩
                        refine rk_block ?_
                        refine rk_region ?_
                        refine ok_v (.hs 5 1 0 a305.2.2.2.length) rfl rfl ?_
                        refine ok_mv rfl rfl ?_
                        refine ok_new (.hs 6 1 0 [w64 (q318 - a305.2.1)].length) (.dat 1 ([w64 (q318 - a305.2.1)].map (eI .i64))) rfl rfl ?_
                        obtain ⟨z325, h326, h322⟩ := bindE h322
                        refine ok_ap (xs := a305.2.2.2) (ys := [w64 (q318 - a305.2.1)]) (enc := (eI .i64)) (.hs 6 1 0 [w64 (q318 - a305.2.1)].length) h326 rfl rfl rfl rfl rfl rfl rfl (conts_hs rfl rfl) rfl rfl rfl rfl ?_
                        refine ok_sto 3 (.cel 1 [[.hs 7 1 0 z325.length]]) rfl rfl ?_
                        refine ok_nil ?_
                        refine rk_nil ?_
                        refine blk_nor ?_
                        refine rk_nil ?_
                        refine ⟨_, rfl, ?_⟩
                        obtain rfl := someE h322
                        exact ⟨_, rfl, wkE [(5, 7)] [] [] rfl ⟨⟨_, rfl, .yld rfl (by decide) (ltd rfl)⟩, ⟨_, rfl, .ref rfl (by decide) (ltd rfl)⟩, ⟨_, rfl, .ref rfl (by decide) (ltd rfl)⟩, ⟨_, rfl, .d (.refl _)⟩, ⟨_, rfl, .d (.refl _)⟩, ⟨_, rfl, .d (.refl _)⟩, ⟨_, rfl, .d (.refl _)⟩, ⟨_, rfl, .d (.refl _)⟩, ⟨_, rfl, .d (.refl _)⟩, trivial⟩ ⟨⟨ltd rfl, .inr ⟨by decide, _, rfl, .dat _ _⟩⟩, ⟨ltd rfl, .inr ⟨by decide, _, rfl, .dat _ _⟩⟩, ⟨ltd rfl, .inr ⟨by decide, _, rfl, .dat _ _⟩⟩, ⟨ltd rfl, .inr ⟨by decide, _, rfl, wb_cel1 (.cons (.hs rfl (by decide) (ltd rfl)) rfl .nil)⟩⟩, ⟨ltd rfl, .inr ⟨by decide, _, rfl, wb_loopS (.cons rfl (.ref rfl (by decide) (ltd rfl)) (.cons rfl (.d (.refl _)) (.cons rfl ((wv_fn (.cons (.ref rfl (by decide) (ltd rfl)) (.cons (.ref rfl (by decide) (ltd rfl)) (.cons (.ref rfl (by decide) (ltd rfl)) .nil))))) .nil)))⟩⟩, ⟨ltd rfl, .inr ⟨by decide, _, rfl, .dat _ _⟩⟩, trivial⟩⟩
                      · intro b324 hb
                        subst hb
                        refine ok_v (.d (.bool (!true))) rfl rfl ?_
                        refine ok_nil ?_
                        refine rk_condH rfl h304 (fun _ h304 => ?_) (fun _ h304 => ?_)
                        · refine rk_ret ?_
                          refine ⟨_, (Option.some.inj h304).symm, fun hm => ?_⟩
                          subst hm
                          refine ⟨.inr rfl, _, rfl, _, _, .nor, rfl, by decide, ?_⟩
                          refine after_nor ?_
                          refine rk_nil ?_
                          obtain rfl := someE h266
                          exact ⟨_, rfl, wkE [(3, 3), (4, 5)] [] [] rfl ⟨⟨_, rfl, .ref rfl (by decide) (ltd rfl)⟩, trivial⟩ ⟨⟨ltd rfl, .inr ⟨by decide, _, rfl, .dat _ _⟩⟩, ⟨ltd rfl, .inr ⟨by decide, _, rfl, .dat _ _⟩⟩, ⟨ltd rfl, .inr ⟨by decide, _, rfl, .dat _ _⟩⟩, ⟨ltd rfl, .inr ⟨by decide, _, rfl, wb_cel1 (.cons (.hs rfl (by decide) (ltd rfl)) rfl .nil)⟩⟩, ⟨ltd rfl, .inr ⟨by decide, _, rfl, .dat _ _⟩⟩, trivial⟩⟩
                        · refine rk_skip ?_
                          refine rk_region ?_
                          refine ok_mv rfl rfl ?_
                          refine ok_as rfl rfl ?_
                          refine ok_nil ?_
                          refine rk_nil ?_
                          refine blk_nor ?_
                          refine rk_region ?_
                          refine ok_v (.d (.int .i64 (w64 (a305.2.2.1 + 1)))) rfl rfl ?_
                          refine ok_mv rfl rfl ?_
                          refine ok_nil ?_
                          refine rk_nil ?_
                          exact ⟨_, (Option.some.inj h304).symm, wkE [(5, 5)] [] [] rfl ⟨⟨_, rfl, .yld rfl (by decide) (ltd rfl)⟩, ⟨_, rfl, .ref rfl (by decide) (ltd rfl)⟩, ⟨_, rfl, .ref rfl (by decide) (ltd rfl)⟩, ⟨_, rfl, .d (.refl _)⟩, ⟨_, rfl, .d (.refl _)⟩, ⟨_, rfl, .d (.refl _)⟩, ⟨_, rfl, .d (.refl _)⟩, ⟨_, rfl, .d (.refl _)⟩, trivial⟩ ⟨⟨ltd rfl, .inr ⟨by decide, _, rfl, .dat _ _⟩⟩, ⟨ltd rfl, .inr ⟨by decide, _, rfl, .dat _ _⟩⟩, ⟨ltd rfl, .inr ⟨by decide, _, rfl, .dat _ _⟩⟩, ⟨ltd rfl, .inr ⟨by decide, _, rfl, wb_cel1 (.cons (.hs rfl (by decide) (ltd rfl)) rfl .nil)⟩⟩, ⟨ltd rfl, .inr ⟨by decide, _, rfl, wb_loopS (.cons rfl (.ref rfl (by decide) (ltd rfl)) (.cons rfl (.d (.refl _)) (.cons rfl ((wv_fn (.cons (.ref rfl (by decide) (ltd rfl)) (.cons (.ref rfl (by decide) (ltd rfl)) (.cons (.ref rfl (by decide) (ltd rfl)) .nil))))) .nil)))⟩⟩, ⟨ltd rfl, .inr ⟨by decide, _, rfl, .dat _ _⟩⟩, trivial⟩⟩
                    · refine rk_exit ?_
                      refine ⟨_, (Option.some.inj h304).symm, fun hm => ?_⟩
                      subst hm
                      refine ⟨.inl rfl, _, rfl, _, _, .nor, rfl, by decide, ?_⟩
                      refine after_nor ?_
                      refine rk_nil ?_
                      obtain rfl := someE h266
                      exact ⟨_, rfl, wkE [(3, 3), (4, 5)] [] [] rfl ⟨⟨_, rfl, .ref rfl (by decide) (ltd rfl)⟩, trivial⟩ ⟨⟨ltd rfl, .inr ⟨by decide, _, rfl, .dat _ _⟩⟩, ⟨ltd rfl, .inr ⟨by decide, _, rfl, .dat _ _⟩⟩, ⟨ltd rfl, .inr ⟨by decide, _, rfl, .dat _ _⟩⟩, ⟨ltd rfl, .inr ⟨by decide, _, rfl, wb_cel1 (.cons (.hs rfl (by decide) (ltd rfl)) rfl .nil)⟩⟩, ⟨ltd rfl, .inr ⟨by decide, _, rfl, .dat _ _⟩⟩, trivial⟩⟩
                  · intro b268 st hb hw
                    subst hb
                    refine rk_wk hw ?_ (by simp)
                    refine rk_seq ?_
                    refine rk_region ?_
                    refine ok_v (.hs 4 1 0 b268.length) rfl rfl ?_
                    refine ok_as rfl rfl ?_
                    refine ok_nil ?_
                    refine rk_ret ?_
                    refine ⟨.inr rfl, _, rfl, ?_⟩
                    obtain rfl := someE h194
                    exact ⟨_, rfl, wkE [(3, 4)] [] [] rfl ⟨⟨_, rfl, .hs rfl (by decide) (ltd rfl)⟩, trivial⟩ ⟨⟨ltd rfl, .inr ⟨by decide, _, rfl, .dat _ _⟩⟩, ⟨ltd rfl, .inr ⟨by decide, _, rfl, .dat _ _⟩⟩, ⟨ltd rfl, .inr ⟨by decide, _, rfl, .dat _ _⟩⟩, ⟨ltd rfl, .inr ⟨by decide, _, rfl, .dat _ _⟩⟩, trivial⟩⟩
                · intro b196 hb
                  subst hb
                  refine ok_as rfl rfl ?_
                  refine ok_nil ?_
                  refine rk_ret ?_
                  refine ⟨.inr rfl, _, rfl, ?_⟩
                  obtain rfl := someE h121
                  exact ⟨_, rfl, wkE [(0, 3)] [] [] rfl ⟨⟨_, rfl, .hs rfl (by decide) (ltd rfl)⟩, trivial⟩ ⟨⟨ltd rfl, .inr ⟨by decide, _, rfl, .dat _ _⟩⟩, trivial⟩⟩
              · intro b123 hb
                subst hb
                refine ok_as rfl rfl ?_
                refine ok_as rfl rfl ?_
                refine ok_nil ?_
                refine rk_ret ?_
                obtain rfl := someE h0
                exact finD (.inr rfl) (v := .tup [.hs 0 1 0 b123.length, .d (.int .i64 0)]) rfl (td_tup (mm_cons (td_hs rfl rfl) (mm_cons rfl rfl))) (.refl _)

theorem cmp_isNaN_int_ok (p0 : Int) (r : Bool) (h0 : cmp_isNaN_int p0 = some r) : Pure Try.prog tab 68 [.int .i64 p0] (.bool r) := by
  unfold cmp_isNaN_int at h0
  refine pure_of_run Try.func68 rfl (by kernel_rfl) (by kernel_rfl) rfl ?_
  refine rk_seq ?_
  refine rk_region ?_
  refine ok_as rfl rfl ?_
  refine ok_nil ?_
  refine rk_seq ?_
  refine rk_region ?_
  refine ok_mv rfl rfl ?_
  refine ok_mv rfl rfl ?_
  refine ok_v (.d (.bool (p0 != p0))) rfl rfl ?_
  refine ok_as rfl rfl ?_
  refine ok_nil ?_
  refine rk_ret ?_
  obtain rfl := someE h0
  exact finD (.inr rfl) (v := .d (.bool (p0 != p0))) rfl rfl (.refl _)

theorem cmp_Less_int_ok (p0 : Int) (p1 : Int) (r : Bool) (h0 : cmp_Less_int p0 p1 = some r) : Pure Try.prog tab 53 [.int .i64 p0, .int .i64 p1] (.bool r) := by
  unfold cmp_Less_int at h0
  refine pure_of_run Try.func53 rfl (by kernel_rfl) (by kernel_rfl) rfl ?_
  refine rk_seq ?_
  refine rk_region ?_
  refine ok_as rfl rfl ?_
  refine ok_nil ?_
  refine rk_seq ?_
  refine rk_region ?_
  refine ok_mv rfl rfl ?_
  obtain ⟨r1, h2, h0⟩ := bindE h0
  refine ok_pc [.d (.int .i64 p0)] (cmp_isNaN_int_ok p0 r1 h2) rfl rfl rfl (.inl rfl) ?_
  obtain ⟨c5, h6, h0⟩ := bindE h0
  refine ok_cutQ 5 (fun A st => ∃ (j7 j8 j9 j10 : V), st = A [(11, .d (.bool c5)), (10, j10), (9, j9), (8, j8), (7, j7)]) ?_ ?_
  · refine ok_mvB rfl rfl h6 (fun h6 => ?_) (fun h6 => ?_)
    · refine ok_mv rfl rfl ?_
      obtain ⟨r11, h12, h6⟩ := bindE h6
      refine ok_pc [.d (.int .i64 p1)] (cmp_isNaN_int_ok p1 r11 h12) rfl rfl rfl (.inl rfl) ?_
      refine ok_v (.d (.bool (!r11))) rfl rfl ?_
      refine ok_v (.d (.bool (!r11))) rfl rfl ?_
      refine ok_nil ?_
      obtain rfl := someE h6
      exact ⟨_, _, _, _, rfl⟩
    · refine ok_sg rfl ?_
      refine ok_sg rfl ?_
      refine ok_sg rfl ?_
      refine ok_v (.d (.bool false)) rfl rfl ?_
      refine ok_nil ?_
      obtain rfl := someE h6
      exact ⟨_, _, _, _, rfl⟩
  · rintro _ ⟨j7, j8, j9, j10, rfl⟩
    obtain ⟨c13, h14, h0⟩ := bindE h0
    refine ok_cutQ 5 (fun A st => ∃ (j15 j16 j17 j18 : V), st = A [(16, .d (.bool c13)), (15, j18), (14, j17), (13, j16), (12, j15)]) ?_ ?_
    · refine ok_mvB rfl rfl h14 (fun h14 => ?_) (fun h14 => ?_)
      · refine ok_sg rfl ?_
        refine ok_sg rfl ?_
        refine ok_sg rfl ?_
        refine ok_v (.d (.bool true)) rfl rfl ?_
        refine ok_nil ?_
        obtain rfl := someE h14
        exact ⟨_, _, _, _, rfl⟩
      · refine ok_mv rfl rfl ?_
        refine ok_mv rfl rfl ?_
        refine ok_v (.d (.bool (decide (p0 < p1)))) rfl rfl ?_
        refine ok_v (.d (.bool (decide (p0 < p1)))) rfl rfl ?_
        refine ok_nil ?_
        obtain rfl := someE h14
        exact ⟨_, _, _, _, rfl⟩
    · rintro _ ⟨j15, j16, j17, j18, rfl⟩
      refine ok_as rfl rfl ?_
      refine ok_nil ?_
      refine rk_ret ?_
      obtain rfl := someE h0
      exact finD (.inr rfl) (v := .d (.bool c13)) rfl rfl (.refl _)

theorem slices_IsSorted_int_int_ok (p0 : List Int) (r : Bool) (h0 : slices_IsSorted_int_int p0 = some r) : Pure Try.prog tab 38 [.sl 1 (p0.map (eI .i64))] (.bool r) := by
  unfold slices_IsSorted_int_int at h0
  refine pure_of_run Try.func38 rfl (by kernel_rfl) (by kernel_rfl) rfl ?_
  refine rk_seq ?_
  refine rk_region ?_
  refine ok_as rfl rfl ?_
  refine ok_nil ?_
  refine rk_seq ?_
  refine rk_seq ?_
  refine rk_region ?_
  refine ok_mv rfl rfl ?_
  refine ok_ln rfl rfl rfl rfl ?_
  refine ok_v (.d (.int .i64 (w64 ((p0.length : Int) - 1)))) rfl rfl ?_
  refine ok_as rfl rfl ?_
  refine ok_nil ?_
  obtain ⟨m28, h29, h0⟩ := bindE h0
  refine rk_blockcut (fun b30 => .inl b30 = m28) (fun (b30 : Unit) => ⟨[], [], 0⟩) (by simp) ?_ ?_
  · refine rk_loopF (slices_IsSorted_int_int_L1 p0) (fun (a27 : Int) => ⟨[(0, .d (.sl 1 (p0.map (eI .i64)))), (3, .d (.int .i64 a27))], [], 0⟩) (w64 ((p0.length : Int) - 1)) m28 h29 (wkE [] [] [] rfl ⟨⟨_, rfl, .d (.refl _)⟩, ⟨_, rfl, .d (.refl _)⟩, trivial⟩ trivial) ?_
    intro a27 y25 h26
    unfold slices_IsSorted_int_int_L1 at h26
    refine rk_seq ?_
    refine rk_seq ?_
    refine rk_region ?_
    refine ok_mv rfl rfl ?_
    refine ok_v (.d (.bool (decide (a27 > 0)))) rfl rfl ?_
    refine ok_nil ?_
    refine rk_condH rfl h26 (fun _ h26 => ?_) (fun _ h26 => ?_)
    · refine rk_skip ?_
      refine rk_seq ?_
      refine rk_block ?_
      refine rk_seq ?_
      refine rk_regionD [(some [], []), (some [], []), (some [], []), (some [], []), (some [], []), (some [], []), (some [], []), (some [], []), (some [], []), (some [], [])] (by kernel_rfl) ?_
      refine ok_mv rfl rfl ?_
      refine ok_mv rfl rfl ?_
      obtain ⟨v37, h38, h26⟩ := bindE h26
      refine ok_ix (enc := (eI .i64)) h38 rfl rfl rfl rfl rfl rfl ?_
      refine ok_v (.d (.int .i64 v37)) rfl rfl ?_
      refine ok_mv rfl rfl ?_
      refine ok_mv rfl rfl ?_
      refine ok_v (.d (.int .i64 (w64 (a27 - 1)))) rfl rfl ?_
      obtain ⟨v39, h40, h26⟩ := bindE h26
      refine ok_ix (enc := (eI .i64)) h40 rfl rfl rfl rfl rfl rfl ?_
      refine ok_v (.d (.int .i64 v39)) rfl rfl ?_
      obtain ⟨r41, h42, h26⟩ := bindE h26
      refine ok_pc [.d (.int .i64 v37), .d (.int .i64 v39)] (cmp_Less_int_ok v37 v39 r41 h42) rfl rfl rfl (.inl rfl) ?_
      refine ok_nil ?_
      refine rk_condH rfl h26 (fun _ h26 => ?_) (fun _ h26 => ?_)
      · refine rk_seq ?_
        refine rk_region ?_
        refine ok_as rfl rfl ?_
        refine ok_nil ?_
        refine rk_ret ?_
        refine ⟨_, (Option.some.inj h26).symm, fun hm => ?_⟩
        subst hm
        obtain rfl := someE h0
        exact finD (.inr rfl) (v := .d (.bool false)) rfl rfl (.refl _)
      · refine rk_skip ?_
        refine rk_nil ?_
        refine blk_nor ?_
        refine rk_region ?_
        refine ok_mv rfl rfl ?_
        refine ok_v (.d (.int .i64 (w64 (a27 - 1)))) rfl rfl ?_
        refine ok_as rfl rfl ?_
        refine ok_nil ?_
        refine rk_nil ?_
        exact ⟨_, (Option.some.inj h26).symm, wkE [] [] [] rfl ⟨⟨_, rfl, .d (.refl _)⟩, ⟨_, rfl, .d (.refl _)⟩, trivial⟩ trivial⟩
    · refine rk_exit ?_
      refine ⟨_, (Option.some.inj h26).symm, fun hm => ?_⟩
      subst hm
      exact ⟨_, rfl, wkE [] [] [] rfl trivial trivial⟩
  · intro b30 hb
    subst hb
    refine rk_seq ?_
    refine rk_region ?_
    refine ok_as rfl rfl ?_
    refine ok_nil ?_
    refine rk_ret ?_
    obtain rfl := someE h0
    exact finD (.inr rfl) (v := .d (.bool true)) rfl rfl (.refl _)

theorem split_At_ok (p0 : List Int) (p1 : Int) (r : Int × Int) (h0 : split_At p0 p1 = some r) : Pure Try.prog tab 20 [.sl 1 (p0.map (eI .i64)), .int .i64 p1] (.tup [.int .i64 r.1, .int .i64 r.2]) := by
  unfold split_At at h0
  refine pure_of_run Try.func20 rfl (by kernel_rfl) (by kernel_rfl) rfl ?_
  refine rk_seq ?_
  refine rk_region ?_
  refine ok_as rfl rfl ?_
  refine ok_as rfl rfl ?_
  refine ok_nil ?_
  refine rk_seq ?_
  refine rk_seq ?_
  refine rk_region ?_
  refine ok_mv rfl rfl ?_
  refine ok_ln rfl rfl rfl rfl ?_
  refine ok_v (.d (.bool ((p0.length : Int) == 0))) rfl rfl ?_
  obtain ⟨c3, h4, h0⟩ := bindE h0
  refine ok_cutQ 6 (fun A st => ∃ (j5 j6 j7 j8 j9 : V), st = A [(15, .d (.bool c3)), (14, j9), (13, j8), (12, j7), (11, j6), (10, j5)]) ?_ ?_
  · refine ok_mvB rfl rfl h4 (fun h4 => ?_) (fun h4 => ?_)
    · refine ok_sg rfl ?_
      refine ok_sg rfl ?_
      refine ok_sg rfl ?_
      refine ok_sg rfl ?_
      refine ok_v (.d (.bool true)) rfl rfl ?_
      refine ok_nil ?_
      obtain rfl := someE h4
      exact ⟨_, _, _, _, _, rfl⟩
    · refine ok_mv rfl rfl ?_
      obtain ⟨v10, h11, h4⟩ := bindE h4
      refine ok_ix (enc := (eI .i64)) h11 rfl rfl rfl rfl rfl rfl ?_
      refine ok_v (.d (.int .i64 v10)) rfl rfl ?_
      refine ok_v (.d (.bool (v10 != 0))) rfl rfl ?_
      refine ok_v (.d (.bool (v10 != 0))) rfl rfl ?_
      refine ok_nil ?_
      obtain rfl := someE h4
      exact ⟨_, _, _, _, _, rfl⟩
  · rintro _ ⟨j5, j6, j7, j8, j9, rfl⟩
    obtain ⟨c14, h15, h0⟩ := bindE h0
    refine ok_cutQ 5 (fun A st => ∃ (j16 j17 j18 j19 : V), st = A [(20, .d (.bool c14)), (19, j19), (18, j18), (17, j17), (16, j16)]) ?_ ?_
    · refine ok_mvB rfl rfl h15 (fun h15 => ?_) (fun h15 => ?_)
      · refine ok_sg rfl ?_
        refine ok_sg rfl ?_
        refine ok_sg rfl ?_
        refine ok_v (.d (.bool true)) rfl rfl ?_
        refine ok_nil ?_
        obtain rfl := someE h15
        exact ⟨_, _, _, _, rfl⟩
      · refine ok_mv rfl rfl ?_
        obtain ⟨r20, h21, h15⟩ := bindE h15
        refine ok_pc [.d (.sl 1 (p0.map (eI .i64)))] (slices_IsSorted_int_int_ok p0 r20 h21) rfl rfl rfl (.inl rfl) ?_
        refine ok_v (.d (.bool (!r20))) rfl rfl ?_
        refine ok_v (.d (.bool (!r20))) rfl rfl ?_
        refine ok_nil ?_
        obtain rfl := someE h15
        exact ⟨_, _, _, _, rfl⟩
    · rintro _ ⟨j16, j17, j18, j19, rfl⟩
      refine ok_nil ?_
      refine rk_condH rfl h0 (fun _ h0 => ?_) (fun _ h0 => ?_)
      · refine rk_seq ?_
        refine rk_region ?_
        refine ok_as rfl rfl ?_
        refine ok_as rfl rfl ?_
        refine ok_nil ?_
        refine rk_ret ?_
        obtain rfl := someE h0
        exact finD (.inr rfl) (v := .d (.tup [.int .i64 0, .int .i64 8])) rfl rfl (.refl _)
      · refine rk_skip ?_
        refine rk_seq ?_
        refine rk_seq ?_
        refine rk_region ?_
        refine ok_mv rfl rfl ?_
        obtain ⟨z22, h23, h0⟩ := bindE h0
        refine ok_slc (enc := (eI .i64)) h23 rfl rfl rfl rfl rfl (bound_v rfl) (fun _ => rfl) ?_
        refine ok_ln rfl rfl rfl rfl ?_
        refine ok_mv rfl rfl ?_
        refine ok_nil ?_
        obtain ⟨m91, h92, h0⟩ := bindE h0
        refine rk_blockcut (fun b93 => .inl b93 = m91) (fun (b93 : Unit) => ⟨[], [], 0⟩) (by simp) ?_ ?_
        · refine rk_loopF (split_At_L1 z22 p0 p1) (fun (a90 : Int) => ⟨[(0, .d (.sl 1 (p0.map (eI .i64)))), (1, .d (.int .i64 p1)), (23, .d (.int .i64 (z22.length : Int))), (24, .d (.int .i64 a90))], [], 0⟩) 0 m91 h92 (wkE [] [] [] rfl ⟨⟨_, rfl, .d (.refl _)⟩, ⟨_, rfl, .d (.refl _)⟩, ⟨_, rfl, .d (.refl _)⟩, ⟨_, rfl, .d (.refl _)⟩, trivial⟩ trivial) ?_
          intro a90 y88 h89
          unfold split_At_L1 at h89
          refine rk_seq ?_
          refine rk_region ?_
          refine ok_v (.d (.bool (decide (a90 < (z22.length : Int))))) rfl rfl ?_
          refine ok_nil ?_
          refine rk_seq ?_
          refine rk_condH rfl h89 (fun _ h89 => ?_) (fun _ h89 => ?_)
          · refine rk_skip ?_
            refine rk_seq ?_
            refine rk_block ?_
            refine rk_seq ?_
            refine rk_region ?_
            refine ok_mv rfl rfl ?_
            refine ok_as rfl rfl ?_
            refine ok_nil ?_
            refine rk_seq ?_
            refine rk_region ?_
            refine ok_mv rfl rfl ?_
            refine ok_mv rfl rfl ?_
            obtain ⟨v110, h111, h89⟩ := bindE h89
            refine ok_ix (enc := (eI .i64)) h111 rfl rfl rfl rfl rfl rfl ?_
            refine ok_v (.d (.int .i64 v110)) rfl rfl ?_
            refine ok_mv rfl rfl ?_
            refine ok_v (.d (.bool (decide (v110 ≤ p1)))) rfl rfl ?_
            obtain ⟨c114, h115, h89⟩ := bindE h89
            refine ok_cutQ 9 (fun A st => ∃ (j116 j117 j118 j119 j120 j121 j122 j123 : V), st = A [(41, .d (.bool c114)), (40, j123), (39, j122), (38, j121), (37, j120), (36, j119), (35, j118), (34, j117), (33, j116)]) ?_ ?_
            · refine ok_mvB rfl rfl h115 (fun h115 => ?_) (fun h115 => ?_)
              · refine ok_mv rfl rfl ?_
                refine ok_mv rfl rfl ?_
                refine ok_mv rfl rfl ?_
                refine ok_v (.d (.int .i64 (w64 (a90 + 1)))) rfl rfl ?_
                obtain ⟨v124, h125, h115⟩ := bindE h115
                refine ok_ix (enc := (eI .i64)) h125 rfl rfl rfl rfl rfl rfl ?_
                refine ok_v (.d (.int .i64 v124)) rfl rfl ?_
                refine ok_v (.d (.bool (decide (p1 < v124)))) rfl rfl ?_
                refine ok_v (.d (.bool (decide (p1 < v124)))) rfl rfl ?_
                refine ok_nil ?_
                obtain rfl := someE h115
                exact ⟨_, _, _, _, _, _, _, _, rfl⟩
              · refine ok_sg rfl ?_
                refine ok_sg rfl ?_
                refine ok_sg rfl ?_
                refine ok_sg rfl ?_
                refine ok_sg rfl ?_
                refine ok_sg rfl ?_
                refine ok_sg rfl ?_
                refine ok_v (.d (.bool false)) rfl rfl ?_
                refine ok_nil ?_
                obtain rfl := someE h115
                exact ⟨_, _, _, _, _, _, _, _, rfl⟩
            · rintro _ ⟨j116, j117, j118, j119, j120, j121, j122, j123, rfl⟩
              refine ok_nil ?_
              refine rk_condH rfl h89 (fun _ h89 => ?_) (fun _ h89 => ?_)
              · refine rk_seq ?_
                refine rk_region ?_
                refine ok_mv rfl rfl ?_
                refine ok_as rfl rfl ?_
                refine ok_as rfl rfl ?_
                refine ok_nil ?_
                refine rk_ret ?_
                refine ⟨_, (Option.some.inj h89).symm, fun hm => ?_⟩
                subst hm
                obtain rfl := someE h0
                exact finD (.inr rfl) (v := .d (.tup [.int .i64 a90, .int .i64 0])) rfl rfl (.refl _)
              · refine rk_skip ?_
                refine rk_nil ?_
                refine blk_nor ?_
                refine rk_region ?_
                refine ok_v (.d (.int .i64 (w64 (a90 + 1)))) rfl rfl ?_
                refine ok_mv rfl rfl ?_
                refine ok_nil ?_
                refine rk_nil ?_
                exact ⟨_, (Option.some.inj h89).symm, wkE [] [] [] rfl ⟨⟨_, rfl, .d (.refl _)⟩, ⟨_, rfl, .d (.refl _)⟩, ⟨_, rfl, .d (.refl _)⟩, ⟨_, rfl, .d (.refl _)⟩, trivial⟩ trivial⟩
          · refine rk_exit ?_
            refine ⟨_, (Option.some.inj h89).symm, fun hm => ?_⟩
            subst hm
            exact ⟨_, rfl, wkE [] [] [] rfl trivial trivial⟩
        · intro b93 hb
          subst hb
          refine rk_seq ?_
          refine rk_region ?_
          refine ok_as rfl rfl ?_
          refine ok_as rfl rfl ?_
          refine ok_nil ?_
          refine rk_ret ?_
          obtain rfl := someE h0
          exact finD (.inr rfl) (v := .d (.tup [.int .i64 0, .int .i64 2])) rfl rfl (.refl _)

theorem frame_fine_ok (p0 : api_Vec) (p1 : Int) (r : Bool) (h0 : frame_fine p0 p1 = some r) : Pure Try.prog tab 56 [.agg [.int .i64 p0.X, .int .i64 p0.Y, .int .i64 p0.Z], .int .i64 p1] (.bool r) := by
  unfold frame_fine at h0
  refine pure_of_run Try.func56 rfl (by kernel_rfl) (by kernel_rfl) rfl ?_
  refine rk_seq ?_
  refine rk_region ?_
  refine ok_new (.ref 0 3 0 0) (.dat 3 [[.int .i64 p0.X, .int .i64 p0.Y, .int .i64 p0.Z]]) rfl rfl ?_
  refine ok_as rfl rfl ?_
  refine ok_nil ?_
  refine rk_seq ?_
  refine rk_region ?_
  refine ok_v (.ref 0 3 0 0) rfl rfl ?_
  refine ok_v (.d (.int .i64 p0.X)) rfl rfl ?_
  refine ok_v (.ref 0 3 0 1) rfl rfl ?_
  refine ok_v (.d (.int .i64 p0.Y)) rfl rfl ?_
  refine ok_v (.ref 0 3 0 2) rfl rfl ?_
  refine ok_v (.d (.int .i64 p0.Z)) rfl rfl ?_
  refine ok_min (r := min (min p0.X p0.Y) p0.Z) rfl rfl (by simp only [minI_min]; rfl) ?_
  refine ok_mv rfl rfl ?_
  refine ok_v (.d (.bool (decide ((min (min p0.X p0.Y) p0.Z) ≥ p1)))) rfl rfl ?_
  obtain ⟨c1, h2, h0⟩ := bindE h0
  refine ok_cutQ 10 (fun A st => ∃ (j3 j4 j5 j6 j7 j8 j9 j10 j11 : V), st = A [(23, .d (.bool c1)), (22, j11), (21, j10), (20, j9), (19, j8), (18, j7), (17, j6), (16, j5), (15, j4), (14, j3)]) ?_ ?_
  · refine ok_mvB rfl rfl h2 (fun h2 => ?_) (fun h2 => ?_)
    · refine ok_v (.ref 0 3 0 0) rfl rfl ?_
      refine ok_v (.d (.int .i64 p0.X)) rfl rfl ?_
      refine ok_v (.ref 0 3 0 1) rfl rfl ?_
      refine ok_v (.d (.int .i64 p0.Y)) rfl rfl ?_
      refine ok_v (.ref 0 3 0 2) rfl rfl ?_
      refine ok_v (.d (.int .i64 p0.Z)) rfl rfl ?_
      refine ok_max (r := max (max p0.X p0.Y) p0.Z) rfl rfl (by simp only [minI_max]; rfl) ?_
      refine ok_v (.d (.bool (decide ((max (max p0.X p0.Y) p0.Z) ≤ 1000000)))) rfl rfl ?_
      refine ok_v (.d (.bool (decide ((max (max p0.X p0.Y) p0.Z) ≤ 1000000)))) rfl rfl ?_
      refine ok_nil ?_
      obtain rfl := someE h2
      exact ⟨_, _, _, _, _, _, _, _, _, rfl⟩
    · refine ok_sg rfl ?_
      refine ok_sg rfl ?_
      refine ok_sg rfl ?_
      refine ok_sg rfl ?_
      refine ok_sg rfl ?_
      refine ok_sg rfl ?_
      refine ok_sg rfl ?_
      refine ok_sg rfl ?_
      refine ok_v (.d (.bool false)) rfl rfl ?_
      refine ok_nil ?_
      obtain rfl := someE h2
      exact ⟨_, _, _, _, _, _, _, _, _, rfl⟩
  · rintro _ ⟨j3, j4, j5, j6, j7, j8, j9, j10, j11, rfl⟩
    refine ok_as rfl rfl ?_
    refine ok_nil ?_
    refine rk_ret ?_
    obtain rfl := someE h0
    exact finD (.inr rfl) (v := .d (.bool c1)) rfl rfl (.refl _)

theorem frame_Check_ok (p0 : api_Frame) (r : Int) (h0 : frame_Check p0 = some r) : Pure Try.prog tab 55 [.agg [.int .u8 p0.Turn, .int .i64 p0.At.X, .int .i64 p0.At.Y, .int .i64 p0.At.Z]] (.int .i64 r) := by
  unfold frame_Check at h0
  refine pure_of_run Try.func55 rfl (by kernel_rfl) (by kernel_rfl) rfl ?_
  refine rk_seq ?_
  refine rk_region ?_
  refine ok_new (.ref 0 4 0 0) (.dat 4 [[.int .u8 p0.Turn, .int .i64 p0.At.X, .int .i64 p0.At.Y, .int .i64 p0.At.Z]]) rfl rfl ?_
  refine ok_as rfl rfl ?_
  refine ok_nil ?_
  refine rk_seq ?_
  refine rk_seq ?_
  refine rk_region ?_
  refine ok_v (.ref 0 4 0 0) rfl rfl ?_
  refine ok_v (.d (.int .u8 p0.Turn)) rfl rfl ?_
  refine ok_v (.d (.bool (decide (p0.Turn ≥ 24)))) rfl rfl ?_
  obtain ⟨c3, h4, h0⟩ := bindE h0
  refine ok_cutQ 6 (fun A st => ∃ (j5 j6 j7 j8 j9 : V), st = A [(11, .d (.bool c3)), (10, j9), (9, j8), (8, j7), (7, j6), (6, j5)]) ?_ ?_
  · refine ok_mvB rfl rfl h4 (fun h4 => ?_) (fun h4 => ?_)
    · refine ok_sg rfl ?_
      refine ok_sg rfl ?_
      refine ok_sg rfl ?_
      refine ok_sg rfl ?_
      refine ok_v (.d (.bool true)) rfl rfl ?_
      refine ok_nil ?_
      obtain rfl := someE h4
      exact ⟨_, _, _, _, _, rfl⟩
    · refine ok_v (.ref 0 4 0 1) rfl rfl ?_
      refine ok_v (.d (.agg [.int .i64 p0.At.X, .int .i64 p0.At.Y, .int .i64 p0.At.Z])) rfl rfl ?_
      obtain ⟨r10, h11, h4⟩ := bindE h4
      refine ok_pc [.d (.agg [.int .i64 p0.At.X, .int .i64 p0.At.Y, .int .i64 p0.At.Z]), .d (.int .i64 (-1000000))] (frame_fine_ok p0.At (-1000000) r10 h11) rfl rfl rfl (.inl rfl) ?_
      refine ok_v (.d (.bool (!r10))) rfl rfl ?_
      refine ok_v (.d (.bool (!r10))) rfl rfl ?_
      refine ok_nil ?_
      obtain rfl := someE h4
      exact ⟨_, _, _, _, _, rfl⟩
  · rintro _ ⟨j5, j6, j7, j8, j9, rfl⟩
    refine ok_nil ?_
    refine rk_condH rfl h0 (fun _ h0 => ?_) (fun _ h0 => ?_)
    · refine rk_seq ?_
      refine rk_region ?_
      refine ok_as rfl rfl ?_
      refine ok_nil ?_
      refine rk_ret ?_
      obtain rfl := someE h0
      exact finD (.inr rfl) (v := .d (.int .i64 8)) rfl rfl (.refl _)
    · refine rk_skip ?_
      refine rk_seq ?_
      refine rk_region ?_
      refine ok_as rfl rfl ?_
      refine ok_nil ?_
      refine rk_ret ?_
      obtain rfl := someE h0
      exact finD (.inr rfl) (v := .d (.int .i64 0)) rfl rfl (.refl _)

theorem frame_checked_ok (p0 : api_Scope) (r : Int) (h0 : frame_checked p0 = some r) : Pure Try.prog tab 54 [.agg [.int .u8 p0.Frame.Turn, .int .i64 p0.Frame.At.X, .int .i64 p0.Frame.At.Y, .int .i64 p0.Frame.At.Z, .int .i64 p0.Size.X, .int .i64 p0.Size.Y, .int .i64 p0.Size.Z]] (.int .i64 r) := by
  unfold frame_checked at h0
  refine pure_of_run Try.func54 rfl (by kernel_rfl) (by kernel_rfl) rfl ?_
  refine rk_seq ?_
  refine rk_region ?_
  refine ok_new (.ref 0 7 0 0) (.dat 7 [[.int .u8 p0.Frame.Turn, .int .i64 p0.Frame.At.X, .int .i64 p0.Frame.At.Y, .int .i64 p0.Frame.At.Z, .int .i64 p0.Size.X, .int .i64 p0.Size.Y, .int .i64 p0.Size.Z]]) rfl rfl ?_
  refine ok_as rfl rfl ?_
  refine ok_nil ?_
  refine rk_seq ?_
  refine rk_seq ?_
  refine rk_region ?_
  refine ok_v (.ref 0 7 0 0) rfl rfl ?_
  refine ok_v (.d (.agg [.int .u8 p0.Frame.Turn, .int .i64 p0.Frame.At.X, .int .i64 p0.Frame.At.Y, .int .i64 p0.Frame.At.Z])) rfl rfl ?_
  obtain ⟨r1, h2, h0⟩ := bindE h0
  refine ok_pc [.d (.agg [.int .u8 p0.Frame.Turn, .int .i64 p0.Frame.At.X, .int .i64 p0.Frame.At.Y, .int .i64 p0.Frame.At.Z])] (frame_Check_ok p0.Frame r1 h2) rfl rfl rfl (.inl rfl) ?_
  refine ok_v (.d (.bool (r1 != 0))) rfl rfl ?_
  obtain ⟨c5, h6, h0⟩ := bindE h0
  refine ok_cutQ 6 (fun A st => ∃ (j7 j8 j9 j10 j11 : V), st = A [(12, .d (.bool c5)), (11, j11), (10, j10), (9, j9), (8, j8), (7, j7)]) ?_ ?_
  · refine ok_mvB rfl rfl h6 (fun h6 => ?_) (fun h6 => ?_)
    · refine ok_sg rfl ?_
      refine ok_sg rfl ?_
      refine ok_sg rfl ?_
      refine ok_sg rfl ?_
      refine ok_v (.d (.bool true)) rfl rfl ?_
      refine ok_nil ?_
      obtain rfl := someE h6
      exact ⟨_, _, _, _, _, rfl⟩
    · refine ok_v (.ref 0 7 0 4) rfl rfl ?_
      refine ok_v (.d (.agg [.int .i64 p0.Size.X, .int .i64 p0.Size.Y, .int .i64 p0.Size.Z])) rfl rfl ?_
      obtain ⟨r12, h13, h6⟩ := bindE h6
      refine ok_pc [.d (.agg [.int .i64 p0.Size.X, .int .i64 p0.Size.Y, .int .i64 p0.Size.Z]), .d (.int .i64 0)] (frame_fine_ok p0.Size 0 r12 h13) rfl rfl rfl (.inl rfl) ?_
      refine ok_v (.d (.bool (!r12))) rfl rfl ?_
      refine ok_v (.d (.bool (!r12))) rfl rfl ?_
      refine ok_nil ?_
      obtain rfl := someE h6
      exact ⟨_, _, _, _, _, rfl⟩
  · rintro _ ⟨j7, j8, j9, j10, j11, rfl⟩
    refine ok_nil ?_
    refine rk_condH rfl h0 (fun _ h0 => ?_) (fun _ h0 => ?_)
    · refine rk_seq ?_
      refine rk_region ?_
      refine ok_as rfl rfl ?_
      refine ok_nil ?_
      refine rk_ret ?_
      obtain rfl := someE h0
      exact finD (.inr rfl) (v := .d (.int .i64 8)) rfl rfl (.refl _)
    · refine rk_skip ?_
      refine rk_seq ?_
      refine rk_region ?_
      refine ok_as rfl rfl ?_
      refine ok_nil ?_
      refine rk_ret ?_
      obtain rfl := someE h0
      exact finD (.inr rfl) (v := .d (.int .i64 0)) rfl rfl (.refl _)

theorem frame_direction_ok (p0 : Int) (r : api_Vec) (h0 : frame_direction p0 = some r) : Pure Try.prog tab 77 [.int .u8 p0] (.agg [.int .i64 r.X, .int .i64 r.Y, .int .i64 r.Z]) := by
  unfold frame_direction at h0
  refine pure_of_run Try.func77 rfl (by kernel_rfl) (by kernel_rfl) rfl ?_
  refine rk_seq ?_
  refine rk_region ?_
  refine ok_alloc rfl rfl ?_
  refine ok_nil ?_
  refine rk_seq ?_
  refine rk_region ?_
  refine ok_mv rfl rfl ?_
  refine ok_v (.d (.int .u8 (Int.tmod p0 2))) rfl rfl ?_
  refine ok_v (.d (.int .i64 (w64 (Int.tmod p0 2)))) rfl rfl ?_
  refine ok_v (.d (.int .i64 (w64 (2 * (w64 (Int.tmod p0 2)))))) rfl rfl ?_
  refine ok_v (.d (.int .i64 (w64 (1 - (w64 (2 * (w64 (Int.tmod p0 2)))))))) rfl rfl ?_
  refine ok_as rfl rfl ?_
  refine ok_nil ?_
  refine rk_seq ?_
  refine rk_seq ?_
  refine rk_region ?_
  refine ok_mv rfl rfl ?_
  refine ok_v (.d (.int .u8 (IntKind.wrap .u8 (Int.tdiv p0 2)))) rfl rfl ?_
  refine ok_nil ?_
  refine rk_block ?_
  refine rk_seq ?_
  refine rk_region ?_
  refine ok_v (.d (.bool ((IntKind.wrap .u8 (Int.tdiv p0 2)) == 0))) rfl rfl ?_
  refine ok_as rfl rfl ?_
  refine ok_nil ?_
  refine rk_condH rfl h0 (fun _ h0 => ?_) (fun _ h0 => ?_)
  · refine rk_seq ?_
    refine rk_region ?_
    refine ok_mv rfl rfl ?_
    refine ok_v (.d (.agg [.int .i64 (w64 (1 - (w64 (2 * (w64 (Int.tmod p0 2)))))), .int .i64 0, .int .i64 0])) rfl rfl ?_
    refine ok_sto 0 (.dat 3 [[.int .i64 (w64 (1 - (w64 (2 * (w64 (Int.tmod p0 2)))))), .int .i64 0, .int .i64 0]]) rfl rfl ?_
    refine ok_nil ?_
    refine rk_ret ?_
    obtain rfl := someE h0
    exact finD (.inr rfl) (v := .d (.agg [.int .i64 (w64 (1 - (w64 (2 * (w64 (Int.tmod p0 2)))))), .int .i64 0, .int .i64 0])) rfl rfl (.refl _)
  · refine rk_seq ?_
    refine rk_region ?_
    refine ok_v (.d (.bool ((IntKind.wrap .u8 (Int.tdiv p0 2)) == 1))) rfl rfl ?_
    refine ok_as rfl rfl ?_
    refine ok_nil ?_
    refine rk_condH rfl h0 (fun _ h0 => ?_) (fun _ h0 => ?_)
    · refine rk_seq ?_
      refine rk_region ?_
      refine ok_mv rfl rfl ?_
      refine ok_v (.d (.agg [.int .i64 0, .int .i64 (w64 (1 - (w64 (2 * (w64 (Int.tmod p0 2)))))), .int .i64 0])) rfl rfl ?_
      refine ok_sto 0 (.dat 3 [[.int .i64 0, .int .i64 (w64 (1 - (w64 (2 * (w64 (Int.tmod p0 2)))))), .int .i64 0]]) rfl rfl ?_
      refine ok_nil ?_
      refine rk_ret ?_
      obtain rfl := someE h0
      exact finD (.inr rfl) (v := .d (.agg [.int .i64 0, .int .i64 (w64 (1 - (w64 (2 * (w64 (Int.tmod p0 2)))))), .int .i64 0])) rfl rfl (.refl _)
    · refine rk_skip ?_
      refine rk_nil ?_
      refine blk_nor ?_
      refine rk_seq ?_
      refine rk_region ?_
      refine ok_mv rfl rfl ?_
      refine ok_v (.d (.agg [.int .i64 0, .int .i64 0, .int .i64 (w64 (1 - (w64 (2 * (w64 (Int.tmod p0 2))))))])) rfl rfl ?_
      refine ok_sto 0 (.dat 3 [[.int .i64 0, .int .i64 0, .int .i64 (w64 (1 - (w64 (2 * (w64 (Int.tmod p0 2))))))]]) rfl rfl ?_
      refine ok_nil ?_
      refine rk_ret ?_
      obtain rfl := someE h0
      exact finD (.inr rfl) (v := .d (.agg [.int .i64 0, .int .i64 0, .int .i64 (w64 (1 - (w64 (2 * (w64 (Int.tmod p0 2))))))])) rfl rfl (.refl _)

theorem frame_cross_ok (p0 : api_Vec) (p1 : api_Vec) (r : api_Vec) (h0 : frame_cross p0 p1 = some r) : Pure Try.prog tab 78 [.agg [.int .i64 p0.X, .int .i64 p0.Y, .int .i64 p0.Z], .agg [.int .i64 p1.X, .int .i64 p1.Y, .int .i64 p1.Z]] (.agg [.int .i64 r.X, .int .i64 r.Y, .int .i64 r.Z]) := by
  unfold frame_cross at h0
  refine pure_of_run Try.func78 rfl (by kernel_rfl) (by kernel_rfl) rfl ?_
  refine rk_seq ?_
  refine rk_region ?_
  refine ok_new (.ref 0 3 0 0) (.dat 3 [[.int .i64 p0.X, .int .i64 p0.Y, .int .i64 p0.Z]]) rfl rfl ?_
  refine ok_new (.ref 1 3 0 0) (.dat 3 [[.int .i64 p1.X, .int .i64 p1.Y, .int .i64 p1.Z]]) rfl rfl ?_
  refine ok_alloc rfl rfl ?_
  refine ok_nil ?_
  refine rk_seq ?_
  refine rk_region ?_
  refine ok_v (.ref 0 3 0 1) rfl rfl ?_
  refine ok_v (.d (.int .i64 p0.Y)) rfl rfl ?_
  refine ok_v (.ref 1 3 0 2) rfl rfl ?_
  refine ok_v (.d (.int .i64 p1.Z)) rfl rfl ?_
  refine ok_v (.d (.int .i64 (w64 (p0.Y * p1.Z)))) rfl rfl ?_
  refine ok_v (.ref 0 3 0 2) rfl rfl ?_
  refine ok_v (.d (.int .i64 p0.Z)) rfl rfl ?_
  refine ok_v (.ref 1 3 0 1) rfl rfl ?_
  refine ok_v (.d (.int .i64 p1.Y)) rfl rfl ?_
  refine ok_v (.d (.int .i64 (w64 (p0.Z * p1.Y)))) rfl rfl ?_
  refine ok_v (.d (.int .i64 (w64 ((w64 (p0.Y * p1.Z)) - (w64 (p0.Z * p1.Y)))))) rfl rfl ?_
  refine ok_v (.ref 0 3 0 2) rfl rfl ?_
  refine ok_v (.d (.int .i64 p0.Z)) rfl rfl ?_
  refine ok_v (.ref 1 3 0 0) rfl rfl ?_
  refine ok_v (.d (.int .i64 p1.X)) rfl rfl ?_
  refine ok_v (.d (.int .i64 (w64 (p0.Z * p1.X)))) rfl rfl ?_
  refine ok_v (.ref 0 3 0 0) rfl rfl ?_
  refine ok_v (.d (.int .i64 p0.X)) rfl rfl ?_
  refine ok_v (.ref 1 3 0 2) rfl rfl ?_
  refine ok_v (.d (.int .i64 p1.Z)) rfl rfl ?_
  refine ok_v (.d (.int .i64 (w64 (p0.X * p1.Z)))) rfl rfl ?_
  refine ok_v (.d (.int .i64 (w64 ((w64 (p0.Z * p1.X)) - (w64 (p0.X * p1.Z)))))) rfl rfl ?_
  refine ok_v (.ref 0 3 0 0) rfl rfl ?_
  refine ok_v (.d (.int .i64 p0.X)) rfl rfl ?_
  refine ok_v (.ref 1 3 0 1) rfl rfl ?_
  refine ok_v (.d (.int .i64 p1.Y)) rfl rfl ?_
  refine ok_v (.d (.int .i64 (w64 (p0.X * p1.Y)))) rfl rfl ?_
  refine ok_v (.ref 0 3 0 1) rfl rfl ?_
  refine ok_v (.d (.int .i64 p0.Y)) rfl rfl ?_
  refine ok_v (.ref 1 3 0 0) rfl rfl ?_
  refine ok_v (.d (.int .i64 p1.X)) rfl rfl ?_
  refine ok_v (.d (.int .i64 (w64 (p0.Y * p1.X)))) rfl rfl ?_
  refine ok_v (.d (.int .i64 (w64 ((w64 (p0.X * p1.Y)) - (w64 (p0.Y * p1.X)))))) rfl rfl ?_
  refine ok_v (.d (.agg [.int .i64 (w64 ((w64 (p0.Y * p1.Z)) - (w64 (p0.Z * p1.Y)))), .int .i64 (w64 ((w64 (p0.Z * p1.X)) - (w64 (p0.X * p1.Z)))), .int .i64 (w64 ((w64 (p0.X * p1.Y)) - (w64 (p0.Y * p1.X))))])) rfl rfl ?_
  refine ok_sto 2 (.dat 3 [[.int .i64 (w64 ((w64 (p0.Y * p1.Z)) - (w64 (p0.Z * p1.Y)))), .int .i64 (w64 ((w64 (p0.Z * p1.X)) - (w64 (p0.X * p1.Z)))), .int .i64 (w64 ((w64 (p0.X * p1.Y)) - (w64 (p0.Y * p1.X))))]]) rfl rfl ?_
  refine ok_nil ?_
  refine rk_ret ?_
  obtain rfl := someE h0
  exact finD (.inr rfl) (v := .d (.agg [.int .i64 (w64 ((w64 (p0.Y * p1.Z)) - (w64 (p0.Z * p1.Y)))), .int .i64 (w64 ((w64 (p0.Z * p1.X)) - (w64 (p0.X * p1.Z)))), .int .i64 (w64 ((w64 (p0.X * p1.Y)) - (w64 (p0.Y * p1.X))))])) rfl rfl (.refl _)

theorem frame_axes_ok (p0 : Int) (r : (api_Vec × api_Vec × api_Vec)) (h0 : frame_axes p0 = some r) : Pure Try.prog tab 73 [.int .u8 p0] (.agg [.int .i64 r.1.X, .int .i64 r.1.Y, .int .i64 r.1.Z, .int .i64 r.2.1.X, .int .i64 r.2.1.Y, .int .i64 r.2.1.Z, .int .i64 r.2.2.X, .int .i64 r.2.2.Y, .int .i64 r.2.2.Z]) := by
  unfold frame_axes at h0
  refine pure_of_run Try.func73 rfl (by kernel_rfl) (by kernel_rfl) rfl ?_
  refine rk_seq ?_
  refine rk_region ?_
  refine ok_alloc rfl rfl ?_
  refine ok_nil ?_
  refine rk_seq ?_
  refine rk_region ?_
  refine ok_mv rfl rfl ?_
  refine ok_v (.d (.int .u8 (IntKind.wrap .u8 (Int.tdiv p0 4)))) rfl rfl ?_
  refine ok_as rfl rfl ?_
  refine ok_nil ?_
  refine rk_seq ?_
  refine rk_region ?_
  refine ok_mv rfl rfl ?_
  refine ok_v (.d (.int .u8 (Int.tmod p0 4))) rfl rfl ?_
  refine ok_as rfl rfl ?_
  refine ok_nil ?_
  refine rk_seq ?_
  refine rk_seq ?_
  refine rk_region ?_
  refine ok_mv rfl rfl ?_
  refine ok_mv rfl rfl ?_
  refine ok_v (.d (.int .u8 (IntKind.wrap .u8 (Int.tdiv (IntKind.wrap .u8 (Int.tdiv p0 4)) 2)))) rfl rfl ?_
  refine ok_v (.d (.int .u8 (IntKind.wrap .u8 ((IntKind.wrap .u8 (Int.tdiv (IntKind.wrap .u8 (Int.tdiv p0 4)) 2)) * 2)))) rfl rfl ?_
  refine ok_v (.d (.bool (decide ((Int.tmod p0 4) ≥ (IntKind.wrap .u8 ((IntKind.wrap .u8 (Int.tdiv (IntKind.wrap .u8 (Int.tdiv p0 4)) 2)) * 2)))))) rfl rfl ?_
  refine ok_nil ?_
  obtain ⟨m2, h1, h0⟩ := bindE h0
  refine rk_cut (fun b3 => b3 = m2) (fun (b3 : Int) => ⟨[(2, .ref 0 9 0 0), (3, .d (.int .u8 (IntKind.wrap .u8 (Int.tdiv p0 4)))), (4, .d (.int .u8 b3))], [(0, .dat 9 [[.int .i64 0, .int .i64 0, .int .i64 0, .int .i64 0, .int .i64 0, .int .i64 0, .int .i64 0, .int .i64 0, .int .i64 0]])], 1⟩) (by simp) ?_ ?_
  · refine rk_condH rfl h1 (fun _ h1 => ?_) (fun _ h1 => ?_)
    · refine rk_region ?_
      refine ok_mv rfl rfl ?_
      refine ok_v (.d (.int .u8 (IntKind.wrap .u8 ((Int.tmod p0 4) + 2)))) rfl rfl ?_
      refine ok_as rfl rfl ?_
      refine ok_nil ?_
      refine rk_nil ?_
      obtain rfl := someE h1
      exact ⟨_, rfl, wkE [(0, 0)] [] [] rfl ⟨⟨_, rfl, .ref rfl (by decide) (ltd rfl)⟩, ⟨_, rfl, .d (.refl _)⟩, ⟨_, rfl, .d (.refl _)⟩, trivial⟩ ⟨⟨ltd rfl, .inr ⟨by decide, _, rfl, .dat _ _⟩⟩, trivial⟩⟩
    · refine rk_skip ?_
      refine rk_nil ?_
      obtain rfl := someE h1
      exact ⟨_, rfl, wkE [(0, 0)] [] [] rfl ⟨⟨_, rfl, .ref rfl (by decide) (ltd rfl)⟩, ⟨_, rfl, .d (.refl _)⟩, ⟨_, rfl, .d (.refl _)⟩, trivial⟩ ⟨⟨ltd rfl, .inr ⟨by decide, _, rfl, .dat _ _⟩⟩, trivial⟩⟩
  · intro b3 hb
    subst hb
    refine rk_seq ?_
    refine rk_region ?_
    refine ok_mv rfl rfl ?_
    obtain ⟨r4, h5, h0⟩ := bindE h0
    refine ok_pc [.d (.int .u8 (IntKind.wrap .u8 (Int.tdiv p0 4)))] (frame_direction_ok (IntKind.wrap .u8 (Int.tdiv p0 4)) r4 h5) rfl rfl rfl (.inl rfl) ?_
    refine ok_mv rfl rfl ?_
    obtain ⟨r6, h7, h0⟩ := bindE h0
    refine ok_pc [.d (.int .u8 b3)] (frame_direction_ok b3 r6 h7) rfl rfl rfl (.inl rfl) ?_
    refine ok_alloc rfl rfl ?_
    refine ok_alloc rfl rfl ?_
    refine ok_sto 1 (.dat 3 [[.int .i64 r4.X, .int .i64 r4.Y, .int .i64 r4.Z]]) rfl rfl ?_
    refine ok_sto 2 (.dat 3 [[.int .i64 r6.X, .int .i64 r6.Y, .int .i64 r6.Z]]) rfl rfl ?_
    refine ok_nil ?_
    refine rk_seq ?_
    refine rk_regionD [(some [0], [0]), (some [], []), (some [], []), (some [2], []), (some [1], []), (some [2], []), (some [1], [])] (by kernel_rfl) ?_
    refine ok_v (.d (.agg [.int .i64 r4.X, .int .i64 r4.Y, .int .i64 r4.Z])) rfl rfl ?_
    refine ok_v (.d (.agg [.int .i64 r6.X, .int .i64 r6.Y, .int .i64 r6.Z])) rfl rfl ?_
    refine ok_v (.d (.agg [.int .i64 r4.X, .int .i64 r4.Y, .int .i64 r4.Z])) rfl rfl ?_
    refine ok_v (.d (.agg [.int .i64 r6.X, .int .i64 r6.Y, .int .i64 r6.Z])) rfl rfl ?_
    obtain ⟨r8, h9, h0⟩ := bindE h0
    refine ok_pc [.d (.agg [.int .i64 r4.X, .int .i64 r4.Y, .int .i64 r4.Z]), .d (.agg [.int .i64 r6.X, .int .i64 r6.Y, .int .i64 r6.Z])] (frame_cross_ok r4 r6 r8 h9) rfl rfl rfl (.inl rfl) ?_
    refine ok_v (.d (.agg [.int .i64 r4.X, .int .i64 r4.Y, .int .i64 r4.Z, .int .i64 r6.X, .int .i64 r6.Y, .int .i64 r6.Z, .int .i64 r8.X, .int .i64 r8.Y, .int .i64 r8.Z])) rfl rfl ?_
    refine ok_sto 0 (.dat 9 [[.int .i64 r4.X, .int .i64 r4.Y, .int .i64 r4.Z, .int .i64 r6.X, .int .i64 r6.Y, .int .i64 r6.Z, .int .i64 r8.X, .int .i64 r8.Y, .int .i64 r8.Z]]) rfl rfl ?_
    refine ok_nil ?_
    refine rk_ret ?_
    obtain rfl := someE h0
    exact finD (.inr rfl) (v := .d (.agg [.int .i64 r4.X, .int .i64 r4.Y, .int .i64 r4.Z, .int .i64 r6.X, .int .i64 r6.Y, .int .i64 r6.Z, .int .i64 r8.X, .int .i64 r8.Y, .int .i64 r8.Z])) rfl rfl (.refl _)

theorem frame_sum_ok (p0 : api_Vec × api_Vec × api_Vec) (p1 : api_Vec) (r : api_Vec) (h0 : frame_sum p0 p1 = some r) : Pure Try.prog tab 74 [.agg [.int .i64 p0.1.X, .int .i64 p0.1.Y, .int .i64 p0.1.Z, .int .i64 p0.2.1.X, .int .i64 p0.2.1.Y, .int .i64 p0.2.1.Z, .int .i64 p0.2.2.X, .int .i64 p0.2.2.Y, .int .i64 p0.2.2.Z], .agg [.int .i64 p1.X, .int .i64 p1.Y, .int .i64 p1.Z]] (.agg [.int .i64 r.X, .int .i64 r.Y, .int .i64 r.Z]) := by
  unfold frame_sum at h0
  refine pure_of_run Try.func74 rfl (by kernel_rfl) (by kernel_rfl) rfl ?_
  refine rk_seq ?_
  refine rk_region ?_
  refine ok_new (.ref 0 9 0 0) (.dat 9 [[.int .i64 p0.1.X, .int .i64 p0.1.Y, .int .i64 p0.1.Z, .int .i64 p0.2.1.X, .int .i64 p0.2.1.Y, .int .i64 p0.2.1.Z, .int .i64 p0.2.2.X, .int .i64 p0.2.2.Y, .int .i64 p0.2.2.Z]]) rfl rfl ?_
  refine ok_new (.ref 1 3 0 0) (.dat 3 [[.int .i64 p1.X, .int .i64 p1.Y, .int .i64 p1.Z]]) rfl rfl ?_
  refine ok_alloc rfl rfl ?_
  refine ok_nil ?_
  refine rk_seq ?_
  refine rk_region ?_
  refine ok_v (.ref 1 3 0 0) rfl rfl ?_
  refine ok_v (.d (.int .i64 p1.X)) rfl rfl ?_
  refine ok_v (.ref 0 9 0 0) rfl rfl ?_
  refine ok_v (.ref 0 9 0 0) rfl rfl ?_
  refine ok_v (.d (.int .i64 p0.1.X)) rfl rfl ?_
  refine ok_v (.d (.int .i64 (w64 (p1.X * p0.1.X)))) rfl rfl ?_
  refine ok_v (.ref 1 3 0 1) rfl rfl ?_
  refine ok_v (.d (.int .i64 p1.Y)) rfl rfl ?_
  refine ok_v (.ref 0 9 0 3) rfl rfl ?_
  refine ok_v (.ref 0 9 0 3) rfl rfl ?_
  refine ok_v (.d (.int .i64 p0.2.1.X)) rfl rfl ?_
  refine ok_v (.d (.int .i64 (w64 (p1.Y * p0.2.1.X)))) rfl rfl ?_
  refine ok_v (.d (.int .i64 (w64 ((w64 (p1.X * p0.1.X)) + (w64 (p1.Y * p0.2.1.X)))))) rfl rfl ?_
  refine ok_v (.ref 1 3 0 2) rfl rfl ?_
  refine ok_v (.d (.int .i64 p1.Z)) rfl rfl ?_
  refine ok_v (.ref 0 9 0 6) rfl rfl ?_
  refine ok_v (.ref 0 9 0 6) rfl rfl ?_
  refine ok_v (.d (.int .i64 p0.2.2.X)) rfl rfl ?_
  refine ok_v (.d (.int .i64 (w64 (p1.Z * p0.2.2.X)))) rfl rfl ?_
  refine ok_v (.d (.int .i64 (w64 ((w64 ((w64 (p1.X * p0.1.X)) + (w64 (p1.Y * p0.2.1.X)))) + (w64 (p1.Z * p0.2.2.X)))))) rfl rfl ?_
  refine ok_v (.ref 1 3 0 0) rfl rfl ?_
  refine ok_v (.d (.int .i64 p1.X)) rfl rfl ?_
  refine ok_v (.ref 0 9 0 0) rfl rfl ?_
  refine ok_v (.ref 0 9 0 1) rfl rfl ?_
  refine ok_v (.d (.int .i64 p0.1.Y)) rfl rfl ?_
  refine ok_v (.d (.int .i64 (w64 (p1.X * p0.1.Y)))) rfl rfl ?_
  refine ok_v (.ref 1 3 0 1) rfl rfl ?_
  refine ok_v (.d (.int .i64 p1.Y)) rfl rfl ?_
  refine ok_v (.ref 0 9 0 3) rfl rfl ?_
  refine ok_v (.ref 0 9 0 4) rfl rfl ?_
  refine ok_v (.d (.int .i64 p0.2.1.Y)) rfl rfl ?_
  refine ok_v (.d (.int .i64 (w64 (p1.Y * p0.2.1.Y)))) rfl rfl ?_
  refine ok_v (.d (.int .i64 (w64 ((w64 (p1.X * p0.1.Y)) + (w64 (p1.Y * p0.2.1.Y)))))) rfl rfl ?_
  refine ok_v (.ref 1 3 0 2) rfl rfl ?_
  refine ok_v (.d (.int .i64 p1.Z)) rfl rfl ?_
  refine ok_v (.ref 0 9 0 6) rfl rfl ?_
  refine ok_v (.ref 0 9 0 7) rfl rfl ?_
  refine ok_v (.d (.int .i64 p0.2.2.Y)) rfl rfl ?_
  refine ok_v (.d (.int .i64 (w64 (p1.Z * p0.2.2.Y)))) rfl rfl ?_
  refine ok_v (.d (.int .i64 (w64 ((w64 ((w64 (p1.X * p0.1.Y)) + (w64 (p1.Y * p0.2.1.Y)))) + (w64 (p1.Z * p0.2.2.Y)))))) rfl rfl ?_
  refine ok_v (.ref 1 3 0 0) rfl rfl ?_
  refine ok_v (.d (.int .i64 p1.X)) rfl rfl ?_
  refine ok_v (.ref 0 9 0 0) rfl rfl ?_
  refine ok_v (.ref 0 9 0 2) rfl rfl ?_
  refine ok_v (.d (.int .i64 p0.1.Z)) rfl rfl ?_
  refine ok_v (.d (.int .i64 (w64 (p1.X * p0.1.Z)))) rfl rfl ?_
  refine ok_v (.ref 1 3 0 1) rfl rfl ?_
  refine ok_v (.d (.int .i64 p1.Y)) rfl rfl ?_
  refine ok_v (.ref 0 9 0 3) rfl rfl ?_
  refine ok_v (.ref 0 9 0 5) rfl rfl ?_
  refine ok_v (.d (.int .i64 p0.2.1.Z)) rfl rfl ?_
  refine ok_v (.d (.int .i64 (w64 (p1.Y * p0.2.1.Z)))) rfl rfl ?_
  refine ok_v (.d (.int .i64 (w64 ((w64 (p1.X * p0.1.Z)) + (w64 (p1.Y * p0.2.1.Z)))))) rfl rfl ?_
  refine ok_v (.ref 1 3 0 2) rfl rfl ?_
  refine ok_v (.d (.int .i64 p1.Z)) rfl rfl ?_
  refine ok_v (.ref 0 9 0 6) rfl rfl ?_
  refine ok_v (.ref 0 9 0 8) rfl rfl ?_
  refine ok_v (.d (.int .i64 p0.2.2.Z)) rfl rfl ?_
  refine ok_v (.d (.int .i64 (w64 (p1.Z * p0.2.2.Z)))) rfl rfl ?_
  refine ok_v (.d (.int .i64 (w64 ((w64 ((w64 (p1.X * p0.1.Z)) + (w64 (p1.Y * p0.2.1.Z)))) + (w64 (p1.Z * p0.2.2.Z)))))) rfl rfl ?_
  refine ok_v (.d (.agg [.int .i64 (w64 ((w64 ((w64 (p1.X * p0.1.X)) + (w64 (p1.Y * p0.2.1.X)))) + (w64 (p1.Z * p0.2.2.X)))), .int .i64 (w64 ((w64 ((w64 (p1.X * p0.1.Y)) + (w64 (p1.Y * p0.2.1.Y)))) + (w64 (p1.Z * p0.2.2.Y)))), .int .i64 (w64 ((w64 ((w64 (p1.X * p0.1.Z)) + (w64 (p1.Y * p0.2.1.Z)))) + (w64 (p1.Z * p0.2.2.Z))))])) rfl rfl ?_
  refine ok_sto 2 (.dat 3 [[.int .i64 (w64 ((w64 ((w64 (p1.X * p0.1.X)) + (w64 (p1.Y * p0.2.1.X)))) + (w64 (p1.Z * p0.2.2.X)))), .int .i64 (w64 ((w64 ((w64 (p1.X * p0.1.Y)) + (w64 (p1.Y * p0.2.1.Y)))) + (w64 (p1.Z * p0.2.2.Y)))), .int .i64 (w64 ((w64 ((w64 (p1.X * p0.1.Z)) + (w64 (p1.Y * p0.2.1.Z)))) + (w64 (p1.Z * p0.2.2.Z))))]]) rfl rfl ?_
  refine ok_nil ?_
  refine rk_ret ?_
  obtain rfl := someE h0
  exact finD (.inr rfl) (v := .d (.agg [.int .i64 (w64 ((w64 ((w64 (p1.X * p0.1.X)) + (w64 (p1.Y * p0.2.1.X)))) + (w64 (p1.Z * p0.2.2.X)))), .int .i64 (w64 ((w64 ((w64 (p1.X * p0.1.Y)) + (w64 (p1.Y * p0.2.1.Y)))) + (w64 (p1.Z * p0.2.2.Y)))), .int .i64 (w64 ((w64 ((w64 (p1.X * p0.1.Z)) + (w64 (p1.Y * p0.2.1.Z)))) + (w64 (p1.Z * p0.2.2.Z))))])) rfl rfl (.refl _)

theorem frame_named_ok (p0 : api_Vec × api_Vec × api_Vec) (r : Int) (h0 : frame_named p0 = some r) : Pure Try.prog tab 75 [.agg [.int .i64 p0.1.X, .int .i64 p0.1.Y, .int .i64 p0.1.Z, .int .i64 p0.2.1.X, .int .i64 p0.2.1.Y, .int .i64 p0.2.1.Z, .int .i64 p0.2.2.X, .int .i64 p0.2.2.Y, .int .i64 p0.2.2.Z]] (.int .u8 r) := by
  unfold frame_named at h0
  refine pure_of_run Try.func75 rfl (by kernel_rfl) (by kernel_rfl) rfl ?_
  refine rk_seq ?_
  refine rk_region ?_
  refine ok_new (.ref 0 9 0 0) (.dat 9 [[.int .i64 p0.1.X, .int .i64 p0.1.Y, .int .i64 p0.1.Z, .int .i64 p0.2.1.X, .int .i64 p0.2.1.Y, .int .i64 p0.2.1.Z, .int .i64 p0.2.2.X, .int .i64 p0.2.2.Y, .int .i64 p0.2.2.Z]]) rfl rfl ?_
  refine ok_as rfl rfl ?_
  refine ok_nil ?_
  refine rk_seq ?_
  refine rk_seq ?_
  refine rk_region ?_
  refine ok_mv rfl rfl ?_
  refine ok_nil ?_
  obtain ⟨m12, h13, h0⟩ := bindE h0
  refine rk_blockcut (fun b14 => .inl b14 = m12) (fun (b14 : Unit) => ⟨[], [], 0⟩) (by simp) ?_ ?_
  · refine rk_loopF (frame_named_L1 p0) (fun (a11 : Int) => ⟨[(1, .ref 0 9 0 0), (4, .d (.int .u8 a11))], [(0, .dat 9 [[.int .i64 p0.1.X, .int .i64 p0.1.Y, .int .i64 p0.1.Z, .int .i64 p0.2.1.X, .int .i64 p0.2.1.Y, .int .i64 p0.2.1.Z, .int .i64 p0.2.2.X, .int .i64 p0.2.2.Y, .int .i64 p0.2.2.Z]])], 1⟩) 0 m12 h13 (wkE [(0, 0)] [] [] rfl ⟨⟨_, rfl, .ref rfl (by decide) (ltd rfl)⟩, ⟨_, rfl, .d (.refl _)⟩, trivial⟩ ⟨⟨ltd rfl, .inr ⟨by decide, _, rfl, .dat _ _⟩⟩, trivial⟩) ?_
    intro a11 y9 h10
    unfold frame_named_L1 at h10
    refine rk_seq ?_
    refine rk_region ?_
    refine ok_v (.d (.bool (decide (a11 < 24)))) rfl rfl ?_
    refine ok_nil ?_
    refine rk_seq ?_
    refine rk_condH rfl h10 (fun _ h10 => ?_) (fun _ h10 => ?_)
    · refine rk_skip ?_
      refine rk_seq ?_
      refine rk_block ?_
      refine rk_seq ?_
      refine rk_region ?_
      refine ok_mv rfl rfl ?_
      refine ok_as rfl rfl ?_
      refine ok_nil ?_
      refine rk_seq ?_
      refine rk_regionD [(some [], []), (some [0], []), (some [], []), (some [], [])] (by kernel_rfl) ?_
      refine ok_mv rfl rfl ?_
      obtain ⟨r17, h18, h10⟩ := bindE h10
      refine ok_pc [.d (.int .u8 a11)] (frame_axes_ok a11 r17 h18) rfl rfl rfl (.inl rfl) ?_
      refine ok_v (.d (.agg [.int .i64 p0.1.X, .int .i64 p0.1.Y, .int .i64 p0.1.Z, .int .i64 p0.2.1.X, .int .i64 p0.2.1.Y, .int .i64 p0.2.1.Z, .int .i64 p0.2.2.X, .int .i64 p0.2.2.Y, .int .i64 p0.2.2.Z])) rfl rfl ?_
      refine ok_v (.d (.bool ((r17.1.X == p0.1.X) && ((r17.1.Y == p0.1.Y) && ((r17.1.Z == p0.1.Z) && ((r17.2.1.X == p0.2.1.X) && ((r17.2.1.Y == p0.2.1.Y) && ((r17.2.1.Z == p0.2.1.Z) && ((r17.2.2.X == p0.2.2.X) && ((r17.2.2.Y == p0.2.2.Y) && ((r17.2.2.Z == p0.2.2.Z) && true))))))))))) rfl rfl ?_
      refine ok_nil ?_
      refine rk_condH rfl h10 (fun _ h10 => ?_) (fun _ h10 => ?_)
      · refine rk_seq ?_
        refine rk_region ?_
        refine ok_mv rfl rfl ?_
        refine ok_as rfl rfl ?_
        refine ok_nil ?_
        refine rk_ret ?_
        refine ⟨_, (Option.some.inj h10).symm, fun hm => ?_⟩
        subst hm
        obtain rfl := someE h0
        exact finD (.inr rfl) (v := .d (.int .u8 a11)) rfl rfl (.refl _)
      · refine rk_skip ?_
        refine rk_nil ?_
        refine blk_nor ?_
        refine rk_region ?_
        refine ok_v (.d (.int .u8 (IntKind.wrap .u8 (a11 + 1)))) rfl rfl ?_
        refine ok_mv rfl rfl ?_
        refine ok_nil ?_
        refine rk_nil ?_
        exact ⟨_, (Option.some.inj h10).symm, wkE [(0, 0)] [] [] rfl ⟨⟨_, rfl, .ref rfl (by decide) (ltd rfl)⟩, ⟨_, rfl, .d (.refl _)⟩, trivial⟩ ⟨⟨ltd rfl, .inr ⟨by decide, _, rfl, .dat _ _⟩⟩, trivial⟩⟩
    · refine rk_exit ?_
      refine ⟨_, (Option.some.inj h10).symm, fun hm => ?_⟩
      subst hm
      exact ⟨_, rfl, wkE [] [] [] rfl trivial trivial⟩
  · intro b14 hb
    subst hb
    refine rk_seq ?_
    refine rk_region ?_
    refine ok_as rfl rfl ?_
    refine ok_nil ?_
    refine rk_ret ?_
    obtain rfl := someE h0
    exact finD (.inr rfl) (v := .d (.int .u8 0)) rfl rfl (.refl _)

theorem frame_image_ok (p0 : api_Frame) (p1 : api_Vec) (r : api_Vec) (h0 : frame_image p0 p1 = some r) : Pure Try.prog tab 76 [.agg [.int .u8 p0.Turn, .int .i64 p0.At.X, .int .i64 p0.At.Y, .int .i64 p0.At.Z], .agg [.int .i64 p1.X, .int .i64 p1.Y, .int .i64 p1.Z]] (.agg [.int .i64 r.X, .int .i64 r.Y, .int .i64 r.Z]) := by
  unfold frame_image at h0
  refine pure_of_run Try.func76 rfl (by kernel_rfl) (by kernel_rfl) rfl ?_
  refine rk_seq ?_
  refine rk_region ?_
  refine ok_new (.ref 0 4 0 0) (.dat 4 [[.int .u8 p0.Turn, .int .i64 p0.At.X, .int .i64 p0.At.Y, .int .i64 p0.At.Z]]) rfl rfl ?_
  refine ok_new (.ref 1 3 0 0) (.dat 3 [[.int .i64 p1.X, .int .i64 p1.Y, .int .i64 p1.Z]]) rfl rfl ?_
  refine ok_alloc rfl rfl ?_
  refine ok_nil ?_
  refine rk_seq ?_
  refine rk_regionD [(some [1], [1]), (some [], []), (some [1], []), (some [], []), (some [0], []), (some [], [])] (by kernel_rfl) ?_
  refine ok_v (.ref 0 4 0 0) rfl rfl ?_
  refine ok_v (.d (.int .u8 p0.Turn)) rfl rfl ?_
  obtain ⟨r1, h2, h0⟩ := bindE h0
  refine ok_pc [.d (.int .u8 p0.Turn)] (frame_axes_ok p0.Turn r1 h2) rfl rfl rfl (.inl rfl) ?_
  refine ok_v (.d (.agg [.int .i64 p1.X, .int .i64 p1.Y, .int .i64 p1.Z])) rfl rfl ?_
  obtain ⟨r3, h4, h0⟩ := bindE h0
  refine ok_pc [.d (.agg [.int .i64 r1.1.X, .int .i64 r1.1.Y, .int .i64 r1.1.Z, .int .i64 r1.2.1.X, .int .i64 r1.2.1.Y, .int .i64 r1.2.1.Z, .int .i64 r1.2.2.X, .int .i64 r1.2.2.Y, .int .i64 r1.2.2.Z]), .d (.agg [.int .i64 p1.X, .int .i64 p1.Y, .int .i64 p1.Z])] (frame_sum_ok r1 p1 r3 h4) rfl rfl rfl (.inl rfl) ?_
  refine ok_sto 1 (.dat 3 [[.int .i64 r3.X, .int .i64 r3.Y, .int .i64 r3.Z]]) rfl rfl ?_
  refine ok_nil ?_
  refine rk_seq ?_
  refine rk_region ?_
  refine ok_v (.ref 1 3 0 0) rfl rfl ?_
  refine ok_v (.d (.int .i64 r3.X)) rfl rfl ?_
  refine ok_v (.ref 0 4 0 1) rfl rfl ?_
  refine ok_v (.ref 0 4 0 1) rfl rfl ?_
  refine ok_v (.d (.int .i64 p0.At.X)) rfl rfl ?_
  refine ok_v (.d (.int .i64 (w64 (r3.X + p0.At.X)))) rfl rfl ?_
  refine ok_v (.ref 1 3 0 1) rfl rfl ?_
  refine ok_v (.d (.int .i64 r3.Y)) rfl rfl ?_
  refine ok_v (.ref 0 4 0 1) rfl rfl ?_
  refine ok_v (.ref 0 4 0 2) rfl rfl ?_
  refine ok_v (.d (.int .i64 p0.At.Y)) rfl rfl ?_
  refine ok_v (.d (.int .i64 (w64 (r3.Y + p0.At.Y)))) rfl rfl ?_
  refine ok_v (.ref 1 3 0 2) rfl rfl ?_
  refine ok_v (.d (.int .i64 r3.Z)) rfl rfl ?_
  refine ok_v (.ref 0 4 0 1) rfl rfl ?_
  refine ok_v (.ref 0 4 0 3) rfl rfl ?_
  refine ok_v (.d (.int .i64 p0.At.Z)) rfl rfl ?_
  refine ok_v (.d (.int .i64 (w64 (r3.Z + p0.At.Z)))) rfl rfl ?_
  refine ok_v (.d (.agg [.int .i64 (w64 (r3.X + p0.At.X)), .int .i64 (w64 (r3.Y + p0.At.Y)), .int .i64 (w64 (r3.Z + p0.At.Z))])) rfl rfl ?_
  refine ok_sto 2 (.dat 3 [[.int .i64 (w64 (r3.X + p0.At.X)), .int .i64 (w64 (r3.Y + p0.At.Y)), .int .i64 (w64 (r3.Z + p0.At.Z))]]) rfl rfl ?_
  refine ok_nil ?_
  refine rk_ret ?_
  obtain rfl := someE h0
  exact finD (.inr rfl) (v := .d (.agg [.int .i64 (w64 (r3.X + p0.At.X)), .int .i64 (w64 (r3.Y + p0.At.Y)), .int .i64 (w64 (r3.Z + p0.At.Z))])) rfl rfl (.refl _)

theorem frame_within_ok (p0 : api_Frame) (p1 : api_Frame) (r : api_Frame) (h0 : frame_within p0 p1 = some r) : Pure Try.prog tab 69 [.agg [.int .u8 p0.Turn, .int .i64 p0.At.X, .int .i64 p0.At.Y, .int .i64 p0.At.Z], .agg [.int .u8 p1.Turn, .int .i64 p1.At.X, .int .i64 p1.At.Y, .int .i64 p1.At.Z]] (.agg [.int .u8 r.Turn, .int .i64 r.At.X, .int .i64 r.At.Y, .int .i64 r.At.Z]) := by
  unfold frame_within at h0
  refine pure_of_run Try.func69 rfl (by kernel_rfl) (by kernel_rfl) rfl ?_
  refine rk_seq ?_
  refine rk_region ?_
  refine ok_new (.ref 0 4 0 0) (.dat 4 [[.int .u8 p0.Turn, .int .i64 p0.At.X, .int .i64 p0.At.Y, .int .i64 p0.At.Z]]) rfl rfl ?_
  refine ok_new (.ref 1 4 0 0) (.dat 4 [[.int .u8 p1.Turn, .int .i64 p1.At.X, .int .i64 p1.At.Y, .int .i64 p1.At.Z]]) rfl rfl ?_
  refine ok_alloc rfl rfl ?_
  refine ok_nil ?_
  refine rk_seq ?_
  refine rk_regionD [(some [4], [4]), (some [3], [3]), (some [], [4]), (some [], [3]), (some [], []), (some [1], []), (some [], []), (some [], []), (some [0], []), (some [], [])] (by kernel_rfl) ?_
  refine ok_v (.ref 0 4 0 0) rfl rfl ?_
  refine ok_v (.d (.int .u8 p0.Turn)) rfl rfl ?_
  obtain ⟨r1, h2, h0⟩ := bindE h0
  refine ok_pc [.d (.int .u8 p0.Turn)] (frame_axes_ok p0.Turn r1 h2) rfl rfl rfl (.inl rfl) ?_
  refine ok_v (.ref 1 4 0 0) rfl rfl ?_
  refine ok_v (.d (.int .u8 p1.Turn)) rfl rfl ?_
  obtain ⟨r3, h4, h0⟩ := bindE h0
  refine ok_pc [.d (.int .u8 p1.Turn)] (frame_axes_ok p1.Turn r3 h4) rfl rfl rfl (.inl rfl) ?_
  refine ok_alloc rfl rfl ?_
  refine ok_alloc rfl rfl ?_
  refine ok_sto 3 (.dat 9 [[r1.1, r1.2.1, r1.2.2].flatMap enc_api_Vec]) rfl rfl ?_
  refine ok_sto 4 (.dat 9 [[.int .i64 r3.1.X, .int .i64 r3.1.Y, .int .i64 r3.1.Z, .int .i64 r3.2.1.X, .int .i64 r3.2.1.Y, .int .i64 r3.2.1.Z, .int .i64 r3.2.2.X, .int .i64 r3.2.2.Y, .int .i64 r3.2.2.Z]]) rfl rfl ?_
  refine ok_nil ?_
  refine rk_seq ?_
  refine rk_seq ?_
  refine rk_region ?_
  refine ok_mv rfl rfl ?_
  refine ok_nil ?_
  obtain ⟨m32, h33, h0⟩ := bindE h0
  refine rk_blockcut (fun b34 => b34 = m32) (fun (b34 : List api_Vec) => ⟨[(2, .ref 0 4 0 0), (3, .ref 1 4 0 0), (4, .ref 2 4 0 0), (5, .ref 3 9 0 0)], [(0, .dat 4 [[.int .u8 p0.Turn, .int .i64 p0.At.X, .int .i64 p0.At.Y, .int .i64 p0.At.Z]]), (1, .dat 4 [[.int .u8 p1.Turn, .int .i64 p1.At.X, .int .i64 p1.At.Y, .int .i64 p1.At.Z]]), (2, .dat 4 [[.int .u8 0, .int .i64 0, .int .i64 0, .int .i64 0]]), (3, .dat 9 [b34.flatMap enc_api_Vec])], 4⟩) (by simp) ?_ ?_
  · refine rk_loopF (frame_within_L1 r3) (fun (a31 : Int × List api_Vec) => ⟨[(2, .ref 0 4 0 0), (3, .ref 1 4 0 0), (4, .ref 2 4 0 0), (5, .ref 3 9 0 0), (6, .ref 4 9 0 0), (14, .d (.int .i64 a31.1))], [(0, .dat 4 [[.int .u8 p0.Turn, .int .i64 p0.At.X, .int .i64 p0.At.Y, .int .i64 p0.At.Z]]), (1, .dat 4 [[.int .u8 p1.Turn, .int .i64 p1.At.X, .int .i64 p1.At.Y, .int .i64 p1.At.Z]]), (2, .dat 4 [[.int .u8 0, .int .i64 0, .int .i64 0, .int .i64 0]]), (3, .dat 9 [a31.2.flatMap enc_api_Vec]), (4, .dat 9 [[.int .i64 r3.1.X, .int .i64 r3.1.Y, .int .i64 r3.1.Z, .int .i64 r3.2.1.X, .int .i64 r3.2.1.Y, .int .i64 r3.2.1.Z, .int .i64 r3.2.2.X, .int .i64 r3.2.2.Y, .int .i64 r3.2.2.Z]])], 5⟩) (0, [r1.1, r1.2.1, r1.2.2]) m32 h33 (wkE [(0, 0), (1, 1), (2, 2), (3, 3), (4, 4)] [] [] rfl ⟨⟨_, rfl, .ref rfl (by decide) (ltd rfl)⟩, ⟨_, rfl, .ref rfl (by decide) (ltd rfl)⟩, ⟨_, rfl, .ref rfl (by decide) (ltd rfl)⟩, ⟨_, rfl, .ref rfl (by decide) (ltd rfl)⟩, ⟨_, rfl, .ref rfl (by decide) (ltd rfl)⟩, ⟨_, rfl, .d (.refl _)⟩, trivial⟩ ⟨⟨ltd rfl, .inr ⟨by decide, _, rfl, .dat _ _⟩⟩, ⟨ltd rfl, .inr ⟨by decide, _, rfl, .dat _ _⟩⟩, ⟨ltd rfl, .inr ⟨by decide, _, rfl, .dat _ _⟩⟩, ⟨ltd rfl, .inr ⟨by decide, _, rfl, .dat _ _⟩⟩, ⟨ltd rfl, .inr ⟨by decide, _, rfl, .dat _ _⟩⟩, trivial⟩) ?_
    intro a31 y29 h30
    unfold frame_within_L1 at h30
    refine rk_seq ?_
    refine rk_region ?_
    refine ok_v (.d (.bool (decide (a31.1 < 3)))) rfl rfl ?_
    refine ok_nil ?_
    refine rk_seq ?_
    refine rk_condH rfl h30 (fun _ h30 => ?_) (fun _ h30 => ?_)
    · refine rk_skip ?_
      refine rk_seq ?_
      refine rk_block ?_
      refine rk_seq ?_
      refine rk_region ?_
      refine ok_mv rfl rfl ?_
      refine ok_as rfl rfl ?_
      refine ok_nil ?_
      refine rk_regionD [(some [3], [3]), (some [], []), (some [], []), (some [3], []), (some [], []), (some [], []), (some [4], []), (some [], [])] (by kernel_rfl) ?_
      refine ok_mv rfl rfl ?_
      refine ok_v (.d (.agg [.int .i64 r3.1.X, .int .i64 r3.1.Y, .int .i64 r3.1.Z, .int .i64 r3.2.1.X, .int .i64 r3.2.1.Y, .int .i64 r3.2.1.Z, .int .i64 r3.2.2.X, .int .i64 r3.2.2.Y, .int .i64 r3.2.2.Z])) rfl rfl ?_
      refine ok_mv rfl rfl ?_
      obtain ⟨v41, h42, h30⟩ := bindE h30
      refine ok_iaA h42 rfl rfl rfl rfl rfl ?_
      refine ok_ldA (enc := enc_api_Vec) (.d (.agg [.int .i64 v41.X, .int .i64 v41.Y, .int .i64 v41.Z])) h42 (fun _ => rfl) rfl rfl rfl rfl rfl rfl ?_
      obtain ⟨r43, h44, h30⟩ := bindE h30
      refine ok_pc [.d (.agg [.int .i64 r3.1.X, .int .i64 r3.1.Y, .int .i64 r3.1.Z, .int .i64 r3.2.1.X, .int .i64 r3.2.1.Y, .int .i64 r3.2.1.Z, .int .i64 r3.2.2.X, .int .i64 r3.2.2.Y, .int .i64 r3.2.2.Z]), .d (.agg [.int .i64 v41.X, .int .i64 v41.Y, .int .i64 v41.Z])] (frame_sum_ok r3 v41 r43 h44) rfl rfl rfl (.inl rfl) ?_
      obtain ⟨v45, h46, h30⟩ := bindE h30
      refine ok_iaA h46 rfl rfl rfl rfl rfl ?_
      refine ok_stA (enc := enc_api_Vec) r43 h46 (fun _ => rfl) rfl rfl rfl rfl rfl rfl rfl rfl ?_
      refine ok_nil ?_
      refine rk_nil ?_
      refine blk_nor ?_
      refine rk_region ?_
      refine ok_v (.d (.int .i64 (w64 (a31.1 + 1)))) rfl rfl ?_
      refine ok_mv rfl rfl ?_
      refine ok_nil ?_
      refine rk_nil ?_
      exact ⟨_, (Option.some.inj h30).symm, wkE [(0, 0), (1, 1), (2, 2), (3, 3), (4, 4)] [] [] rfl ⟨⟨_, rfl, .ref rfl (by decide) (ltd rfl)⟩, ⟨_, rfl, .ref rfl (by decide) (ltd rfl)⟩, ⟨_, rfl, .ref rfl (by decide) (ltd rfl)⟩, ⟨_, rfl, .ref rfl (by decide) (ltd rfl)⟩, ⟨_, rfl, .ref rfl (by decide) (ltd rfl)⟩, ⟨_, rfl, .d (.refl _)⟩, trivial⟩ ⟨⟨ltd rfl, .inr ⟨by decide, _, rfl, .dat _ _⟩⟩, ⟨ltd rfl, .inr ⟨by decide, _, rfl, .dat _ _⟩⟩, ⟨ltd rfl, .inr ⟨by decide, _, rfl, .dat _ _⟩⟩, ⟨ltd rfl, .inr ⟨by decide, _, rfl, .dat _ _⟩⟩, ⟨ltd rfl, .inr ⟨by decide, _, rfl, .dat _ _⟩⟩, trivial⟩⟩
    · refine rk_exit ?_
      refine ⟨_, (Option.some.inj h30).symm, fun hm => ?_⟩
      subst hm
      exact ⟨_, rfl, wkE [(0, 0), (1, 1), (2, 2), (3, 3)] [] [] rfl ⟨⟨_, rfl, .ref rfl (by decide) (ltd rfl)⟩, ⟨_, rfl, .ref rfl (by decide) (ltd rfl)⟩, ⟨_, rfl, .ref rfl (by decide) (ltd rfl)⟩, ⟨_, rfl, .ref rfl (by decide) (ltd rfl)⟩, trivial⟩ ⟨⟨ltd rfl, .inr ⟨by decide, _, rfl, .dat _ _⟩⟩, ⟨ltd rfl, .inr ⟨by decide, _, rfl, .dat _ _⟩⟩, ⟨ltd rfl, .inr ⟨by decide, _, rfl, .dat _ _⟩⟩, ⟨ltd rfl, .inr ⟨by decide, _, rfl, .dat _ _⟩⟩, trivial⟩⟩
  · intro b34 hb
    subst hb
    refine rk_seq ?_
    refine rk_regionD [(some [2], [2]), (some [], []), (some [], []), (some [0], []), (some [], []), (some [1], []), (some [], []), (some [3], [])] (by kernel_rfl) ?_
    obtain ⟨v47, h48, h0⟩ := bindE h0
    refine ok_ldW (enc := enc_api_Vec) (.d (.agg [.int .i64 v47.1.X, .int .i64 v47.1.Y, .int .i64 v47.1.Z, .int .i64 v47.2.1.X, .int .i64 v47.2.1.Y, .int .i64 v47.2.1.Z, .int .i64 v47.2.2.X, .int .i64 v47.2.2.Y, .int .i64 v47.2.2.Z])) (arr3_flat h48) rfl rfl rfl rfl rfl rfl ?_
    obtain ⟨r49, h50, h0⟩ := bindE h0
    refine ok_pc [.d (.agg [.int .i64 v47.1.X, .int .i64 v47.1.Y, .int .i64 v47.1.Z, .int .i64 v47.2.1.X, .int .i64 v47.2.1.Y, .int .i64 v47.2.1.Z, .int .i64 v47.2.2.X, .int .i64 v47.2.2.Y, .int .i64 v47.2.2.Z])] (frame_named_ok v47 r49 h50) rfl rfl rfl (.inl rfl) ?_
    refine ok_v (.d (.agg [.int .u8 p1.Turn, .int .i64 p1.At.X, .int .i64 p1.At.Y, .int .i64 p1.At.Z])) rfl rfl ?_
    refine ok_v (.ref 0 4 0 1) rfl rfl ?_
    refine ok_v (.d (.agg [.int .i64 p0.At.X, .int .i64 p0.At.Y, .int .i64 p0.At.Z])) rfl rfl ?_
    obtain ⟨r51, h52, h0⟩ := bindE h0
    refine ok_pc [.d (.agg [.int .u8 p1.Turn, .int .i64 p1.At.X, .int .i64 p1.At.Y, .int .i64 p1.At.Z]), .d (.agg [.int .i64 p0.At.X, .int .i64 p0.At.Y, .int .i64 p0.At.Z])] (frame_image_ok p1 p0.At r51 h52) rfl rfl rfl (.inl rfl) ?_
    refine ok_v (.d (.agg [.int .u8 r49, .int .i64 r51.X, .int .i64 r51.Y, .int .i64 r51.Z])) rfl rfl ?_
    refine ok_sto 2 (.dat 4 [[.int .u8 r49, .int .i64 r51.X, .int .i64 r51.Y, .int .i64 r51.Z]]) rfl rfl ?_
    refine ok_nil ?_
    refine rk_ret ?_
    obtain rfl := someE h0
    exact finD (.inr rfl) (v := .d (.agg [.int .u8 r49, .int .i64 r51.X, .int .i64 r51.Y, .int .i64 r51.Z])) rfl rfl (.refl _)

theorem frame_Within_ok (p0 : api_Frame) (p1 : api_Frame) (r : api_Frame × Int) (h0 : frame_Within p0 p1 = some r) : Pure Try.prog tab 57 [.agg [.int .u8 p0.Turn, .int .i64 p0.At.X, .int .i64 p0.At.Y, .int .i64 p0.At.Z], .agg [.int .u8 p1.Turn, .int .i64 p1.At.X, .int .i64 p1.At.Y, .int .i64 p1.At.Z]] (.tup [.agg [.int .u8 r.1.Turn, .int .i64 r.1.At.X, .int .i64 r.1.At.Y, .int .i64 r.1.At.Z], .int .i64 r.2]) := by
  unfold frame_Within at h0
  refine pure_of_run Try.func57 rfl (by kernel_rfl) (by kernel_rfl) rfl ?_
  refine rk_seq ?_
  refine rk_region ?_
  refine ok_new (.ref 0 4 0 0) (.dat 4 [[.int .u8 p0.Turn, .int .i64 p0.At.X, .int .i64 p0.At.Y, .int .i64 p0.At.Z]]) rfl rfl ?_
  refine ok_new (.ref 1 4 0 0) (.dat 4 [[.int .u8 p1.Turn, .int .i64 p1.At.X, .int .i64 p1.At.Y, .int .i64 p1.At.Z]]) rfl rfl ?_
  refine ok_alloc rfl rfl ?_
  refine ok_as rfl rfl ?_
  refine ok_nil ?_
  refine rk_seq ?_
  refine rk_seq ?_
  refine rk_region ?_
  refine ok_v (.d (.agg [.int .u8 p0.Turn, .int .i64 p0.At.X, .int .i64 p0.At.Y, .int .i64 p0.At.Z])) rfl rfl ?_
  obtain ⟨r1, h2, h0⟩ := bindE h0
  refine ok_pc [.d (.agg [.int .u8 p0.Turn, .int .i64 p0.At.X, .int .i64 p0.At.Y, .int .i64 p0.At.Z])] (frame_Check_ok p0 r1 h2) rfl rfl rfl (.inl rfl) ?_
  refine ok_as rfl rfl ?_
  refine ok_nil ?_
  refine rk_seq ?_
  refine rk_region ?_
  refine ok_mv rfl rfl ?_
  refine ok_v (.d (.bool (r1 != 0))) rfl rfl ?_
  refine ok_nil ?_
  refine rk_condH rfl h0 (fun _ h0 => ?_) (fun _ h0 => ?_)
  · refine rk_seq ?_
    refine rk_region ?_
    refine ok_v (.d (.agg [.int .u8 0, .int .i64 0, .int .i64 0, .int .i64 0])) rfl rfl ?_
    refine ok_mv rfl rfl ?_
    refine ok_sto 2 (.dat 4 [[.int .u8 0, .int .i64 0, .int .i64 0, .int .i64 0]]) rfl rfl ?_
    refine ok_as rfl rfl ?_
    refine ok_nil ?_
    refine rk_ret ?_
    obtain rfl := someE h0
    exact finD (.inr rfl) (v := .d (.tup [.agg [.int .u8 0, .int .i64 0, .int .i64 0, .int .i64 0], .int .i64 r1])) rfl rfl (.refl _)
  · refine rk_skip ?_
    refine rk_seq ?_
    refine rk_seq ?_
    refine rk_region ?_
    refine ok_v (.d (.agg [.int .u8 p1.Turn, .int .i64 p1.At.X, .int .i64 p1.At.Y, .int .i64 p1.At.Z])) rfl rfl ?_
    obtain ⟨r3, h4, h0⟩ := bindE h0
    refine ok_pc [.d (.agg [.int .u8 p1.Turn, .int .i64 p1.At.X, .int .i64 p1.At.Y, .int .i64 p1.At.Z])] (frame_Check_ok p1 r3 h4) rfl rfl rfl (.inl rfl) ?_
    refine ok_as rfl rfl ?_
    refine ok_nil ?_
    refine rk_seq ?_
    refine rk_region ?_
    refine ok_mv rfl rfl ?_
    refine ok_v (.d (.bool (r3 != 0))) rfl rfl ?_
    refine ok_nil ?_
    refine rk_condH rfl h0 (fun _ h0 => ?_) (fun _ h0 => ?_)
    · refine rk_seq ?_
      refine rk_region ?_
      refine ok_v (.d (.agg [.int .u8 0, .int .i64 0, .int .i64 0, .int .i64 0])) rfl rfl ?_
      refine ok_mv rfl rfl ?_
      refine ok_sto 2 (.dat 4 [[.int .u8 0, .int .i64 0, .int .i64 0, .int .i64 0]]) rfl rfl ?_
      refine ok_as rfl rfl ?_
      refine ok_nil ?_
      refine rk_ret ?_
      obtain rfl := someE h0
      exact finD (.inr rfl) (v := .d (.tup [.agg [.int .u8 0, .int .i64 0, .int .i64 0, .int .i64 0], .int .i64 r3])) rfl rfl (.refl _)
    · refine rk_skip ?_
      refine rk_seq ?_
      refine rk_region ?_
      refine ok_v (.d (.agg [.int .u8 p0.Turn, .int .i64 p0.At.X, .int .i64 p0.At.Y, .int .i64 p0.At.Z])) rfl rfl ?_
      refine ok_v (.d (.agg [.int .u8 p1.Turn, .int .i64 p1.At.X, .int .i64 p1.At.Y, .int .i64 p1.At.Z])) rfl rfl ?_
      obtain ⟨r5, h6, h0⟩ := bindE h0
      refine ok_pc [.d (.agg [.int .u8 p0.Turn, .int .i64 p0.At.X, .int .i64 p0.At.Y, .int .i64 p0.At.Z]), .d (.agg [.int .u8 p1.Turn, .int .i64 p1.At.X, .int .i64 p1.At.Y, .int .i64 p1.At.Z])] (frame_within_ok p0 p1 r5 h6) rfl rfl rfl (.inl rfl) ?_
      refine ok_alloc rfl rfl ?_
      refine ok_sto 3 (.dat 4 [[.int .u8 r5.Turn, .int .i64 r5.At.X, .int .i64 r5.At.Y, .int .i64 r5.At.Z]]) rfl rfl ?_
      refine ok_nil ?_
      refine rk_seq ?_
      refine rk_seq ?_
      refine rk_region ?_
      refine ok_v (.d (.agg [.int .u8 r5.Turn, .int .i64 r5.At.X, .int .i64 r5.At.Y, .int .i64 r5.At.Z])) rfl rfl ?_
      obtain ⟨r7, h8, h0⟩ := bindE h0
      refine ok_pc [.d (.agg [.int .u8 r5.Turn, .int .i64 r5.At.X, .int .i64 r5.At.Y, .int .i64 r5.At.Z])] (frame_Check_ok r5 r7 h8) rfl rfl rfl (.inl rfl) ?_
      refine ok_v (.d (.bool (r7 != 0))) rfl rfl ?_
      refine ok_nil ?_
      refine rk_condH rfl h0 (fun _ h0 => ?_) (fun _ h0 => ?_)
      · refine rk_seq ?_
        refine rk_region ?_
        refine ok_v (.d (.agg [.int .u8 0, .int .i64 0, .int .i64 0, .int .i64 0])) rfl rfl ?_
        refine ok_sto 2 (.dat 4 [[.int .u8 0, .int .i64 0, .int .i64 0, .int .i64 0]]) rfl rfl ?_
        refine ok_as rfl rfl ?_
        refine ok_nil ?_
        refine rk_ret ?_
        obtain rfl := someE h0
        exact finD (.inr rfl) (v := .d (.tup [.agg [.int .u8 0, .int .i64 0, .int .i64 0, .int .i64 0], .int .i64 16])) rfl rfl (.refl _)
      · refine rk_skip ?_
        refine rk_seq ?_
        refine rk_region ?_
        refine ok_v (.d (.agg [.int .u8 r5.Turn, .int .i64 r5.At.X, .int .i64 r5.At.Y, .int .i64 r5.At.Z])) rfl rfl ?_
        refine ok_sto 2 (.dat 4 [[.int .u8 r5.Turn, .int .i64 r5.At.X, .int .i64 r5.At.Y, .int .i64 r5.At.Z]]) rfl rfl ?_
        refine ok_as rfl rfl ?_
        refine ok_nil ?_
        refine rk_ret ?_
        obtain rfl := someE h0
        exact finD (.inr rfl) (v := .d (.tup [.agg [.int .u8 r5.Turn, .int .i64 r5.At.X, .int .i64 r5.At.Y, .int .i64 r5.At.Z], .int .i64 0])) rfl rfl (.refl _)

theorem frame_Inside_ok (p0 : api_Scope) (p1 : api_Vec) (p2 : api_Vec) (p3 : Int) (r : api_Scope × Int) (h0 : frame_Inside p0 p1 p2 p3 = some r) : Pure Try.prog tab 39 [.agg [.int .u8 p0.Frame.Turn, .int .i64 p0.Frame.At.X, .int .i64 p0.Frame.At.Y, .int .i64 p0.Frame.At.Z, .int .i64 p0.Size.X, .int .i64 p0.Size.Y, .int .i64 p0.Size.Z], .agg [.int .i64 p1.X, .int .i64 p1.Y, .int .i64 p1.Z], .agg [.int .i64 p2.X, .int .i64 p2.Y, .int .i64 p2.Z], .int .u8 p3] (.tup [.agg [.int .u8 r.1.Frame.Turn, .int .i64 r.1.Frame.At.X, .int .i64 r.1.Frame.At.Y, .int .i64 r.1.Frame.At.Z, .int .i64 r.1.Size.X, .int .i64 r.1.Size.Y, .int .i64 r.1.Size.Z], .int .i64 r.2]) := by
  unfold frame_Inside at h0
  refine pure_of_run Try.func39 rfl (by kernel_rfl) (by kernel_rfl) rfl ?_
  refine rk_seq ?_
  refine rk_region ?_
  refine ok_new (.ref 0 7 0 0) (.dat 7 [[.int .u8 p0.Frame.Turn, .int .i64 p0.Frame.At.X, .int .i64 p0.Frame.At.Y, .int .i64 p0.Frame.At.Z, .int .i64 p0.Size.X, .int .i64 p0.Size.Y, .int .i64 p0.Size.Z]]) rfl rfl ?_
  refine ok_new (.ref 1 3 0 0) (.dat 3 [[.int .i64 p1.X, .int .i64 p1.Y, .int .i64 p1.Z]]) rfl rfl ?_
  refine ok_new (.ref 2 3 0 0) (.dat 3 [[.int .i64 p2.X, .int .i64 p2.Y, .int .i64 p2.Z]]) rfl rfl ?_
  refine ok_alloc rfl rfl ?_
  refine ok_as rfl rfl ?_
  refine ok_nil ?_
  refine rk_seq ?_
  refine rk_seq ?_
  refine rk_region ?_
  refine ok_v (.d (.agg [.int .u8 p0.Frame.Turn, .int .i64 p0.Frame.At.X, .int .i64 p0.Frame.At.Y, .int .i64 p0.Frame.At.Z, .int .i64 p0.Size.X, .int .i64 p0.Size.Y, .int .i64 p0.Size.Z])) rfl rfl ?_
  obtain ⟨r1, h2, h0⟩ := bindE h0
  refine ok_pc [.d (.agg [.int .u8 p0.Frame.Turn, .int .i64 p0.Frame.At.X, .int .i64 p0.Frame.At.Y, .int .i64 p0.Frame.At.Z, .int .i64 p0.Size.X, .int .i64 p0.Size.Y, .int .i64 p0.Size.Z])] (frame_checked_ok p0 r1 h2) rfl rfl rfl (.inl rfl) ?_
  refine ok_as rfl rfl ?_
  refine ok_nil ?_
  refine rk_seq ?_
  refine rk_region ?_
  refine ok_mv rfl rfl ?_
  refine ok_v (.d (.bool (r1 != 0))) rfl rfl ?_
  refine ok_nil ?_
  refine rk_condH rfl h0 (fun _ h0 => ?_) (fun _ h0 => ?_)
  · refine rk_seq ?_
    refine rk_region ?_
    refine ok_v (.d (.agg [.int .u8 0, .int .i64 0, .int .i64 0, .int .i64 0, .int .i64 0, .int .i64 0, .int .i64 0])) rfl rfl ?_
    refine ok_mv rfl rfl ?_
    refine ok_sto 3 (.dat 7 [[.int .u8 0, .int .i64 0, .int .i64 0, .int .i64 0, .int .i64 0, .int .i64 0, .int .i64 0]]) rfl rfl ?_
    refine ok_as rfl rfl ?_
    refine ok_nil ?_
    refine rk_ret ?_
    obtain rfl := someE h0
    exact finD (.inr rfl) (v := .d (.tup [.agg [.int .u8 0, .int .i64 0, .int .i64 0, .int .i64 0, .int .i64 0, .int .i64 0, .int .i64 0], .int .i64 r1])) rfl rfl (.refl _)
  · refine rk_skip ?_
    refine rk_seq ?_
    refine rk_region ?_
    refine ok_mv rfl rfl ?_
    refine ok_v (.d (.agg [.int .i64 p1.X, .int .i64 p1.Y, .int .i64 p1.Z])) rfl rfl ?_
    refine ok_v (.d (.agg [.int .u8 p3, .int .i64 p1.X, .int .i64 p1.Y, .int .i64 p1.Z])) rfl rfl ?_
    refine ok_alloc rfl rfl ?_
    refine ok_sto 4 (.dat 4 [[.int .u8 p3, .int .i64 p1.X, .int .i64 p1.Y, .int .i64 p1.Z]]) rfl rfl ?_
    refine ok_nil ?_
    refine rk_seq ?_
    refine rk_seq ?_
    refine rk_region ?_
    refine ok_v (.d (.agg [.int .u8 p3, .int .i64 p1.X, .int .i64 p1.Y, .int .i64 p1.Z])) rfl rfl ?_
    obtain ⟨r3, h4, h0⟩ := bindE h0
    refine ok_pc [.d (.agg [.int .u8 p3, .int .i64 p1.X, .int .i64 p1.Y, .int .i64 p1.Z])] (frame_Check_ok ({ Turn := p3, At := p1 } : api_Frame) r3 h4) rfl rfl rfl (.inl rfl) ?_
    refine ok_v (.d (.bool (r3 != 0))) rfl rfl ?_
    obtain ⟨c7, h8, h0⟩ := bindE h0
    refine ok_cutQ 5 (fun A st => ∃ (j9 j10 j11 j12 : V), st = A [(29, .d (.bool c7)), (28, j12), (27, j11), (26, j10), (25, j9)]) ?_ ?_
    · refine ok_mvB rfl rfl h8 (fun h8 => ?_) (fun h8 => ?_)
      · refine ok_sg rfl ?_
        refine ok_sg rfl ?_
        refine ok_sg rfl ?_
        refine ok_v (.d (.bool true)) rfl rfl ?_
        refine ok_nil ?_
        obtain rfl := someE h8
        exact ⟨_, _, _, _, rfl⟩
      · refine ok_v (.d (.agg [.int .i64 p2.X, .int .i64 p2.Y, .int .i64 p2.Z])) rfl rfl ?_
        obtain ⟨r13, h14, h8⟩ := bindE h8
        refine ok_pc [.d (.agg [.int .i64 p2.X, .int .i64 p2.Y, .int .i64 p2.Z]), .d (.int .i64 0)] (frame_fine_ok p2 0 r13 h14) rfl rfl rfl (.inl rfl) ?_
        refine ok_v (.d (.bool (!r13))) rfl rfl ?_
        refine ok_v (.d (.bool (!r13))) rfl rfl ?_
        refine ok_nil ?_
        obtain rfl := someE h8
        exact ⟨_, _, _, _, rfl⟩
    · rintro _ ⟨j9, j10, j11, j12, rfl⟩
      refine ok_nil ?_
      refine rk_condH rfl h0 (fun _ h0 => ?_) (fun _ h0 => ?_)
      · refine rk_seq ?_
        refine rk_region ?_
        refine ok_v (.d (.agg [.int .u8 0, .int .i64 0, .int .i64 0, .int .i64 0, .int .i64 0, .int .i64 0, .int .i64 0])) rfl rfl ?_
        refine ok_sto 3 (.dat 7 [[.int .u8 0, .int .i64 0, .int .i64 0, .int .i64 0, .int .i64 0, .int .i64 0, .int .i64 0]]) rfl rfl ?_
        refine ok_as rfl rfl ?_
        refine ok_nil ?_
        refine rk_ret ?_
        obtain rfl := someE h0
        exact finD (.inr rfl) (v := .d (.tup [.agg [.int .u8 0, .int .i64 0, .int .i64 0, .int .i64 0, .int .i64 0, .int .i64 0, .int .i64 0], .int .i64 2])) rfl rfl (.refl _)
      · refine rk_skip ?_
        refine rk_seq ?_
        refine rk_region ?_
        refine ok_v (.d (.agg [.int .u8 p3, .int .i64 p1.X, .int .i64 p1.Y, .int .i64 p1.Z])) rfl rfl ?_
        refine ok_v (.ref 0 7 0 0) rfl rfl ?_
        refine ok_v (.d (.agg [.int .u8 p0.Frame.Turn, .int .i64 p0.Frame.At.X, .int .i64 p0.Frame.At.Y, .int .i64 p0.Frame.At.Z])) rfl rfl ?_
        obtain ⟨r15, h16, h0⟩ := bindE h0
        refine ok_pc [.d (.agg [.int .u8 p3, .int .i64 p1.X, .int .i64 p1.Y, .int .i64 p1.Z]), .d (.agg [.int .u8 p0.Frame.Turn, .int .i64 p0.Frame.At.X, .int .i64 p0.Frame.At.Y, .int .i64 p0.Frame.At.Z])] (frame_Within_ok ({ Turn := p3, At := p1 } : api_Frame) p0.Frame r15 h16) rfl rfl rfl (.inl rfl) ?_
        refine ok_mv rfl rfl ?_
        refine ok_v (.d (.agg [.int .u8 r15.1.Turn, .int .i64 r15.1.At.X, .int .i64 r15.1.At.Y, .int .i64 r15.1.At.Z])) rfl rfl ?_
        refine ok_v (.d (.int .i64 r15.2)) rfl rfl ?_
        refine ok_sto 4 (.dat 4 [[.int .u8 r15.1.Turn, .int .i64 r15.1.At.X, .int .i64 r15.1.At.Y, .int .i64 r15.1.At.Z]]) rfl rfl ?_
        refine ok_as rfl rfl ?_
        refine ok_nil ?_
        refine rk_seq ?_
        refine rk_seq ?_
        refine rk_region ?_
        refine ok_mv rfl rfl ?_
        refine ok_v (.d (.bool (r15.2 != 0))) rfl rfl ?_
        refine ok_nil ?_
        refine rk_condH rfl h0 (fun _ h0 => ?_) (fun _ h0 => ?_)
        · refine rk_seq ?_
          refine rk_region ?_
          refine ok_v (.d (.agg [.int .u8 0, .int .i64 0, .int .i64 0, .int .i64 0, .int .i64 0, .int .i64 0, .int .i64 0])) rfl rfl ?_
          refine ok_mv rfl rfl ?_
          refine ok_sto 3 (.dat 7 [[.int .u8 0, .int .i64 0, .int .i64 0, .int .i64 0, .int .i64 0, .int .i64 0, .int .i64 0]]) rfl rfl ?_
          refine ok_as rfl rfl ?_
          refine ok_nil ?_
          refine rk_ret ?_
          obtain rfl := someE h0
          exact finD (.inr rfl) (v := .d (.tup [.agg [.int .u8 0, .int .i64 0, .int .i64 0, .int .i64 0, .int .i64 0, .int .i64 0, .int .i64 0], .int .i64 r15.2])) rfl rfl (.refl _)
        · refine rk_skip ?_
          refine rk_seq ?_
          refine rk_region ?_
          refine ok_v (.d (.agg [.int .u8 r15.1.Turn, .int .i64 r15.1.At.X, .int .i64 r15.1.At.Y, .int .i64 r15.1.At.Z])) rfl rfl ?_
          refine ok_v (.d (.agg [.int .i64 p2.X, .int .i64 p2.Y, .int .i64 p2.Z])) rfl rfl ?_
          refine ok_v (.d (.agg [.int .u8 r15.1.Turn, .int .i64 r15.1.At.X, .int .i64 r15.1.At.Y, .int .i64 r15.1.At.Z, .int .i64 p2.X, .int .i64 p2.Y, .int .i64 p2.Z])) rfl rfl ?_
          refine ok_sto 3 (.dat 7 [[.int .u8 r15.1.Turn, .int .i64 r15.1.At.X, .int .i64 r15.1.At.Y, .int .i64 r15.1.At.Z, .int .i64 p2.X, .int .i64 p2.Y, .int .i64 p2.Z]]) rfl rfl ?_
          refine ok_as rfl rfl ?_
          refine ok_nil ?_
          refine rk_ret ?_
          obtain rfl := someE h0
          exact finD (.inr rfl) (v := .d (.tup [.agg [.int .u8 r15.1.Turn, .int .i64 r15.1.At.X, .int .i64 r15.1.At.Y, .int .i64 r15.1.At.Z, .int .i64 p2.X, .int .i64 p2.Y, .int .i64 p2.Z], .int .i64 0])) rfl rfl (.refl _)

theorem split_along_ok (p0 : api_Vec) (p1 : Int) (p2 : Int) (r : api_Vec) (h0 : split_along p0 p1 p2 = some r) : Pure Try.prog tab 40 [.agg [.int .i64 p0.X, .int .i64 p0.Y, .int .i64 p0.Z], .int .i64 p1, .int .i64 p2] (.agg [.int .i64 r.X, .int .i64 r.Y, .int .i64 r.Z]) := by
  unfold split_along at h0
  refine pure_of_run Try.func40 rfl (by kernel_rfl) (by kernel_rfl) rfl ?_
  refine rk_seq ?_
  refine rk_region ?_
  refine ok_new (.ref 0 3 0 0) (.dat 3 [[.int .i64 p0.X, .int .i64 p0.Y, .int .i64 p0.Z]]) rfl rfl ?_
  refine ok_alloc rfl rfl ?_
  refine ok_nil ?_
  refine rk_seq ?_
  refine rk_seq ?_
  refine rk_region ?_
  refine ok_mv rfl rfl ?_
  refine ok_nil ?_
  obtain ⟨m2, h1, h0⟩ := bindE h0
  refine rk_blockcut (fun b3 => b3 = m2) (fun (b3 : Int × Int × Int) => ⟨[(3, .ref 0 3 0 0), (6, .ref 1 3 0 0)], [(0, .dat 3 [[.int .i64 b3.1, .int .i64 b3.2.1, .int .i64 b3.2.2]]), (1, .dat 3 [[.int .i64 0, .int .i64 0, .int .i64 0]])], 2⟩) (by simp) ?_ ?_
  · refine rk_seq ?_
    refine rk_region ?_
    refine ok_v (.d (.bool (p1 == 0))) rfl rfl ?_
    refine ok_as rfl rfl ?_
    refine ok_nil ?_
    refine rk_condH rfl h1 (fun _ h1 => ?_) (fun _ h1 => ?_)
    · refine rk_region ?_
      refine ok_mv rfl rfl ?_
      refine ok_v (.ref 0 3 0 0) rfl rfl ?_
      refine ok_sto 0 (.dat 3 [[.int .i64 p2, .int .i64 p0.Y, .int .i64 p0.Z]]) rfl rfl ?_
      refine ok_nil ?_
      refine rk_nil ?_
      obtain rfl := someE h1
      exact ⟨_, rfl, wkE [(0, 0), (1, 1)] [] [] rfl ⟨⟨_, rfl, .ref rfl (by decide) (ltd rfl)⟩, ⟨_, rfl, .ref rfl (by decide) (ltd rfl)⟩, trivial⟩ ⟨⟨ltd rfl, .inr ⟨by decide, _, rfl, .dat _ _⟩⟩, ⟨ltd rfl, .inr ⟨by decide, _, rfl, .dat _ _⟩⟩, trivial⟩⟩
    · refine rk_seq ?_
      refine rk_region ?_
      refine ok_v (.d (.bool (p1 == 1))) rfl rfl ?_
      refine ok_as rfl rfl ?_
      refine ok_nil ?_
      refine rk_condH rfl h1 (fun _ h1 => ?_) (fun _ h1 => ?_)
      · refine rk_region ?_
        refine ok_mv rfl rfl ?_
        refine ok_v (.ref 0 3 0 1) rfl rfl ?_
        refine ok_sto 0 (.dat 3 [[.int .i64 p0.X, .int .i64 p2, .int .i64 p0.Z]]) rfl rfl ?_
        refine ok_nil ?_
        refine rk_nil ?_
        obtain rfl := someE h1
        exact ⟨_, rfl, wkE [(0, 0), (1, 1)] [] [] rfl ⟨⟨_, rfl, .ref rfl (by decide) (ltd rfl)⟩, ⟨_, rfl, .ref rfl (by decide) (ltd rfl)⟩, trivial⟩ ⟨⟨ltd rfl, .inr ⟨by decide, _, rfl, .dat _ _⟩⟩, ⟨ltd rfl, .inr ⟨by decide, _, rfl, .dat _ _⟩⟩, trivial⟩⟩
      · refine rk_region ?_
        refine ok_mv rfl rfl ?_
        refine ok_v (.ref 0 3 0 2) rfl rfl ?_
        refine ok_sto 0 (.dat 3 [[.int .i64 p0.X, .int .i64 p0.Y, .int .i64 p2]]) rfl rfl ?_
        refine ok_nil ?_
        refine rk_nil ?_
        obtain rfl := someE h1
        exact ⟨_, rfl, wkE [(0, 0), (1, 1)] [] [] rfl ⟨⟨_, rfl, .ref rfl (by decide) (ltd rfl)⟩, ⟨_, rfl, .ref rfl (by decide) (ltd rfl)⟩, trivial⟩ ⟨⟨ltd rfl, .inr ⟨by decide, _, rfl, .dat _ _⟩⟩, ⟨ltd rfl, .inr ⟨by decide, _, rfl, .dat _ _⟩⟩, trivial⟩⟩
  · intro b3 hb
    subst hb
    refine rk_seq ?_
    refine rk_region ?_
    refine ok_v (.d (.agg [.int .i64 b3.1, .int .i64 b3.2.1, .int .i64 b3.2.2])) rfl rfl ?_
    refine ok_sto 1 (.dat 3 [[.int .i64 b3.1, .int .i64 b3.2.1, .int .i64 b3.2.2]]) rfl rfl ?_
    refine ok_nil ?_
    refine rk_ret ?_
    obtain rfl := someE h0
    exact finD (.inr rfl) (v := .d (.agg [.int .i64 b3.1, .int .i64 b3.2.1, .int .i64 b3.2.2])) rfl rfl (.refl _)

theorem split_Scopes_ok (p0 : api_Scope) (p1 : Int) (p2 : List Int) (r : List api_Scope × Int) (h0 : split_Scopes p0 p1 p2 = some r) : Pure Try.prog tab 22 [.agg [.int .u8 p0.Frame.Turn, .int .i64 p0.Frame.At.X, .int .i64 p0.Frame.At.Y, .int .i64 p0.Frame.At.Z, .int .i64 p0.Size.X, .int .i64 p0.Size.Y, .int .i64 p0.Size.Z], .int .i64 p1, .sl 1 (p2.map (eI .i64))] (.tup [.sl 7 (r.1.map enc_api_Scope), .int .i64 r.2]) := by
  unfold split_Scopes at h0
  refine pure_of_run Try.func22 rfl (by kernel_rfl) (by kernel_rfl) rfl ?_
  refine rk_seq ?_
  refine rk_region ?_
  refine ok_new (.ref 0 7 0 0) (.dat 7 [[.int .u8 p0.Frame.Turn, .int .i64 p0.Frame.At.X, .int .i64 p0.Frame.At.Y, .int .i64 p0.Frame.At.Z, .int .i64 p0.Size.X, .int .i64 p0.Size.Y, .int .i64 p0.Size.Z]]) rfl rfl ?_
  refine ok_as rfl rfl ?_
  refine ok_as rfl rfl ?_
  refine ok_nil ?_
  refine rk_seq ?_
  refine rk_region ?_
  refine ok_v (.d (.agg [.int .u8 p0.Frame.Turn, .int .i64 p0.Frame.At.X, .int .i64 p0.Frame.At.Y, .int .i64 p0.Frame.At.Z, .int .i64 p0.Size.X, .int .i64 p0.Size.Y, .int .i64 p0.Size.Z])) rfl rfl ?_
  refine ok_v (.d (.agg [.int .i64 0, .int .i64 0, .int .i64 0])) rfl rfl ?_
  refine ok_v (.d (.agg [.int .i64 0, .int .i64 0, .int .i64 0])) rfl rfl ?_
  obtain ⟨r1, h2, h0⟩ := bindE h0
  refine ok_pc [.d (.agg [.int .u8 p0.Frame.Turn, .int .i64 p0.Frame.At.X, .int .i64 p0.Frame.At.Y, .int .i64 p0.Frame.At.Z, .int .i64 p0.Size.X, .int .i64 p0.Size.Y, .int .i64 p0.Size.Z]), .d (.agg [.int .i64 0, .int .i64 0, .int .i64 0]), .d (.agg [.int .i64 0, .int .i64 0, .int .i64 0]), .d (.int .u8 0)] (frame_Inside_ok p0 ({ X := 0, Y := 0, Z := 0 } : api_Vec) ({ X := 0, Y := 0, Z := 0 } : api_Vec) 0 r1 h2) rfl rfl rfl (.inl rfl) ?_
  refine ok_mv rfl rfl ?_
  refine ok_v (.d (.agg [.int .u8 r1.1.Frame.Turn, .int .i64 r1.1.Frame.At.X, .int .i64 r1.1.Frame.At.Y, .int .i64 r1.1.Frame.At.Z, .int .i64 r1.1.Size.X, .int .i64 r1.1.Size.Y, .int .i64 r1.1.Size.Z])) rfl rfl ?_
  refine ok_v (.d (.int .i64 r1.2)) rfl rfl ?_
  refine ok_alloc rfl rfl ?_
  refine ok_sto 1 (.dat 7 [[.int .u8 r1.1.Frame.Turn, .int .i64 r1.1.Frame.At.X, .int .i64 r1.1.Frame.At.Y, .int .i64 r1.1.Frame.At.Z, .int .i64 r1.1.Size.X, .int .i64 r1.1.Size.Y, .int .i64 r1.1.Size.Z]]) rfl rfl ?_
  refine ok_as rfl rfl ?_
  refine ok_nil ?_
  refine rk_seq ?_
  refine rk_region ?_
  refine ok_v (.ref 0 7 0 4) rfl rfl ?_
  refine ok_v (.d (.agg [.int .i64 p0.Size.X, .int .i64 p0.Size.Y, .int .i64 p0.Size.Z])) rfl rfl ?_
  refine ok_alloc rfl rfl ?_
  refine ok_sto 2 (.dat 3 [[.int .i64 p0.Size.X, .int .i64 p0.Size.Y, .int .i64 p0.Size.Z]]) rfl rfl ?_
  refine ok_nil ?_
  refine rk_seq ?_
  refine rk_seq ?_
  refine rk_region ?_
  refine ok_mv rfl rfl ?_
  refine ok_v (.d (.bool (r1.2 != 0))) rfl rfl ?_
  obtain ⟨c3, h4, h0⟩ := bindE h0
  refine ok_cutQ 10 (fun A st => ∃ (j5 j6 j7 j8 j9 j10 j11 j12 j13 : V), st = A [(37, .d (.bool c3)), (36, j13), (35, j12), (34, j11), (33, j10), (32, j9), (31, j8), (30, j7), (29, j6), (28, j5)]) ?_ ?_
  · refine ok_mvB rfl rfl h4 (fun h4 => ?_) (fun h4 => ?_)
    · refine ok_sg rfl ?_
      refine ok_sg rfl ?_
      refine ok_sg rfl ?_
      refine ok_sg rfl ?_
      refine ok_sg rfl ?_
      refine ok_sg rfl ?_
      refine ok_sg rfl ?_
      refine ok_sg rfl ?_
      refine ok_v (.d (.bool true)) rfl rfl ?_
      refine ok_nil ?_
      obtain rfl := someE h4
      exact ⟨_, _, _, _, _, _, _, _, _, rfl⟩
    · refine ok_v (.ref 2 3 0 0) rfl rfl ?_
      refine ok_v (.d (.int .i64 p0.Size.X)) rfl rfl ?_
      refine ok_v (.ref 2 3 0 1) rfl rfl ?_
      refine ok_v (.d (.int .i64 p0.Size.Y)) rfl rfl ?_
      refine ok_v (.ref 2 3 0 2) rfl rfl ?_
      refine ok_v (.d (.int .i64 p0.Size.Z)) rfl rfl ?_
      refine ok_min (r := min (min p0.Size.X p0.Size.Y) p0.Size.Z) rfl rfl (by simp only [minI_min]; rfl) ?_
      refine ok_v (.d (.bool (decide ((min (min p0.Size.X p0.Size.Y) p0.Size.Z) < 0)))) rfl rfl ?_
      refine ok_v (.d (.bool (decide ((min (min p0.Size.X p0.Size.Y) p0.Size.Z) < 0)))) rfl rfl ?_
      refine ok_nil ?_
      obtain rfl := someE h4
      exact ⟨_, _, _, _, _, _, _, _, _, rfl⟩
  · rintro _ ⟨j5, j6, j7, j8, j9, j10, j11, j12, j13, rfl⟩
    obtain ⟨c14, h15, h0⟩ := bindE h0
    refine ok_cutQ 10 (fun A st => ∃ (j16 j17 j18 j19 j20 j21 j22 j23 j24 : V), st = A [(47, .d (.bool c14)), (46, j24), (45, j23), (44, j22), (43, j21), (42, j20), (41, j19), (40, j18), (39, j17), (38, j16)]) ?_ ?_
    · refine ok_mvB rfl rfl h15 (fun h15 => ?_) (fun h15 => ?_)
      · refine ok_sg rfl ?_
        refine ok_sg rfl ?_
        refine ok_sg rfl ?_
        refine ok_sg rfl ?_
        refine ok_sg rfl ?_
        refine ok_sg rfl ?_
        refine ok_sg rfl ?_
        refine ok_sg rfl ?_
        refine ok_v (.d (.bool true)) rfl rfl ?_
        refine ok_nil ?_
        obtain rfl := someE h15
        exact ⟨_, _, _, _, _, _, _, _, _, rfl⟩
      · refine ok_v (.ref 2 3 0 0) rfl rfl ?_
        refine ok_v (.d (.int .i64 p0.Size.X)) rfl rfl ?_
        refine ok_v (.ref 2 3 0 1) rfl rfl ?_
        refine ok_v (.d (.int .i64 p0.Size.Y)) rfl rfl ?_
        refine ok_v (.ref 2 3 0 2) rfl rfl ?_
        refine ok_v (.d (.int .i64 p0.Size.Z)) rfl rfl ?_
        refine ok_max (r := max (max p0.Size.X p0.Size.Y) p0.Size.Z) rfl rfl (by simp only [minI_max]; rfl) ?_
        refine ok_v (.d (.bool (decide ((max (max p0.Size.X p0.Size.Y) p0.Size.Z) > 1000000)))) rfl rfl ?_
        refine ok_v (.d (.bool (decide ((max (max p0.Size.X p0.Size.Y) p0.Size.Z) > 1000000)))) rfl rfl ?_
        refine ok_nil ?_
        obtain rfl := someE h15
        exact ⟨_, _, _, _, _, _, _, _, _, rfl⟩
    · rintro _ ⟨j16, j17, j18, j19, j20, j21, j22, j23, j24, rfl⟩
      refine ok_nil ?_
      refine rk_condH rfl h0 (fun _ h0 => ?_) (fun _ h0 => ?_)
      · refine rk_seq ?_
        refine rk_region ?_
        refine ok_as rfl rfl ?_
        refine ok_as rfl rfl ?_
        refine ok_nil ?_
        refine rk_ret ?_
        obtain rfl := someE h0
        exact finD (.inr rfl) (v := .d (.tup [.nilsl, .int .i64 8])) rfl rfl (dle_tup (.cons (.nil _) (.cons (.refl _) .nil)))
      · refine rk_skip ?_
        refine rk_seq ?_
        refine rk_seq ?_
        refine rk_region ?_
        refine ok_mv rfl rfl ?_
        refine ok_v (.d (.bool (decide (p1 < 0)))) rfl rfl ?_
        obtain ⟨c25, h26, h0⟩ := bindE h0
        refine ok_cutQ 4 (fun A st => ∃ (j27 j28 j29 : V), st = A [(53, .d (.bool c25)), (52, j29), (51, j28), (50, j27)]) ?_ ?_
        · refine ok_mvB rfl rfl h26 (fun h26 => ?_) (fun h26 => ?_)
          · refine ok_sg rfl ?_
            refine ok_sg rfl ?_
            refine ok_v (.d (.bool true)) rfl rfl ?_
            refine ok_nil ?_
            obtain rfl := someE h26
            exact ⟨_, _, _, rfl⟩
          · refine ok_mv rfl rfl ?_
            refine ok_v (.d (.bool (decide (p1 > 2)))) rfl rfl ?_
            refine ok_v (.d (.bool (decide (p1 > 2)))) rfl rfl ?_
            refine ok_nil ?_
            obtain rfl := someE h26
            exact ⟨_, _, _, rfl⟩
        · rintro _ ⟨j27, j28, j29, rfl⟩
          refine ok_nil ?_
          refine rk_condH rfl h0 (fun _ h0 => ?_) (fun _ h0 => ?_)
          · refine rk_seq ?_
            refine rk_region ?_
            refine ok_as rfl rfl ?_
            refine ok_as rfl rfl ?_
            refine ok_nil ?_
            refine rk_ret ?_
            obtain rfl := someE h0
            exact finD (.inr rfl) (v := .d (.tup [.nilsl, .int .i64 2])) rfl rfl (dle_tup (.cons (.nil _) (.cons (.refl _) .nil)))
          · refine rk_skip ?_
            refine rk_seq ?_
            refine rk_region ?_
            refine ok_mv rfl rfl ?_
            obtain ⟨r30, h31, h0⟩ := bindE h0
            refine ok_pc [.d (.sl 1 (p2.map (eI .i64)))] (split_Cuts_ok p2 r30 h31) rfl rfl rfl (.inl rfl) ?_
            refine ok_mv rfl rfl ?_
            refine ok_v (.d (.sl 1 (r30.1.map (eI .i64)))) rfl rfl ?_
            refine ok_v (.d (.int .i64 r30.2)) rfl rfl ?_
            refine ok_as rfl rfl ?_
            refine ok_as rfl rfl ?_
            refine ok_nil ?_
            refine rk_seq ?_
            refine rk_seq ?_
            refine rk_region ?_
            refine ok_mv rfl rfl ?_
            refine ok_v (.d (.bool (r30.2 != 0))) rfl rfl ?_
            refine ok_nil ?_
            refine rk_condH rfl h0 (fun _ h0 => ?_) (fun _ h0 => ?_)
            · refine rk_seq ?_
              refine rk_region ?_
              refine ok_mv rfl rfl ?_
              refine ok_as rfl rfl ?_
              refine ok_as rfl rfl ?_
              refine ok_nil ?_
              refine rk_ret ?_
              obtain rfl := someE h0
              exact finD (.inr rfl) (v := .d (.tup [.nilsl, .int .i64 r30.2])) rfl rfl (dle_tup (.cons (.nil _) (.cons (.refl _) .nil)))
            · refine rk_skip ?_
              refine rk_seq ?_
              refine rk_seq ?_
              refine rk_regionD [(some [], []), (some [], []), (some [], []), (some [], []), (some [2], []), (some [], []), (some [2], []), (some [], []), (some [2], []), (some [], []), (some [], []), (some [], []), (some [], []), (some [], []), (some [], [])] (by kernel_rfl) ?_
              refine ok_mv rfl rfl ?_
              refine ok_mv rfl rfl ?_
              refine ok_ln rfl rfl rfl rfl ?_
              obtain ⟨v32, h33, h0⟩ := bindE h0
              refine ok_ix (enc := (eI .i64)) h33 rfl rfl rfl rfl rfl rfl ?_
              refine ok_v (.d (.int .i64 v32)) rfl rfl ?_
              refine ok_v (.ref 2 3 0 0) rfl rfl ?_
              refine ok_v (.d (.int .i64 p0.Size.X)) rfl rfl ?_
              refine ok_v (.ref 2 3 0 1) rfl rfl ?_
              refine ok_v (.d (.int .i64 p0.Size.Y)) rfl rfl ?_
              refine ok_v (.ref 2 3 0 2) rfl rfl ?_
              refine ok_v (.d (.int .i64 p0.Size.Z)) rfl rfl ?_
              refine ok_v (.d (.agg [.int .i64 p0.Size.X, .int .i64 p0.Size.Y, .int .i64 p0.Size.Z])) rfl rfl ?_
              refine ok_mv rfl rfl ?_
              obtain ⟨v34, h35, h0⟩ := bindE h0
              refine ok_ixA (enc := (eI .i64)) [p0.Size.X, p0.Size.Y, p0.Size.Z] (.d (.int .i64 v34)) h35 (fun _ => rfl) rfl rfl rfl rfl rfl rfl ?_
              refine ok_v (.d (.bool (v32 != v34))) rfl rfl ?_
              refine ok_nil ?_
              refine rk_condH rfl h0 (fun _ h0 => ?_) (fun _ h0 => ?_)
              · refine rk_seq ?_
                refine rk_region ?_
                refine ok_as rfl rfl ?_
                refine ok_as rfl rfl ?_
                refine ok_nil ?_
                refine rk_ret ?_
                obtain rfl := someE h0
                exact finD (.inr rfl) (v := .d (.tup [.nilsl, .int .i64 2])) rfl rfl (dle_tup (.cons (.nil _) (.cons (.refl _) .nil)))
              · refine rk_skip ?_
                refine rk_seq ?_
                refine rk_region ?_
                refine ok_as rfl rfl ?_
                refine ok_nil ?_
                refine rk_seq ?_
                refine rk_seq ?_
                refine rk_region ?_
                refine ok_mv rfl rfl ?_
                refine ok_ln rfl rfl rfl rfl ?_
                refine ok_mv rfl rfl ?_
                refine ok_nil ?_
                obtain ⟨m87, h88, h0⟩ := bindE h0
                refine rk_blockcut (fun b89 => .inl b89 = m87) (fun (b89 : List api_Scope) => ⟨[(12, .hs 0 7 0 b89.length)], [(0, .dat 7 (b89.map enc_api_Scope))], 1⟩) (by simp) ?_ ?_
                · refine rk_loopF (split_Scopes_L1 p2 r30 p1 p0 r1) (fun (a86 : Int × Int × Int × Int × List api_Scope) => ⟨[(1, .d (.int .i64 p1)), (8, .ref 0 7 0 0), (10, .ref 1 3 0 0), (11, .d (.sl 1 (r30.1.map (eI .i64)))), (12, .hs 2 7 0 a86.2.2.2.2.length), (77, .d (.sl 1 (p2.map (eI .i64)))), (78, .d (.int .i64 (p2.length : Int))), (79, .d (.int .i64 a86.1))], [(0, .dat 7 [[.int .u8 r1.1.Frame.Turn, .int .i64 r1.1.Frame.At.X, .int .i64 r1.1.Frame.At.Y, .int .i64 r1.1.Frame.At.Z, .int .i64 a86.2.1, .int .i64 a86.2.2.1, .int .i64 a86.2.2.2.1]]), (1, .dat 3 [[.int .i64 p0.Size.X, .int .i64 p0.Size.Y, .int .i64 p0.Size.Z]]), (2, .dat 7 (a86.2.2.2.2.map enc_api_Scope))], 3⟩) (0, r1.1.Size.X, r1.1.Size.Y, r1.1.Size.Z, []) m87 h88 (wkE [(0, 1), (1, 2)] [] [2] rfl ⟨⟨_, rfl, .d (.refl _)⟩, ⟨_, rfl, .ref rfl (by decide) (ltd rfl)⟩, ⟨_, rfl, .ref rfl (by decide) (ltd rfl)⟩, ⟨_, rfl, .d (.refl _)⟩, ⟨_, rfl, .nil (by decide) (ltd rfl)⟩, ⟨_, rfl, .d (.refl _)⟩, ⟨_, rfl, .d (.refl _)⟩, ⟨_, rfl, .d (.refl _)⟩, trivial⟩ ⟨⟨ltd rfl, .inr ⟨by decide, _, rfl, .dat _ _⟩⟩, ⟨ltd rfl, .inr ⟨by decide, _, rfl, .dat _ _⟩⟩, ⟨ltd rfl, .inl ⟨by decide, _, by decide, rfl⟩⟩, trivial⟩) ?_
                  intro a86 y84 h85
                  unfold split_Scopes_L1 at h85
                  refine rk_seq ?_
                  refine rk_region ?_
                  refine ok_v (.d (.bool (decide (a86.1 < (p2.length : Int))))) rfl rfl ?_
                  refine ok_nil ?_
                  refine rk_seq ?_
                  refine rk_condH rfl h85 (fun _ h85 => ?_) (fun _ h85 => ?_)
                  · refine rk_skip ?_
                    refine rk_seq ?_
                    refine rk_block ?_
                    refine rk_seq ?_
                    refine rk_region ?_
                    refine ok_mv rfl rfl ?_
                    obtain ⟨v102, h103, h85⟩ := bindE h85
                    refine ok_ix (enc := (eI .i64)) h103 rfl rfl rfl rfl rfl rfl ?_
                    refine ok_v (.d (.int .i64 v102)) rfl rfl ?_
                    refine ok_as rfl rfl ?_
                    refine ok_as rfl rfl ?_
                    refine ok_nil ?_
                    refine rk_seq ?_
                    refine rk_region ?_
                    refine ok_v (.d (.agg [.int .i64 p0.Size.X, .int .i64 p0.Size.Y, .int .i64 p0.Size.Z])) rfl rfl ?_
                    refine ok_v (.ref 0 7 0 4) rfl rfl ?_
                    refine ok_sto 0 (.dat 7 [[.int .u8 r1.1.Frame.Turn, .int .i64 r1.1.Frame.At.X, .int .i64 r1.1.Frame.At.Y, .int .i64 r1.1.Frame.At.Z, .int .i64 p0.Size.X, .int .i64 p0.Size.Y, .int .i64 p0.Size.Z]]) rfl rfl ?_
                    refine ok_nil ?_
                    refine rk_seq ?_
                    refine rk_regionD [(some [], []), (some [3], [3]), (some [], [3]), (some [], []), (some [], []), (some [], []), (some [], []), (some [], []), (some [], []), (some [], []), (some [1], []), (some [], []), (some [], []), (some [], []), (some [], []), (some [], []), (some [], []), (some [], []), (some [0], [])] (by kernel_rfl) ?_
                    refine ok_v (.d (.agg [.int .u8 r1.1.Frame.Turn, .int .i64 r1.1.Frame.At.X, .int .i64 r1.1.Frame.At.Y, .int .i64 r1.1.Frame.At.Z, .int .i64 p0.Size.X, .int .i64 p0.Size.Y, .int .i64 p0.Size.Z])) rfl rfl ?_
                    refine ok_v (.d (.agg [.int .i64 0, .int .i64 0, .int .i64 0])) rfl rfl ?_
                    refine ok_mv rfl rfl ?_
                    refine ok_mv rfl rfl ?_
                    refine ok_mv rfl rfl ?_
                    obtain ⟨v104, h105, h85⟩ := bindE h85
                    refine ok_ix (enc := (eI .i64)) h105 rfl rfl rfl rfl rfl rfl ?_
                    refine ok_v (.d (.int .i64 v104)) rfl rfl ?_
                    obtain ⟨r106, h107, h85⟩ := bindE h85
                    refine ok_pc [.d (.agg [.int .i64 0, .int .i64 0, .int .i64 0]), .d (.int .i64 p1), .d (.int .i64 v104)] (split_along_ok ({ X := 0, Y := 0, Z := 0 } : api_Vec) p1 v104 r106 h107) rfl rfl rfl (.inl rfl) ?_
                    refine ok_v (.d (.agg [.int .i64 p0.Size.X, .int .i64 p0.Size.Y, .int .i64 p0.Size.Z])) rfl rfl ?_
                    refine ok_mv rfl rfl ?_
                    refine ok_mv rfl rfl ?_
                    obtain ⟨r108, h109, h85⟩ := bindE h85
                    refine ok_pc [.d (.agg [.int .i64 p0.Size.X, .int .i64 p0.Size.Y, .int .i64 p0.Size.Z]), .d (.int .i64 p1), .d (.int .i64 v102)] (split_along_ok p0.Size p1 v102 r108 h109) rfl rfl rfl (.inl rfl) ?_
                    obtain ⟨r110, h111, h85⟩ := bindE h85
                    refine ok_pc [.d (.agg [.int .u8 r1.1.Frame.Turn, .int .i64 r1.1.Frame.At.X, .int .i64 r1.1.Frame.At.Y, .int .i64 r1.1.Frame.At.Z, .int .i64 p0.Size.X, .int .i64 p0.Size.Y, .int .i64 p0.Size.Z]), .d (.agg [.int .i64 r106.X, .int .i64 r106.Y, .int .i64 r106.Z]), .d (.agg [.int .i64 r108.X, .int .i64 r108.Y, .int .i64 r108.Z]), .d (.int .u8 0)] (frame_Inside_ok ({ Frame := r1.1.Frame, Size := p0.Size } : api_Scope) r106 r108 0 r110 h111) rfl rfl rfl (.inl rfl) ?_
                    refine ok_mv rfl rfl ?_
                    refine ok_v (.d (.agg [.int .u8 r110.1.Frame.Turn, .int .i64 r110.1.Frame.At.X, .int .i64 r110.1.Frame.At.Y, .int .i64 r110.1.Frame.At.Z, .int .i64 r110.1.Size.X, .int .i64 r110.1.Size.Y, .int .i64 r110.1.Size.Z])) rfl rfl ?_
                    refine ok_v (.d (.int .i64 r110.2)) rfl rfl ?_
                    refine ok_alloc rfl rfl ?_
                    refine ok_sto 3 (.dat 7 [[.int .u8 r110.1.Frame.Turn, .int .i64 r110.1.Frame.At.X, .int .i64 r110.1.Frame.At.Y, .int .i64 r110.1.Frame.At.Z, .int .i64 r110.1.Size.X, .int .i64 r110.1.Size.Y, .int .i64 r110.1.Size.Z]]) rfl rfl ?_
                    refine ok_as rfl rfl ?_
                    refine ok_nil ?_
                    refine rk_seq ?_
                    refine rk_seq ?_
                    refine rk_region ?_
                    refine ok_mv rfl rfl ?_
                    refine ok_v (.d (.bool (r110.2 != 0))) rfl rfl ?_
                    refine ok_nil ?_
                    refine rk_condH rfl h85 (fun _ h85 => ?_) (fun _ h85 => ?_)
                    · refine rk_seq ?_
                      refine rk_region ?_
                      refine ok_mv rfl rfl ?_
                      refine ok_as rfl rfl ?_
                      refine ok_as rfl rfl ?_
                      refine ok_nil ?_
                      refine rk_ret ?_
                      refine ⟨_, (Option.some.inj h85).symm, fun hm => ?_⟩
                      subst hm
                      obtain rfl := someE h0
                      exact finD (.inr rfl) (v := .d (.tup [.nilsl, .int .i64 r110.2])) rfl rfl (dle_tup (.cons (.nil _) (.cons (.refl _) .nil)))
                    · refine rk_skip ?_
                      refine rk_region ?_
                      refine ok_mv rfl rfl ?_
                      refine ok_v (.d (.agg [.int .u8 r110.1.Frame.Turn, .int .i64 r110.1.Frame.At.X, .int .i64 r110.1.Frame.At.Y, .int .i64 r110.1.Frame.At.Z, .int .i64 r110.1.Size.X, .int .i64 r110.1.Size.Y, .int .i64 r110.1.Size.Z])) rfl rfl ?_
                      refine ok_new (.hs 4 7 0 [r110.1].length) (.dat 7 ([r110.1].map enc_api_Scope)) rfl rfl ?_
                      obtain ⟨z112, h113, h85⟩ := bindE h85
                      refine ok_ap (xs := a86.2.2.2.2) (ys := [r110.1]) (enc := enc_api_Scope) (.hs 4 7 0 [r110.1].length) h113 rfl rfl rfl rfl rfl rfl rfl (conts_hs rfl rfl) rfl rfl rfl rfl ?_
                      refine ok_as rfl rfl ?_
                      refine ok_nil ?_
                      refine rk_nil ?_
                      refine blk_nor ?_
                      refine rk_region ?_
                      refine ok_v (.d (.int .i64 (w64 (a86.1 + 1)))) rfl rfl ?_
                      refine ok_mv rfl rfl ?_
                      refine ok_nil ?_
                      refine rk_nil ?_
                      exact ⟨_, (Option.some.inj h85).symm, wkE [(0, 0), (1, 1), (2, 5)] [] [] rfl ⟨⟨_, rfl, .d (.refl _)⟩, ⟨_, rfl, .ref rfl (by decide) (ltd rfl)⟩, ⟨_, rfl, .ref rfl (by decide) (ltd rfl)⟩, ⟨_, rfl, .d (.refl _)⟩, ⟨_, rfl, .hs rfl (by decide) (ltd rfl)⟩, ⟨_, rfl, .d (.refl _)⟩, ⟨_, rfl, .d (.refl _)⟩, ⟨_, rfl, .d (.refl _)⟩, trivial⟩ ⟨⟨ltd rfl, .inr ⟨by decide, _, rfl, .dat _ _⟩⟩, ⟨ltd rfl, .inr ⟨by decide, _, rfl, .dat _ _⟩⟩, ⟨ltd rfl, .inr ⟨by decide, _, rfl, .dat _ _⟩⟩, trivial⟩⟩
                  · refine rk_exit ?_
                    refine ⟨_, (Option.some.inj h85).symm, fun hm => ?_⟩
                    subst hm
                    exact ⟨_, rfl, wkE [(0, 2)] [] [] rfl ⟨⟨_, rfl, .hs rfl (by decide) (ltd rfl)⟩, trivial⟩ ⟨⟨ltd rfl, .inr ⟨by decide, _, rfl, .dat _ _⟩⟩, trivial⟩⟩
                · intro b89 hb
                  subst hb
                  refine rk_seq ?_
                  refine rk_region ?_
                  refine ok_mv rfl rfl ?_
                  refine ok_as rfl rfl ?_
                  refine ok_as rfl rfl ?_
                  refine ok_nil ?_
                  refine rk_ret ?_
                  obtain rfl := someE h0
                  exact finD (.inr rfl) (v := .tup [.hs 0 7 0 b89.length, .d (.int .i64 0)]) rfl (td_tup (mm_cons (td_hs rfl rfl) (mm_cons rfl rfl))) (.refl _)

theorem l23_four_ok (r : List api_Part) (h0 : l23_four = some r) : Pure Try.prog tab 45 [] (.sl 4 (r.map enc_api_Part)) := by
  unfold l23_four at h0
  refine pure_of_run Try.func45 rfl (by kernel_rfl) (by kernel_rfl) rfl ?_
  refine rk_seq ?_
  refine rk_region ?_
  refine ok_as rfl rfl ?_
  refine ok_nil ?_
  refine rk_seq ?_
  refine rk_region ?_
  refine ok_v (.d (.agg [.int .u8 1, .int .i64 3, .int .i64 0, .int .i64 0])) rfl rfl ?_
  refine ok_v (.d (.agg [.int .i64 1, .int .i64 4])) rfl rfl ?_
  refine ok_v (.d (.agg [.int .u8 2, .int .i64 0, .int .i64 1, .int .i64 4])) rfl rfl ?_
  refine ok_v (.d (.agg [.int .u8 3, .int .i64 1, .int .i64 0, .int .i64 0])) rfl rfl ?_
  refine ok_v (.d (.agg [.int .u8 3, .int .i64 2, .int .i64 0, .int .i64 0])) rfl rfl ?_
  refine ok_new (.hs 0 4 0 [({ Kind := 1, Size := 3, Share := ({ Num := 0, Den := 0 } : api_Ratio) } : api_Part), ({ Kind := 2, Size := 0, Share := ({ Num := 1, Den := 4 } : api_Ratio) } : api_Part), ({ Kind := 3, Size := 1, Share := ({ Num := 0, Den := 0 } : api_Ratio) } : api_Part), ({ Kind := 3, Size := 2, Share := ({ Num := 0, Den := 0 } : api_Ratio) } : api_Part)].length) (.dat 4 ([({ Kind := 1, Size := 3, Share := ({ Num := 0, Den := 0 } : api_Ratio) } : api_Part), ({ Kind := 2, Size := 0, Share := ({ Num := 1, Den := 4 } : api_Ratio) } : api_Part), ({ Kind := 3, Size := 1, Share := ({ Num := 0, Den := 0 } : api_Ratio) } : api_Part), ({ Kind := 3, Size := 2, Share := ({ Num := 0, Den := 0 } : api_Ratio) } : api_Part)].map enc_api_Part)) rfl rfl ?_
  refine ok_as rfl rfl ?_
  refine ok_nil ?_
  refine rk_ret ?_
  obtain rfl := someE h0
  exact finD (.inr rfl) (v := .hs 0 4 0 [({ Kind := 1, Size := 3, Share := ({ Num := 0, Den := 0 } : api_Ratio) } : api_Part), ({ Kind := 2, Size := 0, Share := ({ Num := 1, Den := 4 } : api_Ratio) } : api_Part), ({ Kind := 3, Size := 1, Share := ({ Num := 0, Den := 0 } : api_Ratio) } : api_Part), ({ Kind := 3, Size := 2, Share := ({ Num := 0, Den := 0 } : api_Ratio) } : api_Part)].length) rfl (td_hs rfl rfl) (.refl _)

theorem r23_Same_ok (p0 : List Int) (p1 : List Int) (r : Bool) (h0 : r23_Same p0 p1 = some r) : Pure Try.prog tab 15 [.sl 1 (p0.map (eI .i64)), .sl 1 (p1.map (eI .i64))] (.bool r) := by
  unfold r23_Same at h0
  refine pure_of_run Try.func15 rfl (by kernel_rfl) (by kernel_rfl) rfl ?_
  refine rk_seq ?_
  refine rk_region ?_
  refine ok_as rfl rfl ?_
  refine ok_nil ?_
  refine rk_seq ?_
  refine rk_seq ?_
  refine rk_region ?_
  refine ok_mv rfl rfl ?_
  refine ok_ln rfl rfl rfl rfl ?_
  refine ok_mv rfl rfl ?_
  refine ok_ln rfl rfl rfl rfl ?_
  refine ok_v (.d (.bool ((p0.length : Int) != (p1.length : Int)))) rfl rfl ?_
  refine ok_nil ?_
  refine rk_condH rfl h0 (fun _ h0 => ?_) (fun _ h0 => ?_)
  · refine rk_seq ?_
    refine rk_region ?_
    refine ok_as rfl rfl ?_
    refine ok_nil ?_
    refine rk_ret ?_
    obtain rfl := someE h0
    exact finD (.inr rfl) (v := .d (.bool false)) rfl rfl (.refl _)
  · refine rk_skip ?_
    refine rk_seq ?_
    refine rk_seq ?_
    refine rk_region ?_
    refine ok_as rfl rfl ?_
    refine ok_nil ?_
    obtain ⟨m20, h21, h0⟩ := bindE h0
    refine rk_blockcut (fun b22 => .inl b22 = m20) (fun (b22 : Unit) => ⟨[], [], 0⟩) (by simp) ?_ ?_
    · refine rk_loopF (r23_Same_L1 p0 p1) (fun (a19 : Int) => ⟨[(0, .d (.sl 1 (p0.map (eI .i64)))), (1, .d (.sl 1 (p1.map (eI .i64)))), (5, .d (.int .i64 a19))], [], 0⟩) 0 m20 h21 (wkE [] [] [] rfl ⟨⟨_, rfl, .d (.refl _)⟩, ⟨_, rfl, .d (.refl _)⟩, ⟨_, rfl, .d (.refl _)⟩, trivial⟩ trivial) ?_
      intro a19 y17 h18
      unfold r23_Same_L1 at h18
      refine rk_seq ?_
      refine rk_seq ?_
      refine rk_region ?_
      refine ok_mv rfl rfl ?_
      refine ok_mv rfl rfl ?_
      refine ok_ln rfl rfl rfl rfl ?_
      refine ok_v (.d (.bool (decide (a19 < (p0.length : Int))))) rfl rfl ?_
      refine ok_nil ?_
      refine rk_condH rfl h18 (fun _ h18 => ?_) (fun _ h18 => ?_)
      · refine rk_skip ?_
        refine rk_seq ?_
        refine rk_block ?_
        refine rk_seq ?_
        refine rk_regionD [(some [], []), (some [], []), (some [], []), (some [], []), (some [], []), (some [], []), (some [], []), (some [], []), (some [], [])] (by kernel_rfl) ?_
        refine ok_mv rfl rfl ?_
        refine ok_mv rfl rfl ?_
        obtain ⟨v27, h28, h18⟩ := bindE h18
        refine ok_ix (enc := (eI .i64)) h28 rfl rfl rfl rfl rfl rfl ?_
        refine ok_v (.d (.int .i64 v27)) rfl rfl ?_
        refine ok_mv rfl rfl ?_
        refine ok_mv rfl rfl ?_
        obtain ⟨v29, h30, h18⟩ := bindE h18
        refine ok_ix (enc := (eI .i64)) h30 rfl rfl rfl rfl rfl rfl ?_
        refine ok_v (.d (.int .i64 v29)) rfl rfl ?_
        refine ok_v (.d (.bool (v27 != v29))) rfl rfl ?_
        refine ok_nil ?_
        refine rk_condH rfl h18 (fun _ h18 => ?_) (fun _ h18 => ?_)
        · refine rk_seq ?_
          refine rk_region ?_
          refine ok_as rfl rfl ?_
          refine ok_nil ?_
          refine rk_ret ?_
          refine ⟨_, (Option.some.inj h18).symm, fun hm => ?_⟩
          subst hm
          obtain rfl := someE h0
          exact finD (.inr rfl) (v := .d (.bool false)) rfl rfl (.refl _)
        · refine rk_skip ?_
          refine rk_nil ?_
          refine blk_nor ?_
          refine rk_region ?_
          refine ok_mv rfl rfl ?_
          refine ok_v (.d (.int .i64 (w64 (a19 + 1)))) rfl rfl ?_
          refine ok_as rfl rfl ?_
          refine ok_nil ?_
          refine rk_nil ?_
          exact ⟨_, (Option.some.inj h18).symm, wkE [] [] [] rfl ⟨⟨_, rfl, .d (.refl _)⟩, ⟨_, rfl, .d (.refl _)⟩, ⟨_, rfl, .d (.refl _)⟩, trivial⟩ trivial⟩
      · refine rk_exit ?_
        refine ⟨_, (Option.some.inj h18).symm, fun hm => ?_⟩
        subst hm
        exact ⟨_, rfl, wkE [] [] [] rfl trivial trivial⟩
    · intro b22 hb
      subst hb
      refine rk_seq ?_
      refine rk_region ?_
      refine ok_as rfl rfl ?_
      refine ok_nil ?_
      refine rk_ret ?_
      obtain rfl := someE h0
      exact finD (.inr rfl) (v := .d (.bool true)) rfl rfl (.refl _)

theorem l23_alive_ok (r : Bool) (h0 : l23_alive = some r) : Pure Try.prog tab 25 [] (.bool r) := by
  unfold l23_alive at h0
  refine pure_of_run Try.func25 rfl (by kernel_rfl) (by kernel_rfl) rfl ?_
  refine rk_seq ?_
  refine rk_region ?_
  refine ok_as rfl rfl ?_
  refine ok_nil ?_
  refine rk_seq ?_
  refine rk_region ?_
  obtain ⟨r1, h2, h0⟩ := bindE h0
  refine ok_pc [] (l23_four_ok r1 h2) rfl rfl rfl (.inl rfl) ?_
  obtain ⟨r3, h4, h0⟩ := bindE h0
  refine ok_pc [.d (.int .i64 10), .d (.sl 4 (r1.map enc_api_Part))] (split_Sizes_ok 10 r1 r3 h4) rfl rfl rfl (.inl rfl) ?_
  refine ok_mv rfl rfl ?_
  refine ok_v (.d (.sl 1 (r3.1.map (eI .i64)))) rfl rfl ?_
  refine ok_v (.d (.int .i64 r3.2)) rfl rfl ?_
  refine ok_as rfl rfl ?_
  refine ok_as rfl rfl ?_
  refine ok_nil ?_
  refine rk_seq ?_
  refine rk_region ?_
  obtain ⟨r5, h6, h0⟩ := bindE h0
  refine ok_pc [.d (.int .i64 10), .d (.int .i64 4)] (split_Repeat_ok 10 4 r5 h6) rfl rfl rfl (.inl rfl) ?_
  refine ok_mv rfl rfl ?_
  refine ok_v (.d (.sl 1 (r5.1.map (eI .i64)))) rfl rfl ?_
  refine ok_v (.d (.int .i64 r5.2)) rfl rfl ?_
  refine ok_as rfl rfl ?_
  refine ok_as rfl rfl ?_
  refine ok_nil ?_
  refine rk_seq ?_
  refine rk_region ?_
  refine ok_fzn (es := 1) ([3, 2, 0, 5].map (eI .i64)) rfl rfl rfl rfl rfl ?_
  obtain ⟨r7, h8, h0⟩ := bindE h0
  refine ok_pc [.d (.sl 1 ([3, 2, 0, 5].map (eI .i64)))] (split_Cuts_ok [3, 2, 0, 5] r7 h8) rfl rfl rfl (.inl rfl) ?_
  refine ok_mv rfl rfl ?_
  refine ok_v (.d (.sl 1 (r7.1.map (eI .i64)))) rfl rfl ?_
  refine ok_v (.d (.int .i64 r7.2)) rfl rfl ?_
  refine ok_as rfl rfl ?_
  refine ok_as rfl rfl ?_
  refine ok_nil ?_
  refine rk_seq ?_
  refine rk_region ?_
  refine ok_mv rfl rfl ?_
  obtain ⟨r9, h10, h0⟩ := bindE h0
  refine ok_pc [.d (.sl 1 (r7.1.map (eI .i64))), .d (.int .i64 5)] (split_At_ok r7.1 5 r9 h10) rfl rfl rfl (.inl rfl) ?_
  refine ok_mv rfl rfl ?_
  refine ok_v (.d (.int .i64 r9.1)) rfl rfl ?_
  refine ok_v (.d (.int .i64 r9.2)) rfl rfl ?_
  refine ok_as rfl rfl ?_
  refine ok_as rfl rfl ?_
  refine ok_nil ?_
  refine rk_seq ?_
  refine rk_region ?_
  refine ok_mv rfl rfl ?_
  refine ok_v (.d (.bool (r3.2 == 0))) rfl rfl ?_
  refine ok_mvB rfl rfl h0 (fun h0 => ?_) (fun h0 => ?_)
  · refine ok_mv rfl rfl ?_
    refine ok_new (.hs 1 1 0 [3, 2, 1, 4].length) (.dat 1 ([3, 2, 1, 4].map (eI .i64))) rfl rfl ?_
    obtain ⟨r13, h14, h0⟩ := bindE h0
    refine ok_pc [.d (.sl 1 (r3.1.map (eI .i64))), .hs 1 1 0 [3, 2, 1, 4].length] (r23_Same_ok r3.1 [3, 2, 1, 4] r13 h14) rfl rfl (af_cons rfl (af_cons (td_hs rfl rfl) rfl)) (.inr rfl) ?_
    refine ok_v (.d (.bool r13)) rfl rfl ?_
    obtain ⟨c15, h16, h0⟩ := bindE h0
    refine ok_cutQ 4 (fun A st => ∃ (j17 j18 j19 : V), st = A [(38, .d (.bool c15)), (37, j19), (36, j18), (35, j17)]) ?_ ?_
    · refine ok_mvB rfl rfl h16 (fun h16 => ?_) (fun h16 => ?_)
      · refine ok_mv rfl rfl ?_
        refine ok_v (.d (.bool (r5.2 == 0))) rfl rfl ?_
        refine ok_v (.d (.bool (r5.2 == 0))) rfl rfl ?_
        refine ok_nil ?_
        obtain rfl := someE h16
        exact ⟨_, _, _, rfl⟩
      · refine ok_sg rfl ?_
        refine ok_sg rfl ?_
        refine ok_v (.d (.bool false)) rfl rfl ?_
        refine ok_nil ?_
        obtain rfl := someE h16
        exact ⟨_, _, _, rfl⟩
    · rintro _ ⟨j17, j18, j19, rfl⟩
      refine ok_mvB rfl rfl h0 (fun h0 => ?_) (fun h0 => ?_)
      · refine ok_mv rfl rfl ?_
        refine ok_new (.hs 2 1 0 [3, 3, 4].length) (.dat 1 ([3, 3, 4].map (eI .i64))) rfl rfl ?_
        obtain ⟨r22, h23, h0⟩ := bindE h0
        refine ok_pc [.d (.sl 1 (r5.1.map (eI .i64))), .hs 2 1 0 [3, 3, 4].length] (r23_Same_ok r5.1 [3, 3, 4] r22 h23) rfl rfl (af_cons rfl (af_cons (td_hs rfl rfl) rfl)) (.inr rfl) ?_
        refine ok_v (.d (.bool r22)) rfl rfl ?_
        obtain ⟨c24, h25, h0⟩ := bindE h0
        refine ok_cutQ 4 (fun A st => ∃ (j26 j27 j28 : V), st = A [(47, .d (.bool c24)), (46, j28), (45, j27), (44, j26)]) ?_ ?_
        · refine ok_mvB rfl rfl h25 (fun h25 => ?_) (fun h25 => ?_)
          · refine ok_mv rfl rfl ?_
            refine ok_v (.d (.bool (r7.2 == 0))) rfl rfl ?_
            refine ok_v (.d (.bool (r7.2 == 0))) rfl rfl ?_
            refine ok_nil ?_
            obtain rfl := someE h25
            exact ⟨_, _, _, rfl⟩
          · refine ok_sg rfl ?_
            refine ok_sg rfl ?_
            refine ok_v (.d (.bool false)) rfl rfl ?_
            refine ok_nil ?_
            obtain rfl := someE h25
            exact ⟨_, _, _, rfl⟩
        · rintro _ ⟨j26, j27, j28, rfl⟩
          refine ok_mvB rfl rfl h0 (fun h0 => ?_) (fun h0 => ?_)
          · refine ok_mv rfl rfl ?_
            refine ok_new (.hs 3 1 0 [0, 3, 5, 5, 10].length) (.dat 1 ([0, 3, 5, 5, 10].map (eI .i64))) rfl rfl ?_
            obtain ⟨r31, h32, h0⟩ := bindE h0
            refine ok_pc [.d (.sl 1 (r7.1.map (eI .i64))), .hs 3 1 0 [0, 3, 5, 5, 10].length] (r23_Same_ok r7.1 [0, 3, 5, 5, 10] r31 h32) rfl rfl (af_cons rfl (af_cons (td_hs rfl rfl) rfl)) (.inr rfl) ?_
            refine ok_v (.d (.bool r31)) rfl rfl ?_
            obtain ⟨c33, h34, h0⟩ := bindE h0
            refine ok_cutQ 4 (fun A st => ∃ (j35 j36 j37 : V), st = A [(56, .d (.bool c33)), (55, j37), (54, j36), (53, j35)]) ?_ ?_
            · refine ok_mvB rfl rfl h34 (fun h34 => ?_) (fun h34 => ?_)
              · refine ok_mv rfl rfl ?_
                refine ok_v (.d (.bool (r9.2 == 0))) rfl rfl ?_
                refine ok_v (.d (.bool (r9.2 == 0))) rfl rfl ?_
                refine ok_nil ?_
                obtain rfl := someE h34
                exact ⟨_, _, _, rfl⟩
              · refine ok_sg rfl ?_
                refine ok_sg rfl ?_
                refine ok_v (.d (.bool false)) rfl rfl ?_
                refine ok_nil ?_
                obtain rfl := someE h34
                exact ⟨_, _, _, rfl⟩
            · rintro _ ⟨j35, j36, j37, rfl⟩
              obtain ⟨c38, h39, h0⟩ := bindE h0
              refine ok_cutQ 4 (fun A st => ∃ (j40 j41 j42 : V), st = A [(60, .d (.bool c38)), (59, j42), (58, j41), (57, j40)]) ?_ ?_
              · refine ok_mvB rfl rfl h39 (fun h39 => ?_) (fun h39 => ?_)
                · refine ok_mv rfl rfl ?_
                  refine ok_v (.d (.bool (r9.1 == 3))) rfl rfl ?_
                  refine ok_v (.d (.bool (r9.1 == 3))) rfl rfl ?_
                  refine ok_nil ?_
                  obtain rfl := someE h39
                  exact ⟨_, _, _, rfl⟩
                · refine ok_sg rfl ?_
                  refine ok_sg rfl ?_
                  refine ok_v (.d (.bool false)) rfl rfl ?_
                  refine ok_nil ?_
                  obtain rfl := someE h39
                  exact ⟨_, _, _, rfl⟩
              · rintro _ ⟨j40, j41, j42, rfl⟩
                refine ok_as rfl rfl ?_
                refine ok_nil ?_
                refine rk_ret ?_
                obtain rfl := someE h0
                exact finD (.inr rfl) (v := .d (.bool c38)) rfl rfl (.refl _)
          · refine ok_sg rfl ?_
            refine ok_sg rfl ?_
            refine ok_sg rfl ?_
            refine ok_v (.d (.bool false)) rfl rfl ?_
            refine ok_mv rfl rfl ?_
            refine ok_sg rfl ?_
            refine ok_sg rfl ?_
            refine ok_v (.d (.bool false)) rfl rfl ?_
            refine ok_mv rfl rfl ?_
            refine ok_sg rfl ?_
            refine ok_sg rfl ?_
            refine ok_v (.d (.bool false)) rfl rfl ?_
            refine ok_as rfl rfl ?_
            refine ok_nil ?_
            refine rk_ret ?_
            obtain rfl := someE h0
            exact finD (.inr rfl) (v := .d (.bool false)) rfl rfl (.refl _)
      · refine ok_sg rfl ?_
        refine ok_sg rfl ?_
        refine ok_sg rfl ?_
        refine ok_v (.d (.bool false)) rfl rfl ?_
        refine ok_mv rfl rfl ?_
        refine ok_sg rfl ?_
        refine ok_sg rfl ?_
        refine ok_v (.d (.bool false)) rfl rfl ?_
        refine ok_mv rfl rfl ?_
        refine ok_sg rfl ?_
        refine ok_sg rfl ?_
        refine ok_sg rfl ?_
        refine ok_v (.d (.bool false)) rfl rfl ?_
        refine ok_mv rfl rfl ?_
        refine ok_sg rfl ?_
        refine ok_sg rfl ?_
        refine ok_v (.d (.bool false)) rfl rfl ?_
        refine ok_mv rfl rfl ?_
        refine ok_sg rfl ?_
        refine ok_sg rfl ?_
        refine ok_v (.d (.bool false)) rfl rfl ?_
        refine ok_as rfl rfl ?_
        refine ok_nil ?_
        refine rk_ret ?_
        obtain rfl := someE h0
        exact finD (.inr rfl) (v := .d (.bool false)) rfl rfl (.refl _)
  · refine ok_sg rfl ?_
    refine ok_sg rfl ?_
    refine ok_sg rfl ?_
    refine ok_v (.d (.bool false)) rfl rfl ?_
    refine ok_mv rfl rfl ?_
    refine ok_sg rfl ?_
    refine ok_sg rfl ?_
    refine ok_v (.d (.bool false)) rfl rfl ?_
    refine ok_mv rfl rfl ?_
    refine ok_sg rfl ?_
    refine ok_sg rfl ?_
    refine ok_sg rfl ?_
    refine ok_v (.d (.bool false)) rfl rfl ?_
    refine ok_mv rfl rfl ?_
    refine ok_sg rfl ?_
    refine ok_sg rfl ?_
    refine ok_v (.d (.bool false)) rfl rfl ?_
    refine ok_mv rfl rfl ?_
    refine ok_sg rfl ?_
    refine ok_sg rfl ?_
    refine ok_sg rfl ?_
    refine ok_v (.d (.bool false)) rfl rfl ?_
    refine ok_mv rfl rfl ?_
    refine ok_sg rfl ?_
    refine ok_sg rfl ?_
    refine ok_v (.d (.bool false)) rfl rfl ?_
    refine ok_mv rfl rfl ?_
    refine ok_sg rfl ?_
    refine ok_sg rfl ?_
    refine ok_v (.d (.bool false)) rfl rfl ?_
    refine ok_as rfl rfl ?_
    refine ok_nil ?_
    refine rk_ret ?_
    obtain rfl := someE h0
    exact finD (.inr rfl) (v := .d (.bool false)) rfl rfl (.refl _)

end Go.Proofs.Ytbfdjpffambpfaa
