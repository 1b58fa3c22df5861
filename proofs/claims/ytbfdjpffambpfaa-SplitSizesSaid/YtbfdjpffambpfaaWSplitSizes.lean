/- THE WALKS, lifted by program. -/
import Derived.Test.YtbfdjpffambpfaaPsplit
import Derived.Test.YtbfdjpffambpfaaTabsplit
namespace Go.Proofs.Ytbfdjpffambpfaa
open Go Go.Am Go.Sh
theorem slices_IndexFunc_api_Part_api_Part_ok (p0 : List api_Part) (p1 : api_Part → Option Bool) (p1F : FuncId) (p1C : List DV) (p1Ok : ∀ (x0 : api_Part) (r : Bool), p1 x0 = some r → Pure Try.prog tab p1F ([.agg [.int .u8 x0.Kind, .int .i64 x0.Size, .int .i64 x0.Share.Num, .int .i64 x0.Share.Den]] ++ p1C) (.bool r)) (r : Int) (h0 : slices_IndexFunc_api_Part_api_Part p0 p1 = some r) : Pure Try.prog tab 47 [.sl 4 (p0.map enc_api_Part), .fn p1F p1C] (.int .i64 r) := by
  unfold slices_IndexFunc_api_Part_api_Part at h0
  refine pure_of_run Try.func47 rfl (by kernel_rfl) (by kernel_rfl) rfl ?_
  refine rk_seq ?_
  refine rk_region ?_
  refine ok_as rfl rfl ?_
  refine ok_nil ?_
  refine rk_seq ?_
  refine rk_seq ?_
  refine rk_region ?_
  refine ok_mv rfl rfl ?_
  refine ok_ln rfl rfl rfl rfl ?_
  refine ok_mv rfl rfl ?_
  refine ok_nil ?_
  obtain ⟨m20, h21, h0⟩ := bindE h0
  refine rk_blockcut (fun b22 => .inl b22 = m20) (fun (b22 : Unit) => ⟨[], [], 0⟩) (by simp) ?_ ?_
  · refine rk_loopF (slices_IndexFunc_api_Part_api_Part_L1 p0 p1) (fun (a19 : Int) => ⟨[(0, .d (.sl 4 (p0.map enc_api_Part))), (1, .d (.fn p1F p1C)), (7, .d (.int .i64 (p0.length : Int))), (8, .d (.int .i64 a19))], [], 0⟩) 0 m20 h21 (wkE [] [] [] rfl ⟨⟨_, rfl, .d (.refl _)⟩, ⟨_, rfl, .d (.refl _)⟩, ⟨_, rfl, .d (.refl _)⟩, ⟨_, rfl, .d (.refl _)⟩, trivial⟩ trivial) ?_
    intro a19 y17 h18
    unfold slices_IndexFunc_api_Part_api_Part_L1 at h18
    refine rk_seq ?_
    refine rk_region ?_
    refine ok_v (.d (.bool (decide (a19 < (p0.length : Int))))) rfl rfl ?_
    refine ok_nil ?_
    refine rk_seq ?_
    refine rk_condH rfl h18 (fun _ h18 => ?_) (fun _ h18 => ?_)
    · refine rk_skip ?_
      refine rk_seq ?_
      refine rk_block ?_
      refine rk_seq ?_
      refine rk_region ?_
      refine ok_mv rfl rfl ?_
      refine ok_as rfl rfl ?_
      refine ok_nil ?_
      refine rk_seq ?_
      refine rk_region ?_
      refine ok_mv rfl rfl ?_
      refine ok_mv rfl rfl ?_
      refine ok_mv rfl rfl ?_
      obtain ⟨v27, h28, h18⟩ := bindE h18
      refine ok_ix (enc := enc_api_Part) h28 rfl rfl rfl rfl rfl rfl ?_
      refine ok_v (.d (.agg [.int .u8 v27.Kind, .int .i64 v27.Size, .int .i64 v27.Share.Num, .int .i64 v27.Share.Den])) rfl rfl ?_
      obtain ⟨r29, h30, h18⟩ := bindE h18
      refine ok_pf [.d (.agg [.int .u8 v27.Kind, .int .i64 v27.Size, .int .i64 v27.Share.Num, .int .i64 v27.Share.Den])] (p1Ok v27 r29 h30) rfl rfl rfl (.inl rfl) ?_
      refine ok_nil ?_
      refine rk_condH rfl h18 (fun _ h18 => ?_) (fun _ h18 => ?_)
      · refine rk_seq ?_
        refine rk_region ?_
        refine ok_mv rfl rfl ?_
        refine ok_as rfl rfl ?_
        refine ok_nil ?_
        refine rk_ret ?_
        refine ⟨_, (Option.some.inj h18).symm, fun hm => ?_⟩
        subst hm
        obtain rfl := someE h0
        exact finD (.inr rfl) (v := .d (.int .i64 a19)) rfl rfl (.refl _)
      · refine rk_skip ?_
        refine rk_nil ?_
        refine blk_nor ?_
        refine rk_region ?_
        refine ok_v (.d (.int .i64 (w64 (a19 + 1)))) rfl rfl ?_
        refine ok_mv rfl rfl ?_
        refine ok_nil ?_
        refine rk_nil ?_
        exact ⟨_, (Option.some.inj h18).symm, wkE [] [] [] rfl ⟨⟨_, rfl, .d (.refl _)⟩, ⟨_, rfl, .d (.refl _)⟩, ⟨_, rfl, .d (.refl _)⟩, ⟨_, rfl, .d (.refl _)⟩, trivial⟩ trivial⟩
    · refine rk_exit ?_
      refine ⟨_, (Option.some.inj h18).symm, fun hm => ?_⟩
      subst hm
      exact ⟨_, rfl, wkE [] [] [] rfl trivial trivial⟩
  · intro b22 hb
    subst hb
    refine rk_seq ?_
    refine rk_region ?_
    refine ok_as rfl rfl ?_
    refine ok_nil ?_
    refine rk_ret ?_
    obtain rfl := someE h0
    exact finD (.inr rfl) (v := .d (.int .i64 (-1))) rfl rfl (.refl _)

theorem slices_ContainsFunc_api_Part_api_Part_ok (p0 : List api_Part) (p1 : api_Part → Option Bool) (p1F : FuncId) (p1C : List DV) (p1Ok : ∀ (x0 : api_Part) (r : Bool), p1 x0 = some r → Pure Try.prog tab p1F ([.agg [.int .u8 x0.Kind, .int .i64 x0.Size, .int .i64 x0.Share.Num, .int .i64 x0.Share.Den]] ++ p1C) (.bool r)) (r : Bool) (h0 : slices_ContainsFunc_api_Part_api_Part p0 p1 = some r) : Pure Try.prog tab 30 [.sl 4 (p0.map enc_api_Part), .fn p1F p1C] (.bool r) := by
  unfold slices_ContainsFunc_api_Part_api_Part at h0
  refine pure_of_run Try.func30 rfl (by kernel_rfl) (by kernel_rfl) rfl ?_
  refine rk_seq ?_
  refine rk_region ?_
  refine ok_as rfl rfl ?_
  refine ok_nil ?_
  refine rk_seq ?_
  refine rk_region ?_
  refine ok_mv rfl rfl ?_
  refine ok_mv rfl rfl ?_
  obtain ⟨r1, h2, h0⟩ := bindE h0
  refine ok_pc [.d (.sl 4 (p0.map enc_api_Part)), .d (.fn p1F p1C)] (slices_IndexFunc_api_Part_api_Part_ok p0 p1 p1F p1C p1Ok r1 h2) rfl rfl rfl (.inl rfl) ?_
  refine ok_v (.d (.bool (decide (r1 ≥ 0)))) rfl rfl ?_
  refine ok_as rfl rfl ?_
  refine ok_nil ?_
  refine rk_ret ?_
  obtain rfl := someE h0
  exact finD (.inr rfl) (v := .d (.bool (decide (r1 ≥ 0)))) rfl rfl (.refl _)

theorem ratio_size_ok (p0 : Int) (r : Int) (h0 : ratio_size p0 = some r) : Pure Try.prog tab 63 [.int .i64 p0] (.int .u64 r) := by
  unfold ratio_size at h0
  refine pure_of_run Try.func63 rfl (by kernel_rfl) (by kernel_rfl) rfl ?_
  refine rk_seq ?_
  refine rk_region ?_
  refine ok_as rfl rfl ?_
  refine ok_nil ?_
  refine rk_seq ?_
  refine rk_seq ?_
  refine rk_region ?_
  refine ok_mv rfl rfl ?_
  refine ok_v (.d (.bool (decide (p0 < 0)))) rfl rfl ?_
  refine ok_nil ?_
  refine rk_condH rfl h0 (fun _ h0 => ?_) (fun _ h0 => ?_)
  · refine rk_seq ?_
    refine rk_region ?_
    refine ok_mv rfl rfl ?_
    refine ok_v (.d (.int .u64 (IntKind.wrap .u64 p0))) rfl rfl ?_
    refine ok_v (.d (.int .u64 (IntKind.wrap .u64 (0 - (IntKind.wrap .u64 p0))))) rfl rfl ?_
    refine ok_as rfl rfl ?_
    refine ok_nil ?_
    refine rk_ret ?_
    obtain rfl := someE h0
    exact finD (.inr rfl) (v := .d (.int .u64 (IntKind.wrap .u64 (0 - (IntKind.wrap .u64 p0))))) rfl rfl (.refl _)
  · refine rk_skip ?_
    refine rk_seq ?_
    refine rk_region ?_
    refine ok_mv rfl rfl ?_
    refine ok_v (.d (.int .u64 (IntKind.wrap .u64 p0))) rfl rfl ?_
    refine ok_as rfl rfl ?_
    refine ok_nil ?_
    refine rk_ret ?_
    obtain rfl := someE h0
    exact finD (.inr rfl) (v := .d (.int .u64 (IntKind.wrap .u64 p0))) rfl rfl (.refl _)

theorem ratio_gcd_ok (p0 : Int) (p1 : Int) (r : Int) (h0 : ratio_gcd p0 p1 = some r) : Pure Try.prog tab 64 [.int .u64 p0, .int .u64 p1] (.int .u64 r) := by
  unfold ratio_gcd at h0
  refine pure_of_run Try.func64 rfl (by kernel_rfl) (by kernel_rfl) rfl ?_
  refine rk_seq ?_
  refine rk_region ?_
  refine ok_as rfl rfl ?_
  refine ok_nil ?_
  refine rk_seq ?_
  obtain ⟨m8, h9, h0⟩ := bindE h0
  refine rk_blockcut (fun b10 => b10 = m8) (fun (b10 : Int) => ⟨[(0, .d (.int .u64 b10))], [], 0⟩) (by simp) ?_ ?_
  · refine rk_loopF (ratio_gcd_L1) (fun (a7 : Int × Int) => ⟨[(0, .d (.int .u64 a7.1)), (1, .d (.int .u64 a7.2))], [], 0⟩) (p0, p1) m8 h9 (wkE [] [] [] rfl ⟨⟨_, rfl, .d (.refl _)⟩, ⟨_, rfl, .d (.refl _)⟩, trivial⟩ trivial) ?_
    intro a7 y5 h6
    unfold ratio_gcd_L1 at h6
    refine rk_seq ?_
    refine rk_seq ?_
    refine rk_region ?_
    refine ok_mv rfl rfl ?_
    refine ok_v (.d (.bool (a7.2 != 0))) rfl rfl ?_
    refine ok_nil ?_
    refine rk_condH rfl h6 (fun _ h6 => ?_) (fun _ h6 => ?_)
    · refine rk_skip ?_
      refine rk_block ?_
      refine rk_regionD [(some [], []), (some [], []), (some [], []), (some [], []), (some [], []), (some [], [])] (by kernel_rfl) ?_
      refine ok_mv rfl rfl ?_
      refine ok_mv rfl rfl ?_
      refine ok_mv rfl rfl ?_
      obtain ⟨q11, h12, h6⟩ := bindE h6
      refine ok_remK h12 rfl rfl rfl ?_
      refine ok_as rfl rfl ?_
      refine ok_as rfl rfl ?_
      refine ok_nil ?_
      refine rk_nil ?_
      refine blk_nor ?_
      refine rk_nil ?_
      exact ⟨_, (Option.some.inj h6).symm, wkE [] [] [] rfl ⟨⟨_, rfl, .d (.refl _)⟩, ⟨_, rfl, .d (.refl _)⟩, trivial⟩ trivial⟩
    · refine rk_exit ?_
      refine ⟨_, (Option.some.inj h6).symm, fun hm => ?_⟩
      subst hm
      exact ⟨_, rfl, wkE [] [] [] rfl ⟨⟨_, rfl, .d (.refl _)⟩, trivial⟩ trivial⟩
  · intro b10 hb
    subst hb
    refine rk_seq ?_
    refine rk_region ?_
    refine ok_mv rfl rfl ?_
    refine ok_as rfl rfl ?_
    refine ok_nil ?_
    refine rk_ret ?_
    obtain rfl := someE h0
    exact finD (.inr rfl) (v := .d (.int .u64 b10)) rfl rfl (.refl _)

theorem ratio_Check_ok (p0 : api_Ratio) (r : Int) (h0 : ratio_Check p0 = some r) : Pure Try.prog tab 48 [.agg [.int .i64 p0.Num, .int .i64 p0.Den]] (.int .i64 r) := by
  unfold ratio_Check at h0
  refine pure_of_run Try.func48 rfl (by kernel_rfl) (by kernel_rfl) rfl ?_
  refine rk_seq ?_
  refine rk_region ?_
  refine ok_new (.ref 0 2 0 0) (.dat 2 [[.int .i64 p0.Num, .int .i64 p0.Den]]) rfl rfl ?_
  refine ok_as rfl rfl ?_
  refine ok_nil ?_
  refine rk_seq ?_
  refine rk_seq ?_
  refine rk_regionD [(some [], []), (some [], []), (some [], []), (some [], []), (some [0], []), (some [], []), (some [], []), (some [0], []), (some [], []), (some [], []), (some [], []), (some [], []), (some [], []), (some [0], []), (some [], []), (some [], []), (some [], []), (some [], []), (some [0], []), (some [], []), (some [], []), (some [], []), (some [0], []), (some [], [])] (by kernel_rfl) ?_
  refine ok_v (.ref 0 2 0 1) rfl rfl ?_
  refine ok_v (.d (.int .i64 p0.Den)) rfl rfl ?_
  refine ok_v (.d (.bool (decide (p0.Den < 1)))) rfl rfl ?_
  obtain ⟨c1, h2, h0⟩ := bindE h0
  refine ok_cutQ 5 (fun A st => ∃ (j3 j4 j5 j6 : V), st = A [(10, .d (.bool c1)), (9, j6), (8, j5), (7, j4), (6, j3)]) ?_ ?_
  · refine ok_mvB rfl rfl h2 (fun h2 => ?_) (fun h2 => ?_)
    · refine ok_sg rfl ?_
      refine ok_sg rfl ?_
      refine ok_sg rfl ?_
      refine ok_v (.d (.bool true)) rfl rfl ?_
      refine ok_nil ?_
      obtain rfl := someE h2
      exact ⟨_, _, _, _, rfl⟩
    · refine ok_v (.ref 0 2 0 1) rfl rfl ?_
      refine ok_v (.d (.int .i64 p0.Den)) rfl rfl ?_
      refine ok_v (.d (.bool (decide (p0.Den > 1000000000)))) rfl rfl ?_
      refine ok_v (.d (.bool (decide (p0.Den > 1000000000)))) rfl rfl ?_
      refine ok_nil ?_
      obtain rfl := someE h2
      exact ⟨_, _, _, _, rfl⟩
  · rintro _ ⟨j3, j4, j5, j6, rfl⟩
    obtain ⟨c9, h10, h0⟩ := bindE h0
    refine ok_cutQ 6 (fun A st => ∃ (j11 j12 j13 j14 j15 : V), st = A [(16, .d (.bool c9)), (15, j15), (14, j14), (13, j13), (12, j12), (11, j11)]) ?_ ?_
    · refine ok_mvB rfl rfl h10 (fun h10 => ?_) (fun h10 => ?_)
      · refine ok_sg rfl ?_
        refine ok_sg rfl ?_
        refine ok_sg rfl ?_
        refine ok_sg rfl ?_
        refine ok_v (.d (.bool true)) rfl rfl ?_
        refine ok_nil ?_
        obtain rfl := someE h10
        exact ⟨_, _, _, _, _, rfl⟩
      · refine ok_v (.ref 0 2 0 0) rfl rfl ?_
        refine ok_v (.d (.int .i64 p0.Num)) rfl rfl ?_
        obtain ⟨r16, h17, h10⟩ := bindE h10
        refine ok_pc [.d (.int .i64 p0.Num)] (ratio_size_ok p0.Num r16 h17) rfl rfl rfl (.inl rfl) ?_
        refine ok_v (.d (.bool (decide (r16 > 1000000000)))) rfl rfl ?_
        refine ok_v (.d (.bool (decide (r16 > 1000000000)))) rfl rfl ?_
        refine ok_nil ?_
        obtain rfl := someE h10
        exact ⟨_, _, _, _, _, rfl⟩
    · rintro _ ⟨j11, j12, j13, j14, j15, rfl⟩
      obtain ⟨c22, h23, h0⟩ := bindE h0
      refine ok_cutQ 10 (fun A st => ∃ (j24 j25 j26 j27 j28 j29 j30 j31 j32 : V), st = A [(26, .d (.bool c22)), (25, j32), (24, j31), (23, j30), (22, j29), (21, j28), (20, j27), (19, j26), (18, j25), (17, j24)]) ?_ ?_
      · refine ok_mvB rfl rfl h23 (fun h23 => ?_) (fun h23 => ?_)
        · refine ok_sg rfl ?_
          refine ok_sg rfl ?_
          refine ok_sg rfl ?_
          refine ok_sg rfl ?_
          refine ok_sg rfl ?_
          refine ok_sg rfl ?_
          refine ok_sg rfl ?_
          refine ok_sg rfl ?_
          refine ok_v (.d (.bool true)) rfl rfl ?_
          refine ok_nil ?_
          obtain rfl := someE h23
          exact ⟨_, _, _, _, _, _, _, _, _, rfl⟩
        · refine ok_v (.ref 0 2 0 0) rfl rfl ?_
          refine ok_v (.d (.int .i64 p0.Num)) rfl rfl ?_
          obtain ⟨r33, h34, h23⟩ := bindE h23
          refine ok_pc [.d (.int .i64 p0.Num)] (ratio_size_ok p0.Num r33 h34) rfl rfl rfl (.inl rfl) ?_
          refine ok_v (.ref 0 2 0 1) rfl rfl ?_
          refine ok_v (.d (.int .i64 p0.Den)) rfl rfl ?_
          refine ok_v (.d (.int .u64 (IntKind.wrap .u64 p0.Den))) rfl rfl ?_
          obtain ⟨r35, h36, h23⟩ := bindE h23
          refine ok_pc [.d (.int .u64 r33), .d (.int .u64 (IntKind.wrap .u64 p0.Den))] (ratio_gcd_ok r33 (IntKind.wrap .u64 p0.Den) r35 h36) rfl rfl rfl (.inl rfl) ?_
          refine ok_v (.d (.bool (r35 != 1))) rfl rfl ?_
          refine ok_v (.d (.bool (r35 != 1))) rfl rfl ?_
          refine ok_nil ?_
          obtain rfl := someE h23
          exact ⟨_, _, _, _, _, _, _, _, _, rfl⟩
      · rintro _ ⟨j24, j25, j26, j27, j28, j29, j30, j31, j32, rfl⟩
        refine ok_nil ?_
        refine rk_condH rfl h0 (fun _ h0 => ?_) (fun _ h0 => ?_)
        · refine rk_seq ?_
          refine rk_region ?_
          refine ok_as rfl rfl ?_
          refine ok_nil ?_
          refine rk_ret ?_
          obtain rfl := someE h0
          exact finD (.inr rfl) (v := .d (.int .i64 8)) rfl rfl (.refl _)
        · refine rk_skip ?_
          refine rk_seq ?_
          refine rk_region ?_
          refine ok_as rfl rfl ?_
          refine ok_nil ?_
          refine rk_ret ?_
          obtain rfl := someE h0
          exact finD (.inr rfl) (v := .d (.int .i64 0)) rfl rfl (.refl _)

theorem split_valid_ok (p0 : api_Part) (r : Bool) (h0 : split_valid p0 = some r) : Pure Try.prog tab 32 [.agg [.int .u8 p0.Kind, .int .i64 p0.Size, .int .i64 p0.Share.Num, .int .i64 p0.Share.Den]] (.bool r) := by
  unfold split_valid at h0
  refine pure_of_run Try.func32 rfl (by kernel_rfl) (by kernel_rfl) rfl ?_
  refine rk_seq ?_
  refine rk_region ?_
  refine ok_new (.ref 0 4 0 0) (.dat 4 [[.int .u8 p0.Kind, .int .i64 p0.Size, .int .i64 p0.Share.Num, .int .i64 p0.Share.Den]]) rfl rfl ?_
  refine ok_as rfl rfl ?_
  refine ok_nil ?_
  refine rk_seq ?_
  refine rk_seq ?_
  refine rk_region ?_
  refine ok_v (.ref 0 4 0 0) rfl rfl ?_
  refine ok_v (.d (.int .u8 p0.Kind)) rfl rfl ?_
  refine ok_nil ?_
  refine rk_block ?_
  refine rk_seq ?_
  refine rk_region ?_
  refine ok_v (.d (.bool (p0.Kind == 1))) rfl rfl ?_
  refine ok_as rfl rfl ?_
  refine ok_nil ?_
  refine rk_condH rfl h0 (fun _ h0 => ?_) (fun _ h0 => ?_)
  · refine rk_seq ?_
    refine rk_region ?_
    refine ok_v (.ref 0 4 0 1) rfl rfl ?_
    refine ok_v (.d (.int .i64 p0.Size)) rfl rfl ?_
    refine ok_v (.d (.bool (decide (p0.Size ≥ 0)))) rfl rfl ?_
    obtain ⟨c55, h56, h0⟩ := bindE h0
    refine ok_cutQ 5 (fun A st => ∃ (j57 j58 j59 j60 : V), st = A [(14, .d (.bool c55)), (13, j60), (12, j59), (11, j58), (10, j57)]) ?_ ?_
    · refine ok_mvB rfl rfl h56 (fun h56 => ?_) (fun h56 => ?_)
      · refine ok_v (.ref 0 4 0 1) rfl rfl ?_
        refine ok_v (.d (.int .i64 p0.Size)) rfl rfl ?_
        refine ok_v (.d (.bool (decide (p0.Size ≤ 1000000)))) rfl rfl ?_
        refine ok_v (.d (.bool (decide (p0.Size ≤ 1000000)))) rfl rfl ?_
        refine ok_nil ?_
        obtain rfl := someE h56
        exact ⟨_, _, _, _, rfl⟩
      · refine ok_sg rfl ?_
        refine ok_sg rfl ?_
        refine ok_sg rfl ?_
        refine ok_v (.d (.bool false)) rfl rfl ?_
        refine ok_nil ?_
        obtain rfl := someE h56
        exact ⟨_, _, _, _, rfl⟩
    · rintro _ ⟨j57, j58, j59, j60, rfl⟩
      obtain ⟨c61, h62, h0⟩ := bindE h0
      refine ok_cutQ 6 (fun A st => ∃ (j63 j64 j65 j66 j67 : V), st = A [(20, .d (.bool c61)), (19, j67), (18, j66), (17, j65), (16, j64), (15, j63)]) ?_ ?_
      · refine ok_mvB rfl rfl h62 (fun h62 => ?_) (fun h62 => ?_)
        · refine ok_v (.ref 0 4 0 2) rfl rfl ?_
          refine ok_v (.d (.agg [.int .i64 p0.Share.Num, .int .i64 p0.Share.Den])) rfl rfl ?_
          refine ok_v (.d (.agg [.int .i64 0, .int .i64 0])) rfl rfl ?_
          refine ok_v (.d (.bool ((p0.Share.Num == 0) && ((p0.Share.Den == 0) && true)))) rfl rfl ?_
          refine ok_v (.d (.bool ((p0.Share.Num == 0) && ((p0.Share.Den == 0) && true)))) rfl rfl ?_
          refine ok_nil ?_
          obtain rfl := someE h62
          exact ⟨_, _, _, _, _, rfl⟩
        · refine ok_sg rfl ?_
          refine ok_sg rfl ?_
          refine ok_sg rfl ?_
          refine ok_sg rfl ?_
          refine ok_v (.d (.bool false)) rfl rfl ?_
          refine ok_nil ?_
          obtain rfl := someE h62
          exact ⟨_, _, _, _, _, rfl⟩
      · rintro _ ⟨j63, j64, j65, j66, j67, rfl⟩
        refine ok_as rfl rfl ?_
        refine ok_nil ?_
        refine rk_ret ?_
        obtain rfl := someE h0
        exact finD (.inr rfl) (v := .d (.bool c61)) rfl rfl (.refl _)
  · refine rk_seq ?_
    refine rk_region ?_
    refine ok_v (.d (.bool (p0.Kind == 3))) rfl rfl ?_
    refine ok_as rfl rfl ?_
    refine ok_nil ?_
    refine rk_condH rfl h0 (fun _ h0 => ?_) (fun _ h0 => ?_)
    · refine rk_seq ?_
      refine rk_region ?_
      refine ok_v (.ref 0 4 0 1) rfl rfl ?_
      refine ok_v (.d (.int .i64 p0.Size)) rfl rfl ?_
      refine ok_v (.d (.bool (decide (p0.Size ≥ 1)))) rfl rfl ?_
      obtain ⟨c68, h69, h0⟩ := bindE h0
      refine ok_cutQ 5 (fun A st => ∃ (j70 j71 j72 j73 : V), st = A [(30, .d (.bool c68)), (29, j73), (28, j72), (27, j71), (26, j70)]) ?_ ?_
      · refine ok_mvB rfl rfl h69 (fun h69 => ?_) (fun h69 => ?_)
        · refine ok_v (.ref 0 4 0 1) rfl rfl ?_
          refine ok_v (.d (.int .i64 p0.Size)) rfl rfl ?_
          refine ok_v (.d (.bool (decide (p0.Size ≤ 1000000)))) rfl rfl ?_
          refine ok_v (.d (.bool (decide (p0.Size ≤ 1000000)))) rfl rfl ?_
          refine ok_nil ?_
          obtain rfl := someE h69
          exact ⟨_, _, _, _, rfl⟩
        · refine ok_sg rfl ?_
          refine ok_sg rfl ?_
          refine ok_sg rfl ?_
          refine ok_v (.d (.bool false)) rfl rfl ?_
          refine ok_nil ?_
          obtain rfl := someE h69
          exact ⟨_, _, _, _, rfl⟩
      · rintro _ ⟨j70, j71, j72, j73, rfl⟩
        obtain ⟨c74, h75, h0⟩ := bindE h0
        refine ok_cutQ 6 (fun A st => ∃ (j76 j77 j78 j79 j80 : V), st = A [(36, .d (.bool c74)), (35, j80), (34, j79), (33, j78), (32, j77), (31, j76)]) ?_ ?_
        · refine ok_mvB rfl rfl h75 (fun h75 => ?_) (fun h75 => ?_)
          · refine ok_v (.ref 0 4 0 2) rfl rfl ?_
            refine ok_v (.d (.agg [.int .i64 p0.Share.Num, .int .i64 p0.Share.Den])) rfl rfl ?_
            refine ok_v (.d (.agg [.int .i64 0, .int .i64 0])) rfl rfl ?_
            refine ok_v (.d (.bool ((p0.Share.Num == 0) && ((p0.Share.Den == 0) && true)))) rfl rfl ?_
            refine ok_v (.d (.bool ((p0.Share.Num == 0) && ((p0.Share.Den == 0) && true)))) rfl rfl ?_
            refine ok_nil ?_
            obtain rfl := someE h75
            exact ⟨_, _, _, _, _, rfl⟩
          · refine ok_sg rfl ?_
            refine ok_sg rfl ?_
            refine ok_sg rfl ?_
            refine ok_sg rfl ?_
            refine ok_v (.d (.bool false)) rfl rfl ?_
            refine ok_nil ?_
            obtain rfl := someE h75
            exact ⟨_, _, _, _, _, rfl⟩
        · rintro _ ⟨j76, j77, j78, j79, j80, rfl⟩
          refine ok_as rfl rfl ?_
          refine ok_nil ?_
          refine rk_ret ?_
          obtain rfl := someE h0
          exact finD (.inr rfl) (v := .d (.bool c74)) rfl rfl (.refl _)
    · refine rk_seq ?_
      refine rk_region ?_
      refine ok_v (.d (.bool (p0.Kind == 2))) rfl rfl ?_
      refine ok_as rfl rfl ?_
      refine ok_nil ?_
      refine rk_condH rfl h0 (fun _ h0 => ?_) (fun _ h0 => ?_)
      · refine rk_seq ?_
        refine rk_region ?_
        refine ok_v (.ref 0 4 0 1) rfl rfl ?_
        refine ok_v (.d (.int .i64 p0.Size)) rfl rfl ?_
        refine ok_v (.d (.bool (p0.Size == 0))) rfl rfl ?_
        obtain ⟨c83, h84, h0⟩ := bindE h0
        refine ok_cutQ 6 (fun A st => ∃ (j85 j86 j87 j88 j89 : V), st = A [(47, .d (.bool c83)), (46, j89), (45, j88), (44, j87), (43, j86), (42, j85)]) ?_ ?_
        · refine ok_mvB rfl rfl h84 (fun h84 => ?_) (fun h84 => ?_)
          · refine ok_v (.ref 0 4 0 2) rfl rfl ?_
            refine ok_v (.d (.agg [.int .i64 p0.Share.Num, .int .i64 p0.Share.Den])) rfl rfl ?_
            obtain ⟨r90, h91, h84⟩ := bindE h84
            refine ok_pc [.d (.agg [.int .i64 p0.Share.Num, .int .i64 p0.Share.Den])] (ratio_Check_ok p0.Share r90 h91) rfl rfl rfl (.inl rfl) ?_
            refine ok_v (.d (.bool (r90 == 0))) rfl rfl ?_
            refine ok_v (.d (.bool (r90 == 0))) rfl rfl ?_
            refine ok_nil ?_
            obtain rfl := someE h84
            exact ⟨_, _, _, _, _, rfl⟩
          · refine ok_sg rfl ?_
            refine ok_sg rfl ?_
            refine ok_sg rfl ?_
            refine ok_sg rfl ?_
            refine ok_v (.d (.bool false)) rfl rfl ?_
            refine ok_nil ?_
            obtain rfl := someE h84
            exact ⟨_, _, _, _, _, rfl⟩
        · rintro _ ⟨j85, j86, j87, j88, j89, rfl⟩
          obtain ⟨c92, h93, h0⟩ := bindE h0
          refine ok_cutQ 6 (fun A st => ∃ (j94 j95 j96 j97 j98 : V), st = A [(53, .d (.bool c92)), (52, j98), (51, j97), (50, j96), (49, j95), (48, j94)]) ?_ ?_
          · refine ok_mvB rfl rfl h93 (fun h93 => ?_) (fun h93 => ?_)
            · refine ok_v (.ref 0 4 0 2) rfl rfl ?_
              refine ok_v (.ref 0 4 0 2) rfl rfl ?_
              refine ok_v (.d (.int .i64 p0.Share.Num)) rfl rfl ?_
              refine ok_v (.d (.bool (decide (p0.Share.Num ≥ 0)))) rfl rfl ?_
              refine ok_v (.d (.bool (decide (p0.Share.Num ≥ 0)))) rfl rfl ?_
              refine ok_nil ?_
              obtain rfl := someE h93
              exact ⟨_, _, _, _, _, rfl⟩
            · refine ok_sg rfl ?_
              refine ok_sg rfl ?_
              refine ok_sg rfl ?_
              refine ok_sg rfl ?_
              refine ok_v (.d (.bool false)) rfl rfl ?_
              refine ok_nil ?_
              obtain rfl := someE h93
              exact ⟨_, _, _, _, _, rfl⟩
          · rintro _ ⟨j94, j95, j96, j97, j98, rfl⟩
            obtain ⟨c99, h100, h0⟩ := bindE h0
            refine ok_cutQ 9 (fun A st => ∃ (j101 j102 j103 j104 j105 j106 j107 j108 : V), st = A [(62, .d (.bool c99)), (61, j108), (60, j107), (59, j106), (58, j105), (57, j104), (56, j103), (55, j102), (54, j101)]) ?_ ?_
            · refine ok_mvB rfl rfl h100 (fun h100 => ?_) (fun h100 => ?_)
              · refine ok_v (.ref 0 4 0 2) rfl rfl ?_
                refine ok_v (.ref 0 4 0 2) rfl rfl ?_
                refine ok_v (.d (.int .i64 p0.Share.Num)) rfl rfl ?_
                refine ok_v (.ref 0 4 0 2) rfl rfl ?_
                refine ok_v (.ref 0 4 0 3) rfl rfl ?_
                refine ok_v (.d (.int .i64 p0.Share.Den)) rfl rfl ?_
                refine ok_v (.d (.bool (decide (p0.Share.Num ≤ p0.Share.Den)))) rfl rfl ?_
                refine ok_v (.d (.bool (decide (p0.Share.Num ≤ p0.Share.Den)))) rfl rfl ?_
                refine ok_nil ?_
                obtain rfl := someE h100
                exact ⟨_, _, _, _, _, _, _, _, rfl⟩
              · refine ok_sg rfl ?_
                refine ok_sg rfl ?_
                refine ok_sg rfl ?_
                refine ok_sg rfl ?_
                refine ok_sg rfl ?_
                refine ok_sg rfl ?_
                refine ok_sg rfl ?_
                refine ok_v (.d (.bool false)) rfl rfl ?_
                refine ok_nil ?_
                obtain rfl := someE h100
                exact ⟨_, _, _, _, _, _, _, _, rfl⟩
            · rintro _ ⟨j101, j102, j103, j104, j105, j106, j107, j108, rfl⟩
              refine ok_as rfl rfl ?_
              refine ok_nil ?_
              refine rk_ret ?_
              obtain rfl := someE h0
              exact finD (.inr rfl) (v := .d (.bool c99)) rfl rfl (.refl _)
      · refine rk_skip ?_
        refine rk_nil ?_
        refine blk_nor ?_
        refine rk_seq ?_
        refine rk_region ?_
        refine ok_as rfl rfl ?_
        refine ok_nil ?_
        refine rk_ret ?_
        obtain rfl := someE h0
        exact finD (.inr rfl) (v := .d (.bool false)) rfl rfl (.refl _)

theorem split_Check_1_ok (p0 : api_Part) (r : Bool) (h0 : split_Check_1 p0 = some r) : Pure Try.prog tab 31 [.agg [.int .u8 p0.Kind, .int .i64 p0.Size, .int .i64 p0.Share.Num, .int .i64 p0.Share.Den]] (.bool r) := by
  unfold split_Check_1 at h0
  refine pure_of_run Try.func31 rfl (by kernel_rfl) (by kernel_rfl) rfl ?_
  refine rk_seq ?_
  refine rk_region ?_
  refine ok_new (.ref 0 4 0 0) (.dat 4 [[.int .u8 p0.Kind, .int .i64 p0.Size, .int .i64 p0.Share.Num, .int .i64 p0.Share.Den]]) rfl rfl ?_
  refine ok_as rfl rfl ?_
  refine ok_nil ?_
  refine rk_seq ?_
  refine rk_region ?_
  refine ok_v (.d (.agg [.int .u8 p0.Kind, .int .i64 p0.Size, .int .i64 p0.Share.Num, .int .i64 p0.Share.Den])) rfl rfl ?_
  obtain ⟨r1, h2, h0⟩ := bindE h0
  refine ok_pc [.d (.agg [.int .u8 p0.Kind, .int .i64 p0.Size, .int .i64 p0.Share.Num, .int .i64 p0.Share.Den])] (split_valid_ok p0 r1 h2) rfl rfl rfl (.inl rfl) ?_
  refine ok_v (.d (.bool (!r1))) rfl rfl ?_
  refine ok_as rfl rfl ?_
  refine ok_nil ?_
  refine rk_ret ?_
  obtain rfl := someE h0
  exact finD (.inr rfl) (v := .d (.bool (!r1))) rfl rfl (.refl _)

theorem split_Check_ok (p0 : List api_Part) (r : Int) (h0 : split_Check p0 = some r) : Pure Try.prog tab 13 [.sl 4 (p0.map enc_api_Part)] (.int .i64 r) := by
  unfold split_Check at h0
  refine pure_of_run Try.func13 rfl (by kernel_rfl) (by kernel_rfl) rfl ?_
  refine rk_seq ?_
  refine rk_region ?_
  refine ok_as rfl rfl ?_
  refine ok_nil ?_
  refine rk_seq ?_
  refine rk_seq ?_
  refine rk_region ?_
  refine ok_mv rfl rfl ?_
  refine ok_ln rfl rfl rfl rfl ?_
  refine ok_v (.d (.bool (decide ((p0.length : Int) > 200)))) rfl rfl ?_
  refine ok_nil ?_
  refine rk_condH rfl h0 (fun _ h0 => ?_) (fun _ h0 => ?_)
  · refine rk_seq ?_
    refine rk_region ?_
    refine ok_as rfl rfl ?_
    refine ok_nil ?_
    refine rk_ret ?_
    obtain rfl := someE h0
    exact finD (.inr rfl) (v := .d (.int .i64 4)) rfl rfl (.refl _)
  · refine rk_skip ?_
    refine rk_seq ?_
    refine rk_seq ?_
    refine rk_region ?_
    refine ok_mv rfl rfl ?_
    obtain ⟨r1, h2, h0⟩ := bindE h0
    refine ok_pc [.d (.sl 4 (p0.map enc_api_Part)), .d (.fn 31 [])] (slices_ContainsFunc_api_Part_api_Part_ok p0 (fun x0 => split_Check_1 x0) 31 [] (fun x0 r hr => split_Check_1_ok x0 r hr) r1 h2) rfl rfl rfl (.inl rfl) ?_
    refine ok_nil ?_
    refine rk_condH rfl h0 (fun _ h0 => ?_) (fun _ h0 => ?_)
    · refine rk_seq ?_
      refine rk_region ?_
      refine ok_as rfl rfl ?_
      refine ok_nil ?_
      refine rk_ret ?_
      obtain rfl := someE h0
      exact finD (.inr rfl) (v := .d (.int .i64 8)) rfl rfl (.refl _)
    · refine rk_skip ?_
      refine rk_seq ?_
      refine rk_region ?_
      refine ok_as rfl rfl ?_
      refine ok_nil ?_
      refine rk_ret ?_
      obtain rfl := someE h0
      exact finD (.inr rfl) (v := .d (.int .i64 0)) rfl rfl (.refl _)

theorem split_Sizes_1_e1_eff (p0 : Int) (p1 : Int) (p2 : List Int) (p3 : Int) (r : List Int × Int) (h0 : split_Sizes_1_e1  p0 p1 p2 p3 = some r) : EvCall Try.prog tab 27 [.d (.int .i64 p0), .d (.int .i64 p1), .ref 0 1 0 0, .ref 2 1 0 0] [(0, .cel 1 [[.hs 1 1 0 p2.length]]), (1, .dat 1 (p2.map (eI .i64))), (2, .dat 1 [[.int .i64 p3]])] 3 (.d (.tup [])) [(0, .cel 1 [[.hs 1 1 0 r.1.length]]), (1, .dat 1 (r.1.map (eI .i64))), (2, .dat 1 [[.int .i64 r.2]])] 3 := by
  unfold split_Sizes_1_e1 at h0
  refine eff_of_run Try.func27 rfl (by kernel_rfl) (by kernel_rfl) rfl ?_
  refine rk_seq ?_
  refine rk_region ?_
  refine ok_v (.hs 1 1 0 p2.length) rfl rfl ?_
  refine ok_mv rfl rfl ?_
  refine ok_mv rfl rfl ?_
  obtain ⟨v101, h102, h0⟩ := bindE h0
  refine ok_ih h102 rfl rfl rfl rfl rfl rfl rfl ?_
  refine ok_sh (ds := [.int .i64 p1]) p1 h102 rfl rfl rfl rfl rfl rfl rfl rfl (leb rfl) rfl ?_
  refine ok_nil ?_
  refine rk_region ?_
  refine ok_v (.d (.int .i64 p3)) rfl rfl ?_
  refine ok_mv rfl rfl ?_
  refine ok_v (.d (.int .i64 (w64 (p3 - p1)))) rfl rfl ?_
  refine ok_sto 2 (.dat 1 [[.int .i64 (w64 (p3 - p1))]]) rfl rfl ?_
  refine ok_nil ?_
  refine rk_nil ?_
  obtain rfl := someE h0
  exact ⟨.inl rfl, _, rfl, wkE [] [] [] rfl ⟨⟨_, rfl, .d (.refl _)⟩, trivial⟩ ⟨⟨ltd rfl, .inr ⟨by decide, _, rfl, wb_cel1 (.cons (wv_hsL (by simp) rfl (by decide) (ltd rfl)) rfl .nil)⟩⟩, ⟨ltd rfl, .inr ⟨by decide, _, rfl, .dat _ _⟩⟩, ⟨ltd rfl, .inr ⟨by decide, _, rfl, .dat _ _⟩⟩, trivial⟩⟩

theorem split_shares_e1_eff (p0 : Int) (p1 : List Int) (r : List Int × Int × Int) (h0 : split_shares_e1  p0 p1 = some r) : EvCall Try.prog tab 28 [.d (.int .i64 p0), .hs 0 1 0 p1.length] [(0, .dat 1 (p1.map (eI .i64)))] 1 (.fn 46 [.ref 1 1 0 0, .ref 2 1 0 0, .ref 3 1 0 0]) [(0, .dat 1 (r.1.map (eI .i64))), (1, .cel 1 [[.hs 0 1 0 r.1.length]]), (2, .dat 1 [[.int .i64 r.2.1]]), (3, .dat 1 [[.int .i64 r.2.2]])] 4 := by
  unfold split_shares_e1 at h0
  refine eff_of_run Try.func28 rfl (by kernel_rfl) (by kernel_rfl) rfl ?_
  refine rk_seq ?_
  refine rk_region ?_
  refine ok_new (.ref 1 1 0 0) (.dat 1 [[.int .i64 p0]]) rfl rfl ?_
  refine ok_new (.ref 2 1 0 0) (.cel 1 [[.hs 0 1 0 p1.length]]) rfl rfl ?_
  refine ok_as rfl rfl ?_
  refine ok_nil ?_
  refine rk_seq ?_
  refine rk_region ?_
  refine ok_alloc rfl rfl ?_
  refine ok_sto 3 (.dat 1 [[.int .i64 0]]) rfl rfl ?_
  refine ok_nil ?_
  refine rk_seq ?_
  refine rk_seq ?_
  refine rk_region ?_
  refine ok_v (.hs 0 1 0 p1.length) rfl rfl ?_
  refine ok_v (.d (.int .i64 (p1.length : Int))) rfl rfl ?_
  refine ok_mv rfl rfl ?_
  refine ok_nil ?_
  obtain ⟨m112, h113, h0⟩ := bindE h0
  refine rk_blockcut (fun b114 => b114 = m112) (fun (b114 : Int) => ⟨[(2, .ref 1 1 0 0), (3, .ref 2 1 0 0), (5, .ref 3 1 0 0)], [(0, .dat 1 (p1.map (eI .i64))), (1, .dat 1 [[.int .i64 p0]]), (2, .cel 1 [[.hs 0 1 0 p1.length]]), (3, .dat 1 [[.int .i64 b114]])], 4⟩) (by simp) ?_ ?_
  · refine rk_loopF (split_shares_e1_L1 p1) (fun (a111 : Int × Int) => ⟨[(2, .ref 1 1 0 0), (3, .ref 2 1 0 0), (5, .ref 3 1 0 0), (8, .hs 0 1 0 p1.length), (9, .d (.int .i64 (p1.length : Int))), (10, .d (.int .i64 a111.1))], [(0, .dat 1 (p1.map (eI .i64))), (1, .dat 1 [[.int .i64 p0]]), (2, .cel 1 [[.hs 0 1 0 p1.length]]), (3, .dat 1 [[.int .i64 a111.2]])], 4⟩) (0, 0) m112 h113 (wkE [(1, 1), (2, 2), (3, 3)] [] [] rfl ⟨⟨_, rfl, .ref rfl (by decide) (ltd rfl)⟩, ⟨_, rfl, .ref rfl (by decide) (ltd rfl)⟩, ⟨_, rfl, .ref rfl (by decide) (ltd rfl)⟩, ⟨_, rfl, .hs rfl (by decide) (ltd rfl)⟩, ⟨_, rfl, .d (.refl _)⟩, ⟨_, rfl, .d (.refl _)⟩, trivial⟩ ⟨⟨ltd rfl, .inr ⟨by decide, _, rfl, .dat _ _⟩⟩, ⟨ltd rfl, .inr ⟨by decide, _, rfl, .dat _ _⟩⟩, ⟨ltd rfl, .inr ⟨by decide, _, rfl, wb_cel1 (.cons (.hs rfl (by decide) (ltd rfl)) rfl .nil)⟩⟩, ⟨ltd rfl, .inr ⟨by decide, _, rfl, .dat _ _⟩⟩, trivial⟩) ?_
    intro a111 y109 h110
    unfold split_shares_e1_L1 at h110
    refine rk_seq ?_
    refine rk_region ?_
    refine ok_v (.d (.bool (decide (a111.1 < (p1.length : Int))))) rfl rfl ?_
    refine ok_nil ?_
    refine rk_seq ?_
    refine rk_condH rfl h110 (fun _ h110 => ?_) (fun _ h110 => ?_)
    · refine rk_skip ?_
      refine rk_seq ?_
      refine rk_block ?_
      refine rk_seq ?_
      refine rk_region ?_
      obtain ⟨v117, h118, h110⟩ := bindE h110
      refine ok_ih h118 rfl rfl rfl rfl rfl rfl rfl ?_
      refine ok_lh (.d (.int .i64 v117)) h118 rfl rfl rfl rfl rfl rfl ?_
      refine ok_as rfl rfl ?_
      refine ok_nil ?_
      refine rk_region ?_
      refine ok_v (.d (.int .i64 a111.2)) rfl rfl ?_
      refine ok_mv rfl rfl ?_
      refine ok_v (.d (.int .i64 (w64 (a111.2 + v117)))) rfl rfl ?_
      refine ok_sto 3 (.dat 1 [[.int .i64 (w64 (a111.2 + v117))]]) rfl rfl ?_
      refine ok_nil ?_
      refine rk_nil ?_
      refine blk_nor ?_
      refine rk_region ?_
      refine ok_v (.d (.int .i64 (w64 (a111.1 + 1)))) rfl rfl ?_
      refine ok_mv rfl rfl ?_
      refine ok_nil ?_
      refine rk_nil ?_
      exact ⟨_, (Option.some.inj h110).symm, wkE [(1, 1), (2, 2), (3, 3)] [] [] rfl ⟨⟨_, rfl, .ref rfl (by decide) (ltd rfl)⟩, ⟨_, rfl, .ref rfl (by decide) (ltd rfl)⟩, ⟨_, rfl, .ref rfl (by decide) (ltd rfl)⟩, ⟨_, rfl, .hs rfl (by decide) (ltd rfl)⟩, ⟨_, rfl, .d (.refl _)⟩, ⟨_, rfl, .d (.refl _)⟩, trivial⟩ ⟨⟨ltd rfl, .inr ⟨by decide, _, rfl, .dat _ _⟩⟩, ⟨ltd rfl, .inr ⟨by decide, _, rfl, .dat _ _⟩⟩, ⟨ltd rfl, .inr ⟨by decide, _, rfl, wb_cel1 (.cons (.hs rfl (by decide) (ltd rfl)) rfl .nil)⟩⟩, ⟨ltd rfl, .inr ⟨by decide, _, rfl, .dat _ _⟩⟩, trivial⟩⟩
    · refine rk_exit ?_
      refine ⟨_, (Option.some.inj h110).symm, fun hm => ?_⟩
      subst hm
      exact ⟨_, rfl, wkE [(1, 1), (2, 2), (3, 3)] [] [] rfl ⟨⟨_, rfl, .ref rfl (by decide) (ltd rfl)⟩, ⟨_, rfl, .ref rfl (by decide) (ltd rfl)⟩, ⟨_, rfl, .ref rfl (by decide) (ltd rfl)⟩, trivial⟩ ⟨⟨ltd rfl, .inr ⟨by decide, _, rfl, .dat _ _⟩⟩, ⟨ltd rfl, .inr ⟨by decide, _, rfl, .dat _ _⟩⟩, ⟨ltd rfl, .inr ⟨by decide, _, rfl, wb_cel1 (.cons (.hs rfl (by decide) (ltd rfl)) rfl .nil)⟩⟩, ⟨ltd rfl, .inr ⟨by decide, _, rfl, .dat _ _⟩⟩, trivial⟩⟩
  · intro b114 hb
    subst hb
    refine rk_seq ?_
    refine rk_region ?_
    refine ok_v (.fn 46 [.ref 2 1 0 0, .ref 1 1 0 0, .ref 3 1 0 0]) rfl rfl ?_
    refine ok_as rfl rfl ?_
    refine ok_nil ?_
    refine rk_ret ?_
    obtain rfl := someE h0
    exact ⟨.inr rfl, _, rfl, wkE [(1, 2), (2, 1), (3, 3)] [] [] rfl ⟨⟨_, rfl, (wv_fn (.cons (.ref rfl (by decide) (ltd rfl)) (.cons (.ref rfl (by decide) (ltd rfl)) (.cons (.ref rfl (by decide) (ltd rfl)) .nil))))⟩, trivial⟩ ⟨⟨ltd rfl, .inr ⟨by decide, _, rfl, .dat _ _⟩⟩, ⟨ltd rfl, .inr ⟨by decide, _, rfl, wb_cel1 (.cons (.hs rfl (by decide) (ltd rfl)) rfl .nil)⟩⟩, ⟨ltd rfl, .inr ⟨by decide, _, rfl, .dat _ _⟩⟩, ⟨ltd rfl, .inr ⟨by decide, _, rfl, .dat _ _⟩⟩, trivial⟩⟩

theorem split_Sizes_ok (p0 : Int) (p1 : List api_Part) (r : List Int × Int) (h0 : split_Sizes p0 p1 = some r) : Pure Try.prog tab 11 [.int .i64 p0, .sl 4 (p1.map enc_api_Part)] (.tup [.sl 1 (r.1.map (eI .i64)), .int .i64 r.2]) := by
  unfold split_Sizes at h0
  refine pure_of_run Try.func11 rfl (by kernel_rfl) (by kernel_rfl) rfl ?_
  refine rk_seq ?_
  refine rk_region ?_
  refine ok_as rfl rfl ?_
  refine ok_as rfl rfl ?_
  refine ok_nil ?_
  refine rk_seq ?_
  refine rk_seq ?_
  refine rk_region ?_
  refine ok_mv rfl rfl ?_
  obtain ⟨r1, h2, h0⟩ := bindE h0
  refine ok_pc [.d (.sl 4 (p1.map enc_api_Part))] (split_Check_ok p1 r1 h2) rfl rfl rfl (.inl rfl) ?_
  refine ok_as rfl rfl ?_
  refine ok_nil ?_
  refine rk_seq ?_
  refine rk_region ?_
  refine ok_mv rfl rfl ?_
  refine ok_v (.d (.bool (r1 != 0))) rfl rfl ?_
  refine ok_nil ?_
  refine rk_condH rfl h0 (fun _ h0 => ?_) (fun _ h0 => ?_)
  · refine rk_seq ?_
    refine rk_region ?_
    refine ok_mv rfl rfl ?_
    refine ok_as rfl rfl ?_
    refine ok_as rfl rfl ?_
    refine ok_nil ?_
    refine rk_ret ?_
    obtain rfl := someE h0
    exact finD (.inr rfl) (v := .d (.tup [.nilsl, .int .i64 r1])) rfl rfl (dle_tup (.cons (.nil _) (.cons (.refl _) .nil)))
  · refine rk_skip ?_
    refine rk_seq ?_
    refine rk_seq ?_
    refine rk_region ?_
    refine ok_mv rfl rfl ?_
    refine ok_v (.d (.bool (decide (p0 < 0)))) rfl rfl ?_
    obtain ⟨c3, h4, h0⟩ := bindE h0
    refine ok_cutQ 4 (fun A st => ∃ (j5 j6 j7 : V), st = A [(25, .d (.bool c3)), (24, j7), (23, j6), (22, j5)]) ?_ ?_
    · refine ok_mvB rfl rfl h4 (fun h4 => ?_) (fun h4 => ?_)
      · refine ok_sg rfl ?_
        refine ok_sg rfl ?_
        refine ok_v (.d (.bool true)) rfl rfl ?_
        refine ok_nil ?_
        obtain rfl := someE h4
        exact ⟨_, _, _, rfl⟩
      · refine ok_mv rfl rfl ?_
        refine ok_v (.d (.bool (decide (p0 > 1000000)))) rfl rfl ?_
        refine ok_v (.d (.bool (decide (p0 > 1000000)))) rfl rfl ?_
        refine ok_nil ?_
        obtain rfl := someE h4
        exact ⟨_, _, _, rfl⟩
    · rintro _ ⟨j5, j6, j7, rfl⟩
      refine ok_nil ?_
      refine rk_condH rfl h0 (fun _ h0 => ?_) (fun _ h0 => ?_)
      · refine rk_seq ?_
        refine rk_region ?_
        refine ok_as rfl rfl ?_
        refine ok_as rfl rfl ?_
        refine ok_nil ?_
        refine rk_ret ?_
        obtain rfl := someE h0
        exact finD (.inr rfl) (v := .d (.tup [.nilsl, .int .i64 2])) rfl rfl (dle_tup (.cons (.nil _) (.cons (.refl _) .nil)))
      · refine rk_skip ?_
        refine rk_seq ?_
        refine rk_region ?_
        refine ok_mv rfl rfl ?_
        refine ok_ln rfl rfl rfl rfl ?_
        obtain ⟨z8, h9, h0⟩ := bindE h0
        refine ok_mks (z := 0) (enc := (eI .i64)) h9 rfl rfl rfl rfl rfl rfl ?_
        refine ok_mv rfl rfl ?_
        refine ok_alloc rfl rfl ?_
        refine ok_alloc rfl rfl ?_
        refine ok_sto 1 (.cel 1 [[.hs 0 1 0 z8.length]]) rfl rfl ?_
        refine ok_sto 2 (.dat 1 [[.int .i64 p0]]) rfl rfl ?_
        refine ok_nil ?_
        refine rk_seq ?_
        refine rk_region ?_
        refine ok_as rfl rfl ?_
        refine ok_alloc rfl rfl ?_
        refine ok_nil ?_
        refine rk_seq ?_
        refine rk_region ?_
        refine ok_v (.fn 27 [.ref 1 1 0 0, .ref 2 1 0 0]) rfl rfl ?_
        refine ok_as rfl rfl ?_
        refine ok_nil ?_
        refine rk_seq ?_
        refine rk_seq ?_
        refine rk_region ?_
        refine ok_mv rfl rfl ?_
        refine ok_ln rfl rfl rfl rfl ?_
        refine ok_mv rfl rfl ?_
        refine ok_nil ?_
        obtain ⟨m58, h59, h0⟩ := bindE h0
        refine rk_blockcut (fun b60 => b60 = m58) (fun (b60 : Int × List Int × List Int × List Int) => ⟨[(4, .d (.nilsl)), (5, .d (.int .i64 0)), (7, .ref 0 1 0 0), (8, .ref 1 1 0 0), (9, .hs 2 1 0 b60.2.1.length), (10, .ref 3 1 0 0)], [(0, .cel 1 [[.hs 4 1 0 b60.2.2.1.length]]), (1, .dat 1 [[.int .i64 b60.1]]), (2, .dat 1 (b60.2.1.map (eI .i64))), (3, .cel 1 [[.hs 5 1 0 b60.2.2.2.length]]), (4, .dat 1 (b60.2.2.1.map (eI .i64))), (5, .dat 1 (b60.2.2.2.map (eI .i64)))], 6⟩) (by simp) ?_ ?_
        · refine rk_loopF (split_Sizes_L1 p1 p0) (fun (a57 : Int × Int × List Int × List Int × List Int) => ⟨[(0, .d (.int .i64 p0)), (4, .d (.nilsl)), (5, .d (.int .i64 0)), (7, .ref 0 1 0 0), (8, .ref 1 1 0 0), (9, .hs 2 1 0 a57.2.2.1.length), (10, .ref 3 1 0 0), (11, .fn 27 [.ref 0 1 0 0, .ref 1 1 0 0]), (31, .d (.sl 4 (p1.map enc_api_Part))), (32, .d (.int .i64 (p1.length : Int))), (33, .d (.int .i64 a57.1))], [(0, .cel 1 [[.hs 4 1 0 a57.2.2.2.1.length]]), (1, .dat 1 [[.int .i64 a57.2.1]]), (2, .dat 1 (a57.2.2.1.map (eI .i64))), (3, .cel 1 [[.hs 5 1 0 a57.2.2.2.2.length]]), (4, .dat 1 (a57.2.2.2.1.map (eI .i64))), (5, .dat 1 (a57.2.2.2.2.map (eI .i64)))], 6⟩) (0, p0, [], z8, []) m58 h59 (wkE [(0, 1), (1, 2), (3, 3), (4, 0)] [] [2, 5] rfl ⟨⟨_, rfl, .d (.refl _)⟩, ⟨_, rfl, .d (.refl _)⟩, ⟨_, rfl, .d (.refl _)⟩, ⟨_, rfl, .ref rfl (by decide) (ltd rfl)⟩, ⟨_, rfl, .ref rfl (by decide) (ltd rfl)⟩, ⟨_, rfl, .nil (by decide) (ltd rfl)⟩, ⟨_, rfl, .ref rfl (by decide) (ltd rfl)⟩, ⟨_, rfl, (wv_fn (.cons (.ref rfl (by decide) (ltd rfl)) (.cons (.ref rfl (by decide) (ltd rfl)) .nil)))⟩, ⟨_, rfl, .d (.refl _)⟩, ⟨_, rfl, .d (.refl _)⟩, ⟨_, rfl, .d (.refl _)⟩, trivial⟩ ⟨⟨ltd rfl, .inr ⟨by decide, _, rfl, wb_cel1 (.cons (.hs rfl (by decide) (ltd rfl)) rfl .nil)⟩⟩, ⟨ltd rfl, .inr ⟨by decide, _, rfl, .dat _ _⟩⟩, ⟨ltd rfl, .inl ⟨by decide, _, by decide, rfl⟩⟩, ⟨ltd rfl, .inr ⟨by decide, _, rfl, wb_datcel1 (.cons (.nil (by decide) (ltd rfl)) rfl .nil)⟩⟩, ⟨ltd rfl, .inr ⟨by decide, _, rfl, .dat _ _⟩⟩, ⟨ltd rfl, .inl ⟨by decide, _, by decide, rfl⟩⟩, trivial⟩) ?_
          intro a57 y55 h56
          unfold split_Sizes_L1 at h56
          refine rk_seq ?_
          refine rk_region ?_
          refine ok_v (.d (.bool (decide (a57.1 < (p1.length : Int))))) rfl rfl ?_
          refine ok_nil ?_
          refine rk_seq ?_
          refine rk_condH rfl h56 (fun _ h56 => ?_) (fun _ h56 => ?_)
          · refine rk_skip ?_
            refine rk_seq ?_
            obtain ⟨m80, h79, h56⟩ := bindE h56
            refine rk_blockcut (fun b81 => b81 = m80) (fun (b81 : Int × List Int × List Int × List Int) => ⟨[(0, .d (.int .i64 p0)), (4, .d (.nilsl)), (5, .d (.int .i64 0)), (7, .ref 0 1 0 0), (8, .ref 1 1 0 0), (9, .hs 2 1 0 b81.2.1.length), (10, .ref 3 1 0 0), (11, .fn 27 [.ref 0 1 0 0, .ref 1 1 0 0]), (31, .d (.sl 4 (p1.map enc_api_Part))), (32, .d (.int .i64 (p1.length : Int))), (33, .d (.int .i64 a57.1))], [(0, .cel 1 [[.hs 4 1 0 b81.2.2.1.length]]), (1, .dat 1 [[.int .i64 b81.1]]), (2, .dat 1 (b81.2.1.map (eI .i64))), (3, .cel 1 [[.hs 5 1 0 b81.2.2.2.length]]), (4, .dat 1 (b81.2.2.1.map (eI .i64))), (5, .dat 1 (b81.2.2.2.map (eI .i64)))], 6⟩) (by simp) ?_ ?_
            · refine rk_seq ?_
              refine rk_region ?_
              refine ok_mv rfl rfl ?_
              obtain ⟨v82, h83, h79⟩ := bindE h79
              refine ok_ix (enc := enc_api_Part) h83 rfl rfl rfl rfl rfl rfl ?_
              refine ok_v (.d (.agg [.int .u8 v82.Kind, .int .i64 v82.Size, .int .i64 v82.Share.Num, .int .i64 v82.Share.Den])) rfl rfl ?_
              refine ok_alloc rfl rfl ?_
              refine ok_as rfl rfl ?_
              refine ok_sto 6 (.dat 4 [[.int .u8 v82.Kind, .int .i64 v82.Size, .int .i64 v82.Share.Num, .int .i64 v82.Share.Den]]) rfl rfl ?_
              refine ok_nil ?_
              refine rk_seq ?_
              refine rk_region ?_
              refine ok_v (.ref 6 4 0 0) rfl rfl ?_
              refine ok_v (.d (.int .u8 v82.Kind)) rfl rfl ?_
              refine ok_nil ?_
              refine rk_block ?_
              refine rk_seq ?_
              refine rk_region ?_
              refine ok_v (.d (.bool (v82.Kind == 1))) rfl rfl ?_
              refine ok_as rfl rfl ?_
              refine ok_nil ?_
              refine rk_condH rfl h79 (fun _ h79 => ?_) (fun _ h79 => ?_)
              · refine rk_region ?_
                refine ok_mv rfl rfl ?_
                refine ok_mv rfl rfl ?_
                refine ok_v (.ref 6 4 0 1) rfl rfl ?_
                refine ok_v (.d (.int .i64 v82.Size)) rfl rfl ?_
                obtain ⟨e84, h85, h79⟩ := bindE h79
                obtain ⟨u86, h87, h79⟩ := bindE h79
                have h88 := lenEq_some h87
                refine ok_callF [(0, 0), (1, 4), (2, 1)] [(0, 0), (1, 2), (2, 3), (3, 3), (4, 1), (5, 3), (6, 3)] [.d (.int .i64 a57.1), .d (.int .i64 v82.Size), .ref 0 1 0 0, .ref 1 1 0 0] (.d (.tup [])) [(0, .cel 1 [[.hs 4 1 0 e84.1.length]]), (1, .dat 1 [[.int .i64 e84.2]]), (4, .dat 1 (e84.1.map (eI .i64)))] [(0, .cel 1 [[.hs 4 1 0 e84.1.length]]), (1, .dat 1 [[.int .i64 e84.2]]), (4, .dat 1 (e84.1.map (eI .i64))), (2, .dat 1 (a57.2.2.1.map (eI .i64))), (3, .cel 1 [[.hs 5 1 0 a57.2.2.2.2.length]]), (5, .dat 1 (a57.2.2.2.2.map (eI .i64))), (6, .dat 4 [[.int .u8 v82.Kind, .int .i64 v82.Size, .int .i64 v82.Share.Num, .int .i64 v82.Share.Den]])] 7 (split_Sizes_1_e1_eff a57.1 v82.Size a57.2.2.2.1 a57.2.1 e84 h85) rfl rfl rfl (wk_mk [(0, 0), (1, 4), (2, 1)] [] [] rfl ⟨⟨_, rfl, .d (.refl _)⟩, ⟨_, rfl, .d (.refl _)⟩, ⟨_, rfl, .ref rfl (by decide) (ltd rfl)⟩, ⟨_, rfl, .ref rfl (by decide) (ltd rfl)⟩, trivial⟩ ⟨⟨ltd rfl, .inr ⟨by decide, _, rfl, wb_cel1 (.cons (.hs rfl (by decide) (ltd rfl)) rfl .nil)⟩⟩, ⟨ltd rfl, .inr ⟨by decide, _, rfl, .dat _ _⟩⟩, ⟨ltd rfl, .inr ⟨by decide, _, rfl, .dat _ _⟩⟩, trivial⟩) (wk_mk [(0, 0), (1, 2), (2, 3), (3, 3), (4, 1), (5, 3), (6, 3)] [] [] rfl ⟨⟨_, rfl, .d (.refl _)⟩, trivial⟩ ⟨⟨ltd rfl, .inr ⟨by decide, _, rfl, wb_cel1 (.cons (.hs rfl (by decide) (ltd rfl)) rfl .nil)⟩⟩, ⟨ltd rfl, .inr ⟨by decide, _, rfl, .dat _ _⟩⟩, ⟨ltd rfl, .inr ⟨by decide, _, rfl, .dat _ _⟩⟩, trivial⟩) rfl ⟨.inl rfl, .inl rfl, .inl rfl, .inr ⟨rfl, rfl⟩, .inr ⟨rfl, rfl⟩, .inr ⟨rfl, rfl⟩, .inr ⟨rfl, rfl⟩, trivial⟩ ?_
                refine ok_nil ?_
                refine rk_nil ?_
                refine blk_nor ?_
                refine rk_nil ?_
                obtain rfl := someE h79
                exact ⟨_, rfl, wkE [(0, 0), (1, 1), (2, 2), (3, 3), (4, 4), (5, 5)] [] [] rfl ⟨⟨_, rfl, .d (.refl _)⟩, ⟨_, rfl, .d (.refl _)⟩, ⟨_, rfl, .d (.refl _)⟩, ⟨_, rfl, .ref rfl (by decide) (ltd rfl)⟩, ⟨_, rfl, .ref rfl (by decide) (ltd rfl)⟩, ⟨_, rfl, .hs rfl (by decide) (ltd rfl)⟩, ⟨_, rfl, .ref rfl (by decide) (ltd rfl)⟩, ⟨_, rfl, (wv_fn (.cons (.ref rfl (by decide) (ltd rfl)) (.cons (.ref rfl (by decide) (ltd rfl)) .nil)))⟩, ⟨_, rfl, .d (.refl _)⟩, ⟨_, rfl, .d (.refl _)⟩, ⟨_, rfl, .d (.refl _)⟩, trivial⟩ ⟨⟨ltd rfl, .inr ⟨by decide, _, rfl, wb_cel1 (.cons (.hs rfl (by decide) (ltd rfl)) rfl .nil)⟩⟩, ⟨ltd rfl, .inr ⟨by decide, _, rfl, .dat _ _⟩⟩, ⟨ltd rfl, .inr ⟨by decide, _, rfl, .dat _ _⟩⟩, ⟨ltd rfl, .inr ⟨by decide, _, rfl, wb_cel1 (.cons (.hs rfl (by decide) (ltd rfl)) rfl .nil)⟩⟩, ⟨ltd rfl, .inr ⟨by decide, _, rfl, .dat _ _⟩⟩, ⟨ltd rfl, .inr ⟨by decide, _, rfl, .dat _ _⟩⟩, trivial⟩⟩
              · refine rk_seq ?_
                refine rk_region ?_
                refine ok_v (.d (.bool (v82.Kind == 2))) rfl rfl ?_
                refine ok_as rfl rfl ?_
                refine ok_nil ?_
                refine rk_condH rfl h79 (fun _ h79 => ?_) (fun _ h79 => ?_)
                · refine rk_region ?_
                  refine ok_mv rfl rfl ?_
                  refine ok_mv rfl rfl ?_
                  refine ok_mv rfl rfl ?_
                  refine ok_v (.ref 6 4 0 2) rfl rfl ?_
                  refine ok_v (.ref 6 4 0 2) rfl rfl ?_
                  refine ok_v (.d (.int .i64 v82.Share.Num)) rfl rfl ?_
                  refine ok_v (.d (.int .i64 (w64 (p0 * v82.Share.Num)))) rfl rfl ?_
                  refine ok_v (.ref 6 4 0 2) rfl rfl ?_
                  refine ok_v (.ref 6 4 0 3) rfl rfl ?_
                  refine ok_v (.d (.int .i64 v82.Share.Den)) rfl rfl ?_
                  obtain ⟨q89, h90, h79⟩ := bindE h79
                  refine ok_quo h90 rfl rfl rfl ?_
                  obtain ⟨e91, h92, h79⟩ := bindE h79
                  obtain ⟨u93, h94, h79⟩ := bindE h79
                  have h95 := lenEq_some h94
                  refine ok_callF [(0, 0), (1, 4), (2, 1)] [(0, 0), (1, 2), (2, 3), (3, 3), (4, 1), (5, 3), (6, 3)] [.d (.int .i64 a57.1), .d (.int .i64 q89), .ref 0 1 0 0, .ref 1 1 0 0] (.d (.tup [])) [(0, .cel 1 [[.hs 4 1 0 e91.1.length]]), (1, .dat 1 [[.int .i64 e91.2]]), (4, .dat 1 (e91.1.map (eI .i64)))] [(0, .cel 1 [[.hs 4 1 0 e91.1.length]]), (1, .dat 1 [[.int .i64 e91.2]]), (4, .dat 1 (e91.1.map (eI .i64))), (2, .dat 1 (a57.2.2.1.map (eI .i64))), (3, .cel 1 [[.hs 5 1 0 a57.2.2.2.2.length]]), (5, .dat 1 (a57.2.2.2.2.map (eI .i64))), (6, .dat 4 [[.int .u8 v82.Kind, .int .i64 v82.Size, .int .i64 v82.Share.Num, .int .i64 v82.Share.Den]])] 7 (split_Sizes_1_e1_eff a57.1 q89 a57.2.2.2.1 a57.2.1 e91 h92) rfl rfl rfl (wk_mk [(0, 0), (1, 4), (2, 1)] [] [] rfl ⟨⟨_, rfl, .d (.refl _)⟩, ⟨_, rfl, .d (.refl _)⟩, ⟨_, rfl, .ref rfl (by decide) (ltd rfl)⟩, ⟨_, rfl, .ref rfl (by decide) (ltd rfl)⟩, trivial⟩ ⟨⟨ltd rfl, .inr ⟨by decide, _, rfl, wb_cel1 (.cons (.hs rfl (by decide) (ltd rfl)) rfl .nil)⟩⟩, ⟨ltd rfl, .inr ⟨by decide, _, rfl, .dat _ _⟩⟩, ⟨ltd rfl, .inr ⟨by decide, _, rfl, .dat _ _⟩⟩, trivial⟩) (wk_mk [(0, 0), (1, 2), (2, 3), (3, 3), (4, 1), (5, 3), (6, 3)] [] [] rfl ⟨⟨_, rfl, .d (.refl _)⟩, trivial⟩ ⟨⟨ltd rfl, .inr ⟨by decide, _, rfl, wb_cel1 (.cons (.hs rfl (by decide) (ltd rfl)) rfl .nil)⟩⟩, ⟨ltd rfl, .inr ⟨by decide, _, rfl, .dat _ _⟩⟩, ⟨ltd rfl, .inr ⟨by decide, _, rfl, .dat _ _⟩⟩, trivial⟩) rfl ⟨.inl rfl, .inl rfl, .inl rfl, .inr ⟨rfl, rfl⟩, .inr ⟨rfl, rfl⟩, .inr ⟨rfl, rfl⟩, .inr ⟨rfl, rfl⟩, trivial⟩ ?_
                  refine ok_nil ?_
                  refine rk_nil ?_
                  refine blk_nor ?_
                  refine rk_nil ?_
                  obtain rfl := someE h79
                  exact ⟨_, rfl, wkE [(0, 0), (1, 1), (2, 2), (3, 3), (4, 4), (5, 5)] [] [] rfl ⟨⟨_, rfl, .d (.refl _)⟩, ⟨_, rfl, .d (.refl _)⟩, ⟨_, rfl, .d (.refl _)⟩, ⟨_, rfl, .ref rfl (by decide) (ltd rfl)⟩, ⟨_, rfl, .ref rfl (by decide) (ltd rfl)⟩, ⟨_, rfl, .hs rfl (by decide) (ltd rfl)⟩, ⟨_, rfl, .ref rfl (by decide) (ltd rfl)⟩, ⟨_, rfl, (wv_fn (.cons (.ref rfl (by decide) (ltd rfl)) (.cons (.ref rfl (by decide) (ltd rfl)) .nil)))⟩, ⟨_, rfl, .d (.refl _)⟩, ⟨_, rfl, .d (.refl _)⟩, ⟨_, rfl, .d (.refl _)⟩, trivial⟩ ⟨⟨ltd rfl, .inr ⟨by decide, _, rfl, wb_cel1 (.cons (.hs rfl (by decide) (ltd rfl)) rfl .nil)⟩⟩, ⟨ltd rfl, .inr ⟨by decide, _, rfl, .dat _ _⟩⟩, ⟨ltd rfl, .inr ⟨by decide, _, rfl, .dat _ _⟩⟩, ⟨ltd rfl, .inr ⟨by decide, _, rfl, wb_cel1 (.cons (.hs rfl (by decide) (ltd rfl)) rfl .nil)⟩⟩, ⟨ltd rfl, .inr ⟨by decide, _, rfl, .dat _ _⟩⟩, ⟨ltd rfl, .inr ⟨by decide, _, rfl, .dat _ _⟩⟩, trivial⟩⟩
                · refine rk_regionD [(some [3], [3]), (some [], []), (some [5, 9], [5, 10]), (some [], [9]), (some [], []), (some [3], []), (some [2, 7], [2, 8]), (some [], [7]), (some [6], []), (some [], []), (some [], [])] (by kernel_rfl) ?_
                  refine ok_mv rfl rfl ?_
                  refine ok_v (.ref 6 4 0 1) rfl rfl ?_
                  refine ok_v (.d (.int .i64 v82.Size)) rfl rfl ?_
                  refine ok_new (.hs 7 1 0 [v82.Size].length) (.dat 1 ([v82.Size].map (eI .i64))) rfl rfl ?_
                  obtain ⟨z96, h97, h79⟩ := bindE h79
                  refine ok_ap (xs := a57.2.2.1) (ys := [v82.Size]) (enc := (eI .i64)) (.hs 7 1 0 [v82.Size].length) h97 rfl rfl rfl rfl rfl rfl rfl (conts_hs rfl rfl) rfl rfl rfl rfl ?_
                  refine ok_v (.hs 5 1 0 a57.2.2.2.2.length) rfl rfl ?_
                  refine ok_mv rfl rfl ?_
                  refine ok_new (.hs 9 1 0 [a57.1].length) (.dat 1 ([a57.1].map (eI .i64))) rfl rfl ?_
                  obtain ⟨z98, h99, h79⟩ := bindE h79
                  refine ok_ap (xs := a57.2.2.2.2) (ys := [a57.1]) (enc := (eI .i64)) (.hs 9 1 0 [a57.1].length) h99 rfl rfl rfl rfl rfl rfl rfl (conts_hs rfl rfl) rfl rfl rfl rfl ?_
                  refine ok_as rfl rfl ?_
                  refine ok_sto 3 (.cel 1 [[.hs 10 1 0 z98.length]]) rfl rfl ?_
                  refine ok_nil ?_
                  refine rk_nil ?_
                  refine blk_nor ?_
                  refine rk_nil ?_
                  obtain rfl := someE h79
                  exact ⟨_, rfl, wkE [(0, 0), (1, 1), (2, 8), (3, 3), (4, 4), (5, 10)] [] [] rfl ⟨⟨_, rfl, .d (.refl _)⟩, ⟨_, rfl, .d (.refl _)⟩, ⟨_, rfl, .d (.refl _)⟩, ⟨_, rfl, .ref rfl (by decide) (ltd rfl)⟩, ⟨_, rfl, .ref rfl (by decide) (ltd rfl)⟩, ⟨_, rfl, .hs rfl (by decide) (ltd rfl)⟩, ⟨_, rfl, .ref rfl (by decide) (ltd rfl)⟩, ⟨_, rfl, (wv_fn (.cons (.ref rfl (by decide) (ltd rfl)) (.cons (.ref rfl (by decide) (ltd rfl)) .nil)))⟩, ⟨_, rfl, .d (.refl _)⟩, ⟨_, rfl, .d (.refl _)⟩, ⟨_, rfl, .d (.refl _)⟩, trivial⟩ ⟨⟨ltd rfl, .inr ⟨by decide, _, rfl, wb_cel1 (.cons (.hs rfl (by decide) (ltd rfl)) rfl .nil)⟩⟩, ⟨ltd rfl, .inr ⟨by decide, _, rfl, .dat _ _⟩⟩, ⟨ltd rfl, .inr ⟨by decide, _, rfl, .dat _ _⟩⟩, ⟨ltd rfl, .inr ⟨by decide, _, rfl, wb_cel1 (.cons (.hs rfl (by decide) (ltd rfl)) rfl .nil)⟩⟩, ⟨ltd rfl, .inr ⟨by decide, _, rfl, .dat _ _⟩⟩, ⟨ltd rfl, .inr ⟨by decide, _, rfl, .dat _ _⟩⟩, trivial⟩⟩
            · intro b81 hb
              subst hb
              refine rk_region ?_
              refine ok_v (.d (.int .i64 (w64 (a57.1 + 1)))) rfl rfl ?_
              refine ok_mv rfl rfl ?_
              refine ok_nil ?_
              refine rk_nil ?_
              exact ⟨_, (Option.some.inj h56).symm, wkE [(0, 0), (1, 1), (2, 2), (3, 3), (4, 4), (5, 5)] [] [] rfl ⟨⟨_, rfl, .d (.refl _)⟩, ⟨_, rfl, .d (.refl _)⟩, ⟨_, rfl, .d (.refl _)⟩, ⟨_, rfl, .ref rfl (by decide) (ltd rfl)⟩, ⟨_, rfl, .ref rfl (by decide) (ltd rfl)⟩, ⟨_, rfl, .hs rfl (by decide) (ltd rfl)⟩, ⟨_, rfl, .ref rfl (by decide) (ltd rfl)⟩, ⟨_, rfl, (wv_fn (.cons (.ref rfl (by decide) (ltd rfl)) (.cons (.ref rfl (by decide) (ltd rfl)) .nil)))⟩, ⟨_, rfl, .d (.refl _)⟩, ⟨_, rfl, .d (.refl _)⟩, ⟨_, rfl, .d (.refl _)⟩, trivial⟩ ⟨⟨ltd rfl, .inr ⟨by decide, _, rfl, wb_cel1 (.cons (.hs rfl (by decide) (ltd rfl)) rfl .nil)⟩⟩, ⟨ltd rfl, .inr ⟨by decide, _, rfl, .dat _ _⟩⟩, ⟨ltd rfl, .inr ⟨by decide, _, rfl, .dat _ _⟩⟩, ⟨ltd rfl, .inr ⟨by decide, _, rfl, wb_cel1 (.cons (.hs rfl (by decide) (ltd rfl)) rfl .nil)⟩⟩, ⟨ltd rfl, .inr ⟨by decide, _, rfl, .dat _ _⟩⟩, ⟨ltd rfl, .inr ⟨by decide, _, rfl, .dat _ _⟩⟩, trivial⟩⟩
          · refine rk_exit ?_
            refine ⟨_, (Option.some.inj h56).symm, fun hm => ?_⟩
            subst hm
            exact ⟨_, rfl, wkE [(0, 0), (1, 1), (2, 2), (3, 3), (4, 4), (5, 5)] [] [] rfl ⟨⟨_, rfl, .d (.refl _)⟩, ⟨_, rfl, .d (.refl _)⟩, ⟨_, rfl, .ref rfl (by decide) (ltd rfl)⟩, ⟨_, rfl, .ref rfl (by decide) (ltd rfl)⟩, ⟨_, rfl, .hs rfl (by decide) (ltd rfl)⟩, ⟨_, rfl, .ref rfl (by decide) (ltd rfl)⟩, trivial⟩ ⟨⟨ltd rfl, .inr ⟨by decide, _, rfl, wb_cel1 (.cons (.hs rfl (by decide) (ltd rfl)) rfl .nil)⟩⟩, ⟨ltd rfl, .inr ⟨by decide, _, rfl, .dat _ _⟩⟩, ⟨ltd rfl, .inr ⟨by decide, _, rfl, .dat _ _⟩⟩, ⟨ltd rfl, .inr ⟨by decide, _, rfl, wb_cel1 (.cons (.hs rfl (by decide) (ltd rfl)) rfl .nil)⟩⟩, ⟨ltd rfl, .inr ⟨by decide, _, rfl, .dat _ _⟩⟩, ⟨ltd rfl, .inr ⟨by decide, _, rfl, .dat _ _⟩⟩, trivial⟩⟩
        · intro b60 hb
          subst hb
          refine rk_seq ?_
          refine rk_seq ?_
          refine rk_region ?_
          refine ok_v (.d (.int .i64 b60.1)) rfl rfl ?_
          refine ok_v (.d (.bool (decide (b60.1 < 0)))) rfl rfl ?_
          refine ok_nil ?_
          refine rk_condH rfl h0 (fun _ h0 => ?_) (fun _ h0 => ?_)
          · refine rk_seq ?_
            refine rk_region ?_
            refine ok_as rfl rfl ?_
            refine ok_as rfl rfl ?_
            refine ok_nil ?_
            refine rk_ret ?_
            obtain rfl := someE h0
            exact finD (.inr rfl) (v := .d (.tup [.nilsl, .int .i64 16])) rfl rfl (dle_tup (.cons (.nil _) (.cons (.refl _) .nil)))
          · refine rk_skip ?_
            refine rk_seq ?_
            refine rk_seq ?_
            refine rk_region ?_
            refine ok_v (.d (.int .i64 b60.1)) rfl rfl ?_
            refine ok_v (.d (.bool (decide (b60.1 > 0)))) rfl rfl ?_
            obtain ⟨c100, h101, h0⟩ := bindE h0
            refine ok_cutQ 5 (fun A st => ∃ (j102 j103 j104 j105 : V), st = A [(79, .d (.bool c100)), (78, j105), (77, j104), (76, j103), (75, j102)]) ?_ ?_
            · refine ok_mvB rfl rfl h101 (fun h101 => ?_) (fun h101 => ?_)
              · refine ok_v (.hs 5 1 0 b60.2.2.2.length) rfl rfl ?_
                refine ok_v (.d (.int .i64 (b60.2.2.2.length : Int))) rfl rfl ?_
                refine ok_v (.d (.bool ((b60.2.2.2.length : Int) == 0))) rfl rfl ?_
                refine ok_v (.d (.bool ((b60.2.2.2.length : Int) == 0))) rfl rfl ?_
                refine ok_nil ?_
                obtain rfl := someE h101
                exact ⟨_, _, _, _, rfl⟩
              · refine ok_sg rfl ?_
                refine ok_sg rfl ?_
                refine ok_sg rfl ?_
                refine ok_v (.d (.bool false)) rfl rfl ?_
                refine ok_nil ?_
                obtain rfl := someE h101
                exact ⟨_, _, _, _, rfl⟩
            · rintro _ ⟨j102, j103, j104, j105, rfl⟩
              refine ok_nil ?_
              refine rk_condH rfl h0 (fun _ h0 => ?_) (fun _ h0 => ?_)
              · refine rk_seq ?_
                refine rk_region ?_
                refine ok_as rfl rfl ?_
                refine ok_as rfl rfl ?_
                refine ok_nil ?_
                refine rk_ret ?_
                obtain rfl := someE h0
                exact finD (.inr rfl) (v := .d (.tup [.nilsl, .int .i64 28])) rfl rfl (dle_tup (.cons (.nil _) (.cons (.refl _) .nil)))
              · refine rk_skip ?_
                refine rk_seq ?_
                refine rk_seq ?_
                refine rk_region ?_
                refine ok_v (.d (.int .i64 b60.1)) rfl rfl ?_
                refine ok_mv rfl rfl ?_
                obtain ⟨e106, h107, h0⟩ := bindE h0
                obtain ⟨u108, h109, h0⟩ := bindE h0
                have h110 := lenEq_some h109
                refine ok_callF [(0, 2)] [(0, 4), (1, 4), (2, 0), (3, 4), (4, 4), (5, 4), (6, 1), (7, 2), (8, 3)] [.d (.int .i64 b60.1), .hs 2 1 0 b60.2.1.length] (.fn 46 [.ref 6 1 0 0, .ref 7 1 0 0, .ref 8 1 0 0]) [(2, .dat 1 (e106.1.map (eI .i64))), (6, .cel 1 [[.hs 2 1 0 e106.1.length]]), (7, .dat 1 [[.int .i64 e106.2.1]]), (8, .dat 1 [[.int .i64 e106.2.2]])] [(2, .dat 1 (e106.1.map (eI .i64))), (6, .cel 1 [[.hs 2 1 0 e106.1.length]]), (7, .dat 1 [[.int .i64 e106.2.1]]), (8, .dat 1 [[.int .i64 e106.2.2]]), (0, .cel 1 [[.hs 4 1 0 b60.2.2.1.length]]), (1, .dat 1 [[.int .i64 b60.1]]), (3, .cel 1 [[.hs 5 1 0 b60.2.2.2.length]]), (4, .dat 1 (b60.2.2.1.map (eI .i64))), (5, .dat 1 (b60.2.2.2.map (eI .i64)))] 9 (split_shares_e1_eff b60.1 b60.2.1 e106 h107) rfl rfl rfl (wk_mk [(0, 2)] [] [] rfl ⟨⟨_, rfl, .d (.refl _)⟩, ⟨_, rfl, .hs rfl (by decide) (ltd rfl)⟩, trivial⟩ ⟨⟨ltd rfl, .inr ⟨by decide, _, rfl, .dat _ _⟩⟩, trivial⟩) (wk_mk [(0, 4), (1, 4), (2, 0), (3, 4), (4, 4), (5, 4), (6, 1), (7, 2), (8, 3)] [] [] rfl ⟨⟨_, rfl, (wv_fn (.cons (.ref rfl (by decide) (ltd rfl)) (.cons (.ref rfl (by decide) (ltd rfl)) (.cons (.ref rfl (by decide) (ltd rfl)) .nil))))⟩, trivial⟩ ⟨⟨ltd rfl, .inr ⟨by decide, _, rfl, .dat _ _⟩⟩, ⟨ltd rfl, .inr ⟨by decide, _, rfl, wb_cel1 (.cons (.hs rfl (by decide) (ltd rfl)) rfl .nil)⟩⟩, ⟨ltd rfl, .inr ⟨by decide, _, rfl, .dat _ _⟩⟩, ⟨ltd rfl, .inr ⟨by decide, _, rfl, .dat _ _⟩⟩, trivial⟩) rfl ⟨.inl rfl, .inl rfl, .inl rfl, .inl rfl, .inr ⟨rfl, rfl⟩, .inr ⟨rfl, rfl⟩, .inr ⟨rfl, rfl⟩, .inr ⟨rfl, rfl⟩, .inr ⟨rfl, rfl⟩, trivial⟩ ?_
                refine ok_nil ?_
                refine rk_block ?_
                obtain ⟨m221, h220, h0⟩ := bindE h0
                refine rk_cut0 (fun b222 => b222 = m221) (fun (b222 : List Int) => ⟨[(7, .ref 0 1 0 0)], [(0, .cel 1 [[.hs 1 1 0 b222.length]]), (1, .dat 1 (b222.map (eI .i64)))], 2⟩) ?_ ?_
                · refine rk_wk (st' := ⟨[(4, .d (.nilsl)), (5, .d (.int .i64 0)), (7, .ref 0 1 0 0), (10, .ref 1 1 0 0), (82, .fn 46 [.ref 2 1 0 0, .ref 3 1 0 0, .ref 4 1 0 0])], [(0, .cel 1 [[.hs 5 1 0 b60.2.2.1.length]]), (1, .cel 1 [[.d (.sl 1 (b60.2.2.2.map (eI .i64)))]]), (2, .cel 1 [[.hs 6 1 0 e106.1.length]]), (3, .dat 1 [[.int .i64 e106.2.1]]), (4, .dat 1 [[.int .i64 e106.2.2]]), (5, .dat 1 (b60.2.2.1.map (eI .i64))), (6, .dat 1 (e106.1.map (eI .i64)))], 7⟩) (wkE [(0, 0), (1, 3), (2, 6), (3, 7), (4, 8), (5, 4), (6, 2)] [5] [] rfl ⟨⟨_, rfl, .d (.refl _)⟩, ⟨_, rfl, .d (.refl _)⟩, ⟨_, rfl, .ref rfl (by decide) (ltd rfl)⟩, ⟨_, rfl, .ref rfl (by decide) (ltd rfl)⟩, ⟨_, rfl, (wv_fn (.cons (.ref rfl (by decide) (ltd rfl)) (.cons (.ref rfl (by decide) (ltd rfl)) (.cons (.ref rfl (by decide) (ltd rfl)) .nil))))⟩, trivial⟩ ⟨⟨ltd rfl, .inr ⟨by decide, _, rfl, wb_cel1 (.cons (.hs rfl (by decide) (ltd rfl)) rfl .nil)⟩⟩, ⟨ltd rfl, .inr ⟨by decide, _, rfl, wb_cel1 (.cons (wv_frz rfl rfl (by decide)) rfl .nil)⟩⟩, ⟨ltd rfl, .inr ⟨by decide, _, rfl, wb_cel1 (.cons (.hs rfl (by decide) (ltd rfl)) rfl .nil)⟩⟩, ⟨ltd rfl, .inr ⟨by decide, _, rfl, .dat _ _⟩⟩, ⟨ltd rfl, .inr ⟨by decide, _, rfl, .dat _ _⟩⟩, ⟨ltd rfl, .inr ⟨by decide, _, rfl, .dat _ _⟩⟩, ⟨ltd rfl, .inr ⟨by decide, _, rfl, .dat _ _⟩⟩, trivial⟩) ?_ (by simp)
                  refine rk_rangeF [.ref 2 1 0 0, .ref 3 1 0 0, .ref 4 1 0 0] (.inl rfl) Try.func46 rfl (by kernel_rfl) (by kernel_rfl) rfl ?_
                  intro A223 B224 hA223 hB224
                  refine rk_seq ?_
                  refine rk_region ?_
                  refine ok_as rfl rfl ?_
                  refine ok_as rfl rfl ?_
                  refine ok_nil ?_
                  refine rk_seq ?_
                  refine rk_region ?_
                  refine ok_v (.hs 6 1 0 e106.1.length) rfl rfl ?_
                  refine ok_v (.d (.int .i64 (e106.1.length : Int))) rfl rfl ?_
                  refine ok_mv rfl rfl ?_
                  refine ok_nil ?_
                  obtain ⟨m280, h281, h220⟩ := bindE h220
                  refine rk_block ?_
                  refine rk_loopF (split_Sizes_L2 e106) (fun (a279 : Int × Int × Int × List Int × List Int) => ⟨[(0, .yld 7), (2, .ref 3 1 0 0), (3, .ref 4 1 0 0), (5, .d (.int .i64 a279.1)), (6, .d (.int .i64 a279.2.1)), (10, .hs 6 1 0 e106.1.length), (11, .d (.int .i64 (e106.1.length : Int))), (12, .d (.int .i64 a279.2.2.1))], [(0, .cel 1 [[.hs 5 1 0 a279.2.2.2.2.length]]), (1, .cel 1 [[.d (.sl 1 (a279.2.2.2.1.map (eI .i64)))]]), (2, .cel 1 [[.hs 6 1 0 e106.1.length]]), (3, .dat 1 [[.int .i64 e106.2.1]]), (4, .dat 1 [[.int .i64 e106.2.2]]), (5, .dat 1 (a279.2.2.2.2.map (eI .i64))), (6, .dat 1 (e106.1.map (eI .i64))), (7, .loop [(4, .d (.nilsl)), (5, .d (.int .i64 0)), (7, .ref 0 1 0 0), (10, .ref 1 1 0 0), (82, .fn 46 [.ref 2 1 0 0, .ref 3 1 0 0, .ref 4 1 0 0])] [83] A223 B224 .ready none)], 8⟩) (0, 0, 0, b60.2.2.2, b60.2.2.1) m280 h281 (wkE [] [] [] rfl ⟨⟨_, rfl, .yld rfl (by decide) (ltd rfl)⟩, ⟨_, rfl, .ref rfl (by decide) (ltd rfl)⟩, ⟨_, rfl, .ref rfl (by decide) (ltd rfl)⟩, ⟨_, rfl, .d (.refl _)⟩, ⟨_, rfl, .d (.refl _)⟩, ⟨_, rfl, .hs rfl (by decide) (ltd rfl)⟩, ⟨_, rfl, .d (.refl _)⟩, ⟨_, rfl, .d (.refl _)⟩, trivial⟩ ⟨⟨ltd rfl, .inr ⟨by decide, _, rfl, wb_cel1 (.cons (.hs rfl (by decide) (ltd rfl)) rfl .nil)⟩⟩, ⟨ltd rfl, .inr ⟨by decide, _, rfl, wb_cel1 (.cons (.d (.refl _)) rfl .nil)⟩⟩, ⟨ltd rfl, .inr ⟨by decide, _, rfl, wb_cel1 (.cons (.hs rfl (by decide) (ltd rfl)) rfl .nil)⟩⟩, ⟨ltd rfl, .inr ⟨by decide, _, rfl, .dat _ _⟩⟩, ⟨ltd rfl, .inr ⟨by decide, _, rfl, .dat _ _⟩⟩, ⟨ltd rfl, .inr ⟨by decide, _, rfl, .dat _ _⟩⟩, ⟨ltd rfl, .inr ⟨by decide, _, rfl, .dat _ _⟩⟩, ⟨ltd rfl, .inr ⟨by decide, _, rfl, wb_loopS (.cons rfl (.d (.refl _)) (.cons rfl (.d (.refl _)) (.cons rfl (.ref rfl (by decide) (ltd rfl)) (.cons rfl (.ref rfl (by decide) (ltd rfl)) (.cons rfl ((wv_fn (.cons (.ref rfl (by decide) (ltd rfl)) (.cons (.ref rfl (by decide) (ltd rfl)) (.cons (.ref rfl (by decide) (ltd rfl)) .nil))))) .nil)))))⟩⟩, trivial⟩) ?_
                  intro a279 y277 h278
                  unfold split_Sizes_L2 at h278
                  refine rk_seq ?_
                  refine rk_region ?_
                  refine ok_v (.d (.bool (decide (a279.2.2.1 < (e106.1.length : Int))))) rfl rfl ?_
                  refine ok_nil ?_
                  refine rk_seq ?_
                  refine rk_condH rfl h278 (fun _ h278 => ?_) (fun _ h278 => ?_)
                  · refine rk_skip ?_
                    refine rk_seq ?_
                    refine rk_block ?_
                    refine rk_seq ?_
                    refine rk_region ?_
                    obtain ⟨v295, h296, h278⟩ := bindE h278
                    refine ok_ih h296 rfl rfl rfl rfl rfl rfl rfl ?_
                    refine ok_lh (.d (.int .i64 v295)) h296 rfl rfl rfl rfl rfl rfl ?_
                    refine ok_as rfl rfl ?_
                    refine ok_nil ?_
                    refine rk_seq ?_
                    refine rk_region ?_
                    refine ok_mv rfl rfl ?_
                    refine ok_mv rfl rfl ?_
                    refine ok_v (.d (.int .i64 (w64 (a279.1 + v295)))) rfl rfl ?_
                    refine ok_as rfl rfl ?_
                    refine ok_nil ?_
                    refine rk_seq ?_
                    refine rk_region ?_
                    refine ok_v (.d (.int .i64 e106.2.1)) rfl rfl ?_
                    refine ok_mv rfl rfl ?_
                    refine ok_v (.d (.int .i64 (w64 (e106.2.1 * (w64 (a279.1 + v295)))))) rfl rfl ?_
                    refine ok_v (.d (.int .i64 e106.2.2)) rfl rfl ?_
                    obtain ⟨q297, h298, h278⟩ := bindE h278
                    refine ok_quo h298 rfl rfl rfl ?_
                    refine ok_as rfl rfl ?_
                    refine ok_nil ?_
                    refine rk_seq ?_
                    refine rk_seq ?_
                    refine rk_region ?_
                    refine ok_mv rfl rfl ?_
                    refine ok_mv rfl rfl ?_
                    refine ok_mv rfl rfl ?_
                    refine ok_v (.d (.int .i64 (w64 (q297 - a279.2.1)))) rfl rfl ?_
                    obtain ⟨m306, h305, h278⟩ := bindE h278
                    refine ok_yieldC (fun b307 => b307 = m306) (fun (b307 : List Int × List Int) => ⟨[(0, .yld 7), (2, .ref 3 1 0 0), (3, .ref 4 1 0 0), (5, .d (.int .i64 (w64 (a279.1 + v295)))), (9, .d (.int .i64 q297)), (10, .hs 6 1 0 e106.1.length), (11, .d (.int .i64 (e106.1.length : Int))), (12, .d (.int .i64 a279.2.2.1)), (28, .d (.bool true))], [(0, .cel 1 [[.hs 5 1 0 b307.2.length]]), (1, .cel 1 [[.d (.sl 1 (b307.1.map (eI .i64)))]]), (2, .cel 1 [[.hs 6 1 0 e106.1.length]]), (3, .dat 1 [[.int .i64 e106.2.1]]), (4, .dat 1 [[.int .i64 e106.2.2]]), (5, .dat 1 (b307.2.map (eI .i64))), (6, .dat 1 (e106.1.map (eI .i64))), (7, .loop [(4, .d (.nilsl)), (5, .d (.int .i64 0)), (7, .ref 0 1 0 0), (10, .ref 1 1 0 0), (82, .fn 46 [.ref 2 1 0 0, .ref 3 1 0 0, .ref 4 1 0 0])] [83] A223 B224 .ready none)], 8⟩) hA223 hB224 rfl rfl rfl rfl rfl rfl ?_ ?_
                    · refine rk_region ?_
                      refine ok_as rfl rfl ?_
                      refine ok_nil ?_
                      refine rk_nil ?_
                      refine ⟨rfl, _, rfl, ?_⟩
                      refine rk_block ?_
                      refine rk_seq ?_
                      refine rk_regionD [(some [5], [5]), (some [], []), (some [], []), (some [], []), (some [], []), (some [1], []), (some [0], [])] (by kernel_rfl) ?_
                      refine ok_v (.hs 5 1 0 a279.2.2.2.2.length) rfl rfl ?_
                      refine ok_v (.d (.sl 1 (a279.2.2.2.1.map (eI .i64)))) rfl rfl ?_
                      obtain ⟨v308, h309, h305⟩ := bindE h305
                      refine ok_ix (enc := (eI .i64)) h309 rfl rfl rfl rfl rfl rfl ?_
                      refine ok_v (.d (.int .i64 v308)) rfl rfl ?_
                      refine ok_mv rfl rfl ?_
                      obtain ⟨v310, h311, h305⟩ := bindE h305
                      refine ok_ih h311 rfl rfl rfl rfl rfl rfl rfl ?_
                      refine ok_sh (ds := [.int .i64 (w64 (q297 - a279.2.1))]) (w64 (q297 - a279.2.1)) h311 rfl rfl rfl rfl rfl rfl rfl rfl (leb rfl) rfl ?_
                      refine ok_nil ?_
                      refine rk_region ?_
                      refine ok_v (.d (.sl 1 (a279.2.2.2.1.map (eI .i64)))) rfl rfl ?_
                      obtain ⟨z312, h313, h305⟩ := bindE h305
                      refine ok_slc (enc := (eI .i64)) h313 rfl rfl rfl rfl rfl (bound_v rfl) (fun _ => rfl) ?_
                      refine ok_sto 1 (.cel 1 [[.d (.sl 1 (z312.map (eI .i64)))]]) rfl rfl ?_
                      refine ok_nil ?_
                      refine rk_nil ?_
                      refine blk_nor ?_
                      refine rk_nil ?_
                      refine ⟨_, rfl, ?_⟩
                      obtain rfl := someE h305
                      exact ⟨_, rfl, wkE [] [] [] rfl ⟨⟨_, rfl, .yld rfl (by decide) (ltd rfl)⟩, ⟨_, rfl, .ref rfl (by decide) (ltd rfl)⟩, ⟨_, rfl, .ref rfl (by decide) (ltd rfl)⟩, ⟨_, rfl, .d (.refl _)⟩, ⟨_, rfl, .d (.refl _)⟩, ⟨_, rfl, .hs rfl (by decide) (ltd rfl)⟩, ⟨_, rfl, .d (.refl _)⟩, ⟨_, rfl, .d (.refl _)⟩, ⟨_, rfl, .d (.refl _)⟩, trivial⟩ ⟨⟨ltd rfl, .inr ⟨by decide, _, rfl, wb_cel1 (.cons (wv_hsL (by simp) rfl (by decide) (ltd rfl)) rfl .nil)⟩⟩, ⟨ltd rfl, .inr ⟨by decide, _, rfl, wb_cel1 (.cons (.d (.refl _)) rfl .nil)⟩⟩, ⟨ltd rfl, .inr ⟨by decide, _, rfl, wb_cel1 (.cons (.hs rfl (by decide) (ltd rfl)) rfl .nil)⟩⟩, ⟨ltd rfl, .inr ⟨by decide, _, rfl, .dat _ _⟩⟩, ⟨ltd rfl, .inr ⟨by decide, _, rfl, .dat _ _⟩⟩, ⟨ltd rfl, .inr ⟨by decide, _, rfl, .dat _ _⟩⟩, ⟨ltd rfl, .inr ⟨by decide, _, rfl, .dat _ _⟩⟩, ⟨ltd rfl, .inr ⟨by decide, _, rfl, wb_loopS (.cons rfl (.d (.refl _)) (.cons rfl (.d (.refl _)) (.cons rfl (.ref rfl (by decide) (ltd rfl)) (.cons rfl (.ref rfl (by decide) (ltd rfl)) (.cons rfl ((wv_fn (.cons (.ref rfl (by decide) (ltd rfl)) (.cons (.ref rfl (by decide) (ltd rfl)) (.cons (.ref rfl (by decide) (ltd rfl)) .nil))))) .nil)))))⟩⟩, trivial⟩⟩
                    · intro b307 hb
                      subst hb
                      refine ok_v (.d (.bool (!true))) rfl rfl ?_
                      refine ok_nil ?_
                      refine rk_condH rfl h278 (fun _ h278 => ?_) (fun _ h278 => ?_)
                      · refine rk_ret ?_
                        refine ⟨_, (Option.some.inj h278).symm, fun hm => ?_⟩
                        subst hm
                        refine ⟨.inr rfl, _, rfl, _, _, .nor, rfl, by decide, ?_⟩
                        refine after_nor ?_
                        refine rk_nil ?_
                        obtain rfl := someE h220
                        exact ⟨_, rfl, wkE [(0, 0), (1, 5)] [] [] rfl ⟨⟨_, rfl, .ref rfl (by decide) (ltd rfl)⟩, trivial⟩ ⟨⟨ltd rfl, .inr ⟨by decide, _, rfl, wb_cel1 (.cons (.hs rfl (by decide) (ltd rfl)) rfl .nil)⟩⟩, ⟨ltd rfl, .inr ⟨by decide, _, rfl, .dat _ _⟩⟩, trivial⟩⟩
                      · refine rk_skip ?_
                        refine rk_region ?_
                        refine ok_mv rfl rfl ?_
                        refine ok_as rfl rfl ?_
                        refine ok_nil ?_
                        refine rk_nil ?_
                        refine blk_nor ?_
                        refine rk_region ?_
                        refine ok_v (.d (.int .i64 (w64 (a279.2.2.1 + 1)))) rfl rfl ?_
                        refine ok_mv rfl rfl ?_
                        refine ok_nil ?_
                        refine rk_nil ?_
                        exact ⟨_, (Option.some.inj h278).symm, wkE [] [] [] rfl ⟨⟨_, rfl, .yld rfl (by decide) (ltd rfl)⟩, ⟨_, rfl, .ref rfl (by decide) (ltd rfl)⟩, ⟨_, rfl, .ref rfl (by decide) (ltd rfl)⟩, ⟨_, rfl, .d (.refl _)⟩, ⟨_, rfl, .d (.refl _)⟩, ⟨_, rfl, .hs rfl (by decide) (ltd rfl)⟩, ⟨_, rfl, .d (.refl _)⟩, ⟨_, rfl, .d (.refl _)⟩, trivial⟩ ⟨⟨ltd rfl, .inr ⟨by decide, _, rfl, wb_cel1 (.cons (.hs rfl (by decide) (ltd rfl)) rfl .nil)⟩⟩, ⟨ltd rfl, .inr ⟨by decide, _, rfl, wb_cel1 (.cons (.d (.refl _)) rfl .nil)⟩⟩, ⟨ltd rfl, .inr ⟨by decide, _, rfl, wb_cel1 (.cons (.hs rfl (by decide) (ltd rfl)) rfl .nil)⟩⟩, ⟨ltd rfl, .inr ⟨by decide, _, rfl, .dat _ _⟩⟩, ⟨ltd rfl, .inr ⟨by decide, _, rfl, .dat _ _⟩⟩, ⟨ltd rfl, .inr ⟨by decide, _, rfl, .dat _ _⟩⟩, ⟨ltd rfl, .inr ⟨by decide, _, rfl, .dat _ _⟩⟩, ⟨ltd rfl, .inr ⟨by decide, _, rfl, wb_loopS (.cons rfl (.d (.refl _)) (.cons rfl (.d (.refl _)) (.cons rfl (.ref rfl (by decide) (ltd rfl)) (.cons rfl (.ref rfl (by decide) (ltd rfl)) (.cons rfl ((wv_fn (.cons (.ref rfl (by decide) (ltd rfl)) (.cons (.ref rfl (by decide) (ltd rfl)) (.cons (.ref rfl (by decide) (ltd rfl)) .nil))))) .nil)))))⟩⟩, trivial⟩⟩
                  · refine rk_exit ?_
                    refine ⟨_, (Option.some.inj h278).symm, fun hm => ?_⟩
                    subst hm
                    refine ⟨.inl rfl, _, rfl, _, _, .nor, rfl, by decide, ?_⟩
                    refine after_nor ?_
                    refine rk_nil ?_
                    obtain rfl := someE h220
                    exact ⟨_, rfl, wkE [(0, 0), (1, 5)] [] [] rfl ⟨⟨_, rfl, .ref rfl (by decide) (ltd rfl)⟩, trivial⟩ ⟨⟨ltd rfl, .inr ⟨by decide, _, rfl, wb_cel1 (.cons (.hs rfl (by decide) (ltd rfl)) rfl .nil)⟩⟩, ⟨ltd rfl, .inr ⟨by decide, _, rfl, .dat _ _⟩⟩, trivial⟩⟩
                · intro b222 st hb hw
                  subst hb
                  refine rk_wk hw ?_ (by simp)
                  refine rk_seq ?_
                  refine rk_region ?_
                  refine ok_v (.hs 1 1 0 b222.length) rfl rfl ?_
                  refine ok_as rfl rfl ?_
                  refine ok_as rfl rfl ?_
                  refine ok_nil ?_
                  refine rk_ret ?_
                  obtain rfl := someE h0
                  exact finD (.inr rfl) (v := .tup [.hs 1 1 0 b222.length, .d (.int .i64 0)]) rfl (td_tup (mm_cons (td_hs rfl rfl) (mm_cons rfl rfl))) (.refl _)

theorem r01_common_ok (p0 : Int) (p1 : Int) (r : Int) (h0 : r01_common p0 p1 = some r) : Pure Try.prog tab 65 [.int .i64 p0, .int .i64 p1] (.int .i64 r) := by
  unfold r01_common at h0
  refine pure_of_run Try.func65 rfl (by kernel_rfl) (by kernel_rfl) rfl ?_
  refine rk_seq ?_
  refine rk_region ?_
  refine ok_as rfl rfl ?_
  refine ok_nil ?_
  refine rk_seq ?_
  obtain ⟨m8, h9, h0⟩ := bindE h0
  refine rk_blockcut (fun b10 => b10 = m8) (fun (b10 : Int) => ⟨[(0, .d (.int .i64 b10))], [], 0⟩) (by simp) ?_ ?_
  · refine rk_loopF (r01_common_L1) (fun (a7 : Int × Int) => ⟨[(0, .d (.int .i64 a7.1)), (1, .d (.int .i64 a7.2))], [], 0⟩) (p0, p1) m8 h9 (wkE [] [] [] rfl ⟨⟨_, rfl, .d (.refl _)⟩, ⟨_, rfl, .d (.refl _)⟩, trivial⟩ trivial) ?_
    intro a7 y5 h6
    unfold r01_common_L1 at h6
    refine rk_seq ?_
    refine rk_seq ?_
    refine rk_region ?_
    refine ok_mv rfl rfl ?_
    refine ok_v (.d (.bool (a7.2 != 0))) rfl rfl ?_
    refine ok_nil ?_
    refine rk_condH rfl h6 (fun _ h6 => ?_) (fun _ h6 => ?_)
    · refine rk_skip ?_
      refine rk_block ?_
      refine rk_regionD [(some [], []), (some [], []), (some [], []), (some [], []), (some [], []), (some [], [])] (by kernel_rfl) ?_
      refine ok_mv rfl rfl ?_
      refine ok_mv rfl rfl ?_
      refine ok_mv rfl rfl ?_
      obtain ⟨q11, h12, h6⟩ := bindE h6
      refine ok_rem h12 rfl rfl rfl ?_
      refine ok_as rfl rfl ?_
      refine ok_as rfl rfl ?_
      refine ok_nil ?_
      refine rk_nil ?_
      refine blk_nor ?_
      refine rk_nil ?_
      exact ⟨_, (Option.some.inj h6).symm, wkE [] [] [] rfl ⟨⟨_, rfl, .d (.refl _)⟩, ⟨_, rfl, .d (.refl _)⟩, trivial⟩ trivial⟩
    · refine rk_exit ?_
      refine ⟨_, (Option.some.inj h6).symm, fun hm => ?_⟩
      subst hm
      exact ⟨_, rfl, wkE [] [] [] rfl ⟨⟨_, rfl, .d (.refl _)⟩, trivial⟩ trivial⟩
  · intro b10 hb
    subst hb
    refine rk_seq ?_
    refine rk_seq ?_
    refine rk_region ?_
    refine ok_mv rfl rfl ?_
    refine ok_v (.d (.bool (decide (b10 < 0)))) rfl rfl ?_
    refine ok_nil ?_
    refine rk_condH rfl h0 (fun _ h0 => ?_) (fun _ h0 => ?_)
    · refine rk_seq ?_
      refine rk_region ?_
      refine ok_mv rfl rfl ?_
      refine ok_v (.d (.int .i64 (w64 (0 - b10)))) rfl rfl ?_
      refine ok_as rfl rfl ?_
      refine ok_nil ?_
      refine rk_ret ?_
      obtain rfl := someE h0
      exact finD (.inr rfl) (v := .d (.int .i64 (w64 (0 - b10)))) rfl rfl (.refl _)
    · refine rk_skip ?_
      refine rk_seq ?_
      refine rk_region ?_
      refine ok_mv rfl rfl ?_
      refine ok_as rfl rfl ?_
      refine ok_nil ?_
      refine rk_ret ?_
      obtain rfl := someE h0
      exact finD (.inr rfl) (v := .d (.int .i64 b10)) rfl rfl (.refl _)

theorem r01_Check_ok (p0 : api_Ratio) (r : Int) (h0 : r01_Check p0 = some r) : Pure Try.prog tab 49 [.agg [.int .i64 p0.Num, .int .i64 p0.Den]] (.int .i64 r) := by
  unfold r01_Check at h0
  refine pure_of_run Try.func49 rfl (by kernel_rfl) (by kernel_rfl) rfl ?_
  refine rk_seq ?_
  refine rk_region ?_
  refine ok_new (.ref 0 2 0 0) (.dat 2 [[.int .i64 p0.Num, .int .i64 p0.Den]]) rfl rfl ?_
  refine ok_as rfl rfl ?_
  refine ok_nil ?_
  refine rk_seq ?_
  refine rk_seq ?_
  refine rk_region ?_
  refine ok_v (.ref 0 2 0 1) rfl rfl ?_
  refine ok_v (.d (.int .i64 p0.Den)) rfl rfl ?_
  refine ok_v (.d (.bool (decide (p0.Den < 1)))) rfl rfl ?_
  obtain ⟨c1, h2, h0⟩ := bindE h0
  refine ok_cutQ 5 (fun A st => ∃ (j3 j4 j5 j6 : V), st = A [(10, .d (.bool c1)), (9, j6), (8, j5), (7, j4), (6, j3)]) ?_ ?_
  · refine ok_mvB rfl rfl h2 (fun h2 => ?_) (fun h2 => ?_)
    · refine ok_sg rfl ?_
      refine ok_sg rfl ?_
      refine ok_sg rfl ?_
      refine ok_v (.d (.bool true)) rfl rfl ?_
      refine ok_nil ?_
      obtain rfl := someE h2
      exact ⟨_, _, _, _, rfl⟩
    · refine ok_v (.ref 0 2 0 1) rfl rfl ?_
      refine ok_v (.d (.int .i64 p0.Den)) rfl rfl ?_
      refine ok_v (.d (.bool (decide (p0.Den > 1000000000)))) rfl rfl ?_
      refine ok_v (.d (.bool (decide (p0.Den > 1000000000)))) rfl rfl ?_
      refine ok_nil ?_
      obtain rfl := someE h2
      exact ⟨_, _, _, _, rfl⟩
  · rintro _ ⟨j3, j4, j5, j6, rfl⟩
    obtain ⟨c7, h8, h0⟩ := bindE h0
    refine ok_cutQ 5 (fun A st => ∃ (j9 j10 j11 j12 : V), st = A [(15, .d (.bool c7)), (14, j12), (13, j11), (12, j10), (11, j9)]) ?_ ?_
    · refine ok_mvB rfl rfl h8 (fun h8 => ?_) (fun h8 => ?_)
      · refine ok_sg rfl ?_
        refine ok_sg rfl ?_
        refine ok_sg rfl ?_
        refine ok_v (.d (.bool true)) rfl rfl ?_
        refine ok_nil ?_
        obtain rfl := someE h8
        exact ⟨_, _, _, _, rfl⟩
      · refine ok_v (.ref 0 2 0 0) rfl rfl ?_
        refine ok_v (.d (.int .i64 p0.Num)) rfl rfl ?_
        refine ok_v (.d (.bool (decide (p0.Num < (-1000000000))))) rfl rfl ?_
        refine ok_v (.d (.bool (decide (p0.Num < (-1000000000))))) rfl rfl ?_
        refine ok_nil ?_
        obtain rfl := someE h8
        exact ⟨_, _, _, _, rfl⟩
    · rintro _ ⟨j9, j10, j11, j12, rfl⟩
      obtain ⟨c13, h14, h0⟩ := bindE h0
      refine ok_cutQ 5 (fun A st => ∃ (j15 j16 j17 j18 : V), st = A [(20, .d (.bool c13)), (19, j18), (18, j17), (17, j16), (16, j15)]) ?_ ?_
      · refine ok_mvB rfl rfl h14 (fun h14 => ?_) (fun h14 => ?_)
        · refine ok_sg rfl ?_
          refine ok_sg rfl ?_
          refine ok_sg rfl ?_
          refine ok_v (.d (.bool true)) rfl rfl ?_
          refine ok_nil ?_
          obtain rfl := someE h14
          exact ⟨_, _, _, _, rfl⟩
        · refine ok_v (.ref 0 2 0 0) rfl rfl ?_
          refine ok_v (.d (.int .i64 p0.Num)) rfl rfl ?_
          refine ok_v (.d (.bool (decide (p0.Num > 1000000000)))) rfl rfl ?_
          refine ok_v (.d (.bool (decide (p0.Num > 1000000000)))) rfl rfl ?_
          refine ok_nil ?_
          obtain rfl := someE h14
          exact ⟨_, _, _, _, rfl⟩
      · rintro _ ⟨j15, j16, j17, j18, rfl⟩
        obtain ⟨c21, h22, h0⟩ := bindE h0
        refine ok_cutQ 8 (fun A st => ∃ (j23 j24 j25 j26 j27 j28 j29 : V), st = A [(28, .d (.bool c21)), (27, j29), (26, j28), (25, j27), (24, j26), (23, j25), (22, j24), (21, j23)]) ?_ ?_
        · refine ok_mvB rfl rfl h22 (fun h22 => ?_) (fun h22 => ?_)
          · refine ok_sg rfl ?_
            refine ok_sg rfl ?_
            refine ok_sg rfl ?_
            refine ok_sg rfl ?_
            refine ok_sg rfl ?_
            refine ok_sg rfl ?_
            refine ok_v (.d (.bool true)) rfl rfl ?_
            refine ok_nil ?_
            obtain rfl := someE h22
            exact ⟨_, _, _, _, _, _, _, rfl⟩
          · refine ok_v (.ref 0 2 0 0) rfl rfl ?_
            refine ok_v (.d (.int .i64 p0.Num)) rfl rfl ?_
            refine ok_v (.ref 0 2 0 1) rfl rfl ?_
            refine ok_v (.d (.int .i64 p0.Den)) rfl rfl ?_
            obtain ⟨r30, h31, h22⟩ := bindE h22
            refine ok_pc [.d (.int .i64 p0.Num), .d (.int .i64 p0.Den)] (r01_common_ok p0.Num p0.Den r30 h31) rfl rfl rfl (.inl rfl) ?_
            refine ok_v (.d (.bool (r30 != 1))) rfl rfl ?_
            refine ok_v (.d (.bool (r30 != 1))) rfl rfl ?_
            refine ok_nil ?_
            obtain rfl := someE h22
            exact ⟨_, _, _, _, _, _, _, rfl⟩
        · rintro _ ⟨j23, j24, j25, j26, j27, j28, j29, rfl⟩
          refine ok_nil ?_
          refine rk_condH rfl h0 (fun _ h0 => ?_) (fun _ h0 => ?_)
          · refine rk_seq ?_
            refine rk_region ?_
            refine ok_as rfl rfl ?_
            refine ok_nil ?_
            refine rk_ret ?_
            obtain rfl := someE h0
            exact finD (.inr rfl) (v := .d (.int .i64 8)) rfl rfl (.refl _)
          · refine rk_skip ?_
            refine rk_seq ?_
            refine rk_region ?_
            refine ok_as rfl rfl ?_
            refine ok_nil ?_
            refine rk_ret ?_
            obtain rfl := someE h0
            exact finD (.inr rfl) (v := .d (.int .i64 0)) rfl rfl (.refl _)

theorem r23_Valid_ok (p0 : api_Part) (r : Bool) (h0 : r23_Valid p0 = some r) : Pure Try.prog tab 33 [.agg [.int .u8 p0.Kind, .int .i64 p0.Size, .int .i64 p0.Share.Num, .int .i64 p0.Share.Den]] (.bool r) := by
  unfold r23_Valid at h0
  refine pure_of_run Try.func33 rfl (by kernel_rfl) (by kernel_rfl) rfl ?_
  refine rk_seq ?_
  refine rk_region ?_
  refine ok_new (.ref 0 4 0 0) (.dat 4 [[.int .u8 p0.Kind, .int .i64 p0.Size, .int .i64 p0.Share.Num, .int .i64 p0.Share.Den]]) rfl rfl ?_
  refine ok_as rfl rfl ?_
  refine ok_nil ?_
  refine rk_seq ?_
  refine rk_seq ?_
  refine rk_region ?_
  refine ok_v (.ref 0 4 0 0) rfl rfl ?_
  refine ok_v (.d (.int .u8 p0.Kind)) rfl rfl ?_
  refine ok_v (.d (.bool (p0.Kind == 2))) rfl rfl ?_
  refine ok_nil ?_
  refine rk_condH rfl h0 (fun _ h0 => ?_) (fun _ h0 => ?_)
  · refine rk_seq ?_
    refine rk_region ?_
    refine ok_v (.ref 0 4 0 1) rfl rfl ?_
    refine ok_v (.d (.int .i64 p0.Size)) rfl rfl ?_
    refine ok_v (.d (.bool (p0.Size == 0))) rfl rfl ?_
    obtain ⟨c31, h32, h0⟩ := bindE h0
    refine ok_cutQ 6 (fun A st => ∃ (j33 j34 j35 j36 j37 : V), st = A [(14, .d (.bool c31)), (13, j37), (12, j36), (11, j35), (10, j34), (9, j33)]) ?_ ?_
    · refine ok_mvB rfl rfl h32 (fun h32 => ?_) (fun h32 => ?_)
      · refine ok_v (.ref 0 4 0 2) rfl rfl ?_
        refine ok_v (.d (.agg [.int .i64 p0.Share.Num, .int .i64 p0.Share.Den])) rfl rfl ?_
        obtain ⟨r38, h39, h32⟩ := bindE h32
        refine ok_pc [.d (.agg [.int .i64 p0.Share.Num, .int .i64 p0.Share.Den])] (r01_Check_ok p0.Share r38 h39) rfl rfl rfl (.inl rfl) ?_
        refine ok_v (.d (.bool (r38 == 0))) rfl rfl ?_
        refine ok_v (.d (.bool (r38 == 0))) rfl rfl ?_
        refine ok_nil ?_
        obtain rfl := someE h32
        exact ⟨_, _, _, _, _, rfl⟩
      · refine ok_sg rfl ?_
        refine ok_sg rfl ?_
        refine ok_sg rfl ?_
        refine ok_sg rfl ?_
        refine ok_v (.d (.bool false)) rfl rfl ?_
        refine ok_nil ?_
        obtain rfl := someE h32
        exact ⟨_, _, _, _, _, rfl⟩
    · rintro _ ⟨j33, j34, j35, j36, j37, rfl⟩
      obtain ⟨c40, h41, h0⟩ := bindE h0
      refine ok_cutQ 6 (fun A st => ∃ (j42 j43 j44 j45 j46 : V), st = A [(20, .d (.bool c40)), (19, j46), (18, j45), (17, j44), (16, j43), (15, j42)]) ?_ ?_
      · refine ok_mvB rfl rfl h41 (fun h41 => ?_) (fun h41 => ?_)
        · refine ok_v (.ref 0 4 0 2) rfl rfl ?_
          refine ok_v (.ref 0 4 0 2) rfl rfl ?_
          refine ok_v (.d (.int .i64 p0.Share.Num)) rfl rfl ?_
          refine ok_v (.d (.bool (decide (p0.Share.Num ≥ 0)))) rfl rfl ?_
          refine ok_v (.d (.bool (decide (p0.Share.Num ≥ 0)))) rfl rfl ?_
          refine ok_nil ?_
          obtain rfl := someE h41
          exact ⟨_, _, _, _, _, rfl⟩
        · refine ok_sg rfl ?_
          refine ok_sg rfl ?_
          refine ok_sg rfl ?_
          refine ok_sg rfl ?_
          refine ok_v (.d (.bool false)) rfl rfl ?_
          refine ok_nil ?_
          obtain rfl := someE h41
          exact ⟨_, _, _, _, _, rfl⟩
      · rintro _ ⟨j42, j43, j44, j45, j46, rfl⟩
        obtain ⟨c47, h48, h0⟩ := bindE h0
        refine ok_cutQ 9 (fun A st => ∃ (j49 j50 j51 j52 j53 j54 j55 j56 : V), st = A [(29, .d (.bool c47)), (28, j56), (27, j55), (26, j54), (25, j53), (24, j52), (23, j51), (22, j50), (21, j49)]) ?_ ?_
        · refine ok_mvB rfl rfl h48 (fun h48 => ?_) (fun h48 => ?_)
          · refine ok_v (.ref 0 4 0 2) rfl rfl ?_
            refine ok_v (.ref 0 4 0 2) rfl rfl ?_
            refine ok_v (.d (.int .i64 p0.Share.Num)) rfl rfl ?_
            refine ok_v (.ref 0 4 0 2) rfl rfl ?_
            refine ok_v (.ref 0 4 0 3) rfl rfl ?_
            refine ok_v (.d (.int .i64 p0.Share.Den)) rfl rfl ?_
            refine ok_v (.d (.bool (decide (p0.Share.Num ≤ p0.Share.Den)))) rfl rfl ?_
            refine ok_v (.d (.bool (decide (p0.Share.Num ≤ p0.Share.Den)))) rfl rfl ?_
            refine ok_nil ?_
            obtain rfl := someE h48
            exact ⟨_, _, _, _, _, _, _, _, rfl⟩
          · refine ok_sg rfl ?_
            refine ok_sg rfl ?_
            refine ok_sg rfl ?_
            refine ok_sg rfl ?_
            refine ok_sg rfl ?_
            refine ok_sg rfl ?_
            refine ok_sg rfl ?_
            refine ok_v (.d (.bool false)) rfl rfl ?_
            refine ok_nil ?_
            obtain rfl := someE h48
            exact ⟨_, _, _, _, _, _, _, _, rfl⟩
        · rintro _ ⟨j49, j50, j51, j52, j53, j54, j55, j56, rfl⟩
          refine ok_as rfl rfl ?_
          refine ok_nil ?_
          refine rk_ret ?_
          obtain rfl := someE h0
          exact finD (.inr rfl) (v := .d (.bool c47)) rfl rfl (.refl _)
  · refine rk_skip ?_
    refine rk_seq ?_
    refine rk_seq ?_
    refine rk_region ?_
    refine ok_v (.ref 0 4 0 0) rfl rfl ?_
    refine ok_v (.d (.int .u8 p0.Kind)) rfl rfl ?_
    refine ok_v (.d (.bool (p0.Kind != 1))) rfl rfl ?_
    obtain ⟨c57, h58, h0⟩ := bindE h0
    refine ok_cutQ 5 (fun A st => ∃ (j59 j60 j61 j62 : V), st = A [(37, .d (.bool c57)), (36, j62), (35, j61), (34, j60), (33, j59)]) ?_ ?_
    · refine ok_mvB rfl rfl h58 (fun h58 => ?_) (fun h58 => ?_)
      · refine ok_v (.ref 0 4 0 0) rfl rfl ?_
        refine ok_v (.d (.int .u8 p0.Kind)) rfl rfl ?_
        refine ok_v (.d (.bool (p0.Kind != 3))) rfl rfl ?_
        refine ok_v (.d (.bool (p0.Kind != 3))) rfl rfl ?_
        refine ok_nil ?_
        obtain rfl := someE h58
        exact ⟨_, _, _, _, rfl⟩
      · refine ok_sg rfl ?_
        refine ok_sg rfl ?_
        refine ok_sg rfl ?_
        refine ok_v (.d (.bool false)) rfl rfl ?_
        refine ok_nil ?_
        obtain rfl := someE h58
        exact ⟨_, _, _, _, rfl⟩
    · rintro _ ⟨j59, j60, j61, j62, rfl⟩
      obtain ⟨c63, h64, h0⟩ := bindE h0
      refine ok_cutQ 6 (fun A st => ∃ (j65 j66 j67 j68 j69 : V), st = A [(43, .d (.bool c63)), (42, j69), (41, j68), (40, j67), (39, j66), (38, j65)]) ?_ ?_
      · refine ok_mvB rfl rfl h64 (fun h64 => ?_) (fun h64 => ?_)
        · refine ok_sg rfl ?_
          refine ok_sg rfl ?_
          refine ok_sg rfl ?_
          refine ok_sg rfl ?_
          refine ok_v (.d (.bool true)) rfl rfl ?_
          refine ok_nil ?_
          obtain rfl := someE h64
          exact ⟨_, _, _, _, _, rfl⟩
        · refine ok_v (.ref 0 4 0 2) rfl rfl ?_
          refine ok_v (.d (.agg [.int .i64 p0.Share.Num, .int .i64 p0.Share.Den])) rfl rfl ?_
          refine ok_v (.d (.agg [.int .i64 0, .int .i64 0])) rfl rfl ?_
          refine ok_v (.d (.bool (!((p0.Share.Num == 0) && ((p0.Share.Den == 0) && true))))) rfl rfl ?_
          refine ok_v (.d (.bool (!((p0.Share.Num == 0) && ((p0.Share.Den == 0) && true))))) rfl rfl ?_
          refine ok_nil ?_
          obtain rfl := someE h64
          exact ⟨_, _, _, _, _, rfl⟩
      · rintro _ ⟨j65, j66, j67, j68, j69, rfl⟩
        refine ok_nil ?_
        refine rk_condH rfl h0 (fun _ h0 => ?_) (fun _ h0 => ?_)
        · refine rk_seq ?_
          refine rk_region ?_
          refine ok_as rfl rfl ?_
          refine ok_nil ?_
          refine rk_ret ?_
          obtain rfl := someE h0
          exact finD (.inr rfl) (v := .d (.bool false)) rfl rfl (.refl _)
        · refine rk_skip ?_
          refine rk_seq ?_
          refine rk_region ?_
          refine ok_v (.ref 0 4 0 1) rfl rfl ?_
          refine ok_v (.d (.int .i64 p0.Size)) rfl rfl ?_
          refine ok_v (.d (.bool (decide (p0.Size ≥ 0)))) rfl rfl ?_
          obtain ⟨c70, h71, h0⟩ := bindE h0
          refine ok_cutQ 5 (fun A st => ∃ (j72 j73 j74 j75 : V), st = A [(51, .d (.bool c70)), (50, j75), (49, j74), (48, j73), (47, j72)]) ?_ ?_
          · refine ok_mvB rfl rfl h71 (fun h71 => ?_) (fun h71 => ?_)
            · refine ok_v (.ref 0 4 0 1) rfl rfl ?_
              refine ok_v (.d (.int .i64 p0.Size)) rfl rfl ?_
              refine ok_v (.d (.bool (decide (p0.Size ≤ 1000000)))) rfl rfl ?_
              refine ok_v (.d (.bool (decide (p0.Size ≤ 1000000)))) rfl rfl ?_
              refine ok_nil ?_
              obtain rfl := someE h71
              exact ⟨_, _, _, _, rfl⟩
            · refine ok_sg rfl ?_
              refine ok_sg rfl ?_
              refine ok_sg rfl ?_
              refine ok_v (.d (.bool false)) rfl rfl ?_
              refine ok_nil ?_
              obtain rfl := someE h71
              exact ⟨_, _, _, _, rfl⟩
          · rintro _ ⟨j72, j73, j74, j75, rfl⟩
            obtain ⟨c82, h83, h0⟩ := bindE h0
            refine ok_cutQ 10 (fun A st => ∃ (j84 j85 j86 j87 j88 j89 j90 j91 j92 : V), st = A [(61, .d (.bool c82)), (60, j92), (59, j91), (58, j90), (57, j89), (56, j88), (55, j87), (54, j86), (53, j85), (52, j84)]) ?_ ?_
            · refine ok_mvB rfl rfl h83 (fun h83 => ?_) (fun h83 => ?_)
              · refine ok_v (.ref 0 4 0 1) rfl rfl ?_
                refine ok_v (.d (.int .i64 p0.Size)) rfl rfl ?_
                refine ok_v (.d (.bool (decide (p0.Size > 0)))) rfl rfl ?_
                obtain ⟨c93, h94, h83⟩ := bindE h83
                refine ok_cutQ 5 (fun A st => ∃ (j95 j96 j97 j98 : V), st = A [(60, .d (.bool c93)), (59, j98), (58, j97), (57, j96), (56, j95)]) ?_ ?_
                · refine ok_mvB rfl rfl h94 (fun h94 => ?_) (fun h94 => ?_)
                  · refine ok_sg rfl ?_
                    refine ok_sg rfl ?_
                    refine ok_sg rfl ?_
                    refine ok_v (.d (.bool true)) rfl rfl ?_
                    refine ok_nil ?_
                    obtain rfl := someE h94
                    exact ⟨_, _, _, _, rfl⟩
                  · refine ok_v (.ref 0 4 0 0) rfl rfl ?_
                    refine ok_v (.d (.int .u8 p0.Kind)) rfl rfl ?_
                    refine ok_v (.d (.bool (p0.Kind == 1))) rfl rfl ?_
                    refine ok_v (.d (.bool (p0.Kind == 1))) rfl rfl ?_
                    refine ok_nil ?_
                    obtain rfl := someE h94
                    exact ⟨_, _, _, _, rfl⟩
                · rintro _ ⟨j95, j96, j97, j98, rfl⟩
                  refine ok_v (.d (.bool c93)) rfl rfl ?_
                  refine ok_nil ?_
                  obtain rfl := someE h83
                  exact ⟨_, _, _, _, _, _, _, _, _, rfl⟩
              · refine ok_sg rfl ?_
                refine ok_sg rfl ?_
                refine ok_sg rfl ?_
                refine ok_sg rfl ?_
                refine ok_sg rfl ?_
                refine ok_sg rfl ?_
                refine ok_sg rfl ?_
                refine ok_sg rfl ?_
                refine ok_v (.d (.bool false)) rfl rfl ?_
                refine ok_nil ?_
                obtain rfl := someE h83
                exact ⟨_, _, _, _, _, _, _, _, _, rfl⟩
            · rintro _ ⟨j84, j85, j86, j87, j88, j89, j90, j91, j92, rfl⟩
              refine ok_as rfl rfl ?_
              refine ok_nil ?_
              refine rk_ret ?_
              obtain rfl := someE h0
              exact finD (.inr rfl) (v := .d (.bool c82)) rfl rfl (.refl _)

theorem r23_Check_ok (p0 : List api_Part) (r : Int) (h0 : r23_Check p0 = some r) : Pure Try.prog tab 14 [.sl 4 (p0.map enc_api_Part)] (.int .i64 r) := by
  unfold r23_Check at h0
  refine pure_of_run Try.func14 rfl (by kernel_rfl) (by kernel_rfl) rfl ?_
  refine rk_seq ?_
  refine rk_region ?_
  refine ok_as rfl rfl ?_
  refine ok_nil ?_
  refine rk_seq ?_
  refine rk_seq ?_
  refine rk_region ?_
  refine ok_mv rfl rfl ?_
  refine ok_ln rfl rfl rfl rfl ?_
  refine ok_v (.d (.bool (decide ((p0.length : Int) > 200)))) rfl rfl ?_
  refine ok_nil ?_
  refine rk_condH rfl h0 (fun _ h0 => ?_) (fun _ h0 => ?_)
  · refine rk_seq ?_
    refine rk_region ?_
    refine ok_as rfl rfl ?_
    refine ok_nil ?_
    refine rk_ret ?_
    obtain rfl := someE h0
    exact finD (.inr rfl) (v := .d (.int .i64 4)) rfl rfl (.refl _)
  · refine rk_skip ?_
    refine rk_seq ?_
    refine rk_seq ?_
    refine rk_region ?_
    refine ok_as rfl rfl ?_
    refine ok_nil ?_
    obtain ⟨m20, h21, h0⟩ := bindE h0
    refine rk_blockcut (fun b22 => .inl b22 = m20) (fun (b22 : Unit) => ⟨[], [], 0⟩) (by simp) ?_ ?_
    · refine rk_loopF (r23_Check_L1 p0) (fun (a19 : Int) => ⟨[(0, .d (.sl 4 (p0.map enc_api_Part))), (3, .d (.int .i64 a19))], [], 0⟩) 0 m20 h21 (wkE [] [] [] rfl ⟨⟨_, rfl, .d (.refl _)⟩, ⟨_, rfl, .d (.refl _)⟩, trivial⟩ trivial) ?_
      intro a19 y17 h18
      unfold r23_Check_L1 at h18
      refine rk_seq ?_
      refine rk_seq ?_
      refine rk_region ?_
      refine ok_mv rfl rfl ?_
      refine ok_mv rfl rfl ?_
      refine ok_ln rfl rfl rfl rfl ?_
      refine ok_v (.d (.bool (decide (a19 < (p0.length : Int))))) rfl rfl ?_
      refine ok_nil ?_
      refine rk_condH rfl h18 (fun _ h18 => ?_) (fun _ h18 => ?_)
      · refine rk_skip ?_
        refine rk_seq ?_
        refine rk_block ?_
        refine rk_seq ?_
        refine rk_region ?_
        refine ok_mv rfl rfl ?_
        refine ok_mv rfl rfl ?_
        obtain ⟨v27, h28, h18⟩ := bindE h18
        refine ok_ix (enc := enc_api_Part) h28 rfl rfl rfl rfl rfl rfl ?_
        refine ok_v (.d (.agg [.int .u8 v27.Kind, .int .i64 v27.Size, .int .i64 v27.Share.Num, .int .i64 v27.Share.Den])) rfl rfl ?_
        obtain ⟨r29, h30, h18⟩ := bindE h18
        refine ok_pc [.d (.agg [.int .u8 v27.Kind, .int .i64 v27.Size, .int .i64 v27.Share.Num, .int .i64 v27.Share.Den])] (r23_Valid_ok v27 r29 h30) rfl rfl rfl (.inl rfl) ?_
        refine ok_v (.d (.bool (!r29))) rfl rfl ?_
        refine ok_nil ?_
        refine rk_condH rfl h18 (fun _ h18 => ?_) (fun _ h18 => ?_)
        · refine rk_seq ?_
          refine rk_region ?_
          refine ok_as rfl rfl ?_
          refine ok_nil ?_
          refine rk_ret ?_
          refine ⟨_, (Option.some.inj h18).symm, fun hm => ?_⟩
          subst hm
          obtain rfl := someE h0
          exact finD (.inr rfl) (v := .d (.int .i64 8)) rfl rfl (.refl _)
        · refine rk_skip ?_
          refine rk_nil ?_
          refine blk_nor ?_
          refine rk_region ?_
          refine ok_mv rfl rfl ?_
          refine ok_v (.d (.int .i64 (w64 (a19 + 1)))) rfl rfl ?_
          refine ok_as rfl rfl ?_
          refine ok_nil ?_
          refine rk_nil ?_
          exact ⟨_, (Option.some.inj h18).symm, wkE [] [] [] rfl ⟨⟨_, rfl, .d (.refl _)⟩, ⟨_, rfl, .d (.refl _)⟩, trivial⟩ trivial⟩
      · refine rk_exit ?_
        refine ⟨_, (Option.some.inj h18).symm, fun hm => ?_⟩
        subst hm
        exact ⟨_, rfl, wkE [] [] [] rfl trivial trivial⟩
    · intro b22 hb
      subst hb
      refine rk_seq ?_
      refine rk_region ?_
      refine ok_as rfl rfl ?_
      refine ok_nil ?_
      refine rk_ret ?_
      obtain rfl := someE h0
      exact finD (.inr rfl) (v := .d (.int .i64 0)) rfl rfl (.refl _)

theorem r23_own_ok (p0 : Int) (p1 : api_Part) (r : Int) (h0 : r23_own p0 p1 = some r) : Pure Try.prog tab 29 [.int .i64 p0, .agg [.int .u8 p1.Kind, .int .i64 p1.Size, .int .i64 p1.Share.Num, .int .i64 p1.Share.Den]] (.int .i64 r) := by
  unfold r23_own at h0
  refine pure_of_run Try.func29 rfl (by kernel_rfl) (by kernel_rfl) rfl ?_
  refine rk_seq ?_
  refine rk_region ?_
  refine ok_new (.ref 0 4 0 0) (.dat 4 [[.int .u8 p1.Kind, .int .i64 p1.Size, .int .i64 p1.Share.Num, .int .i64 p1.Share.Den]]) rfl rfl ?_
  refine ok_as rfl rfl ?_
  refine ok_nil ?_
  refine rk_seq ?_
  refine rk_seq ?_
  refine rk_region ?_
  refine ok_v (.ref 0 4 0 0) rfl rfl ?_
  refine ok_v (.d (.int .u8 p1.Kind)) rfl rfl ?_
  refine ok_v (.d (.bool (p1.Kind == 2))) rfl rfl ?_
  refine ok_nil ?_
  refine rk_condH rfl h0 (fun _ h0 => ?_) (fun _ h0 => ?_)
  · refine rk_seq ?_
    refine rk_region ?_
    refine ok_mv rfl rfl ?_
    refine ok_v (.ref 0 4 0 2) rfl rfl ?_
    refine ok_v (.ref 0 4 0 2) rfl rfl ?_
    refine ok_v (.d (.int .i64 p1.Share.Num)) rfl rfl ?_
    refine ok_v (.d (.int .i64 (w64 (p0 * p1.Share.Num)))) rfl rfl ?_
    refine ok_v (.ref 0 4 0 2) rfl rfl ?_
    refine ok_v (.ref 0 4 0 3) rfl rfl ?_
    refine ok_v (.d (.int .i64 p1.Share.Den)) rfl rfl ?_
    obtain ⟨q3, h4, h0⟩ := bindE h0
    refine ok_quo h4 rfl rfl rfl ?_
    refine ok_as rfl rfl ?_
    refine ok_nil ?_
    refine rk_ret ?_
    obtain rfl := someE h0
    exact finD (.inr rfl) (v := .d (.int .i64 q3)) rfl rfl (.refl _)
  · refine rk_skip ?_
    refine rk_seq ?_
    refine rk_region ?_
    refine ok_v (.ref 0 4 0 1) rfl rfl ?_
    refine ok_v (.d (.int .i64 p1.Size)) rfl rfl ?_
    refine ok_as rfl rfl ?_
    refine ok_nil ?_
    refine rk_ret ?_
    obtain rfl := someE h0
    exact finD (.inr rfl) (v := .d (.int .i64 p1.Size)) rfl rfl (.refl _)

theorem r23_Sizes_ok (p0 : Int) (p1 : List api_Part) (r : List Int × Int) (h0 : r23_Sizes p0 p1 = some r) : Pure Try.prog tab 12 [.int .i64 p0, .sl 4 (p1.map enc_api_Part)] (.tup [.sl 1 (r.1.map (eI .i64)), .int .i64 r.2]) := by
  unfold r23_Sizes at h0
  refine pure_of_run Try.func12 rfl (by kernel_rfl) (by kernel_rfl) rfl ?_
  refine rk_seq ?_
  refine rk_region ?_
  refine ok_as rfl rfl ?_
  refine ok_as rfl rfl ?_
  refine ok_nil ?_
  refine rk_seq ?_
  refine rk_seq ?_
  refine rk_region ?_
  refine ok_mv rfl rfl ?_
  obtain ⟨r1, h2, h0⟩ := bindE h0
  refine ok_pc [.d (.sl 4 (p1.map enc_api_Part))] (r23_Check_ok p1 r1 h2) rfl rfl rfl (.inl rfl) ?_
  refine ok_v (.d (.bool (r1 != 0))) rfl rfl ?_
  refine ok_nil ?_
  refine rk_condH rfl h0 (fun _ h0 => ?_) (fun _ h0 => ?_)
  · refine rk_seq ?_
    refine rk_region ?_
    refine ok_mv rfl rfl ?_
    obtain ⟨r5, h6, h0⟩ := bindE h0
    refine ok_pc [.d (.sl 4 (p1.map enc_api_Part))] (r23_Check_ok p1 r5 h6) rfl rfl rfl (.inl rfl) ?_
    refine ok_as rfl rfl ?_
    refine ok_as rfl rfl ?_
    refine ok_nil ?_
    refine rk_ret ?_
    obtain rfl := someE h0
    exact finD (.inr rfl) (v := .d (.tup [.nilsl, .int .i64 r5])) rfl rfl (dle_tup (.cons (.nil _) (.cons (.refl _) .nil)))
  · refine rk_skip ?_
    refine rk_seq ?_
    refine rk_seq ?_
    refine rk_region ?_
    refine ok_mv rfl rfl ?_
    refine ok_v (.d (.bool (decide (p0 < 0)))) rfl rfl ?_
    obtain ⟨c7, h8, h0⟩ := bindE h0
    refine ok_cutQ 4 (fun A st => ∃ (j9 j10 j11 : V), st = A [(24, .d (.bool c7)), (23, j11), (22, j10), (21, j9)]) ?_ ?_
    · refine ok_mvB rfl rfl h8 (fun h8 => ?_) (fun h8 => ?_)
      · refine ok_sg rfl ?_
        refine ok_sg rfl ?_
        refine ok_v (.d (.bool true)) rfl rfl ?_
        refine ok_nil ?_
        obtain rfl := someE h8
        exact ⟨_, _, _, rfl⟩
      · refine ok_mv rfl rfl ?_
        refine ok_v (.d (.bool (decide (p0 > 1000000)))) rfl rfl ?_
        refine ok_v (.d (.bool (decide (p0 > 1000000)))) rfl rfl ?_
        refine ok_nil ?_
        obtain rfl := someE h8
        exact ⟨_, _, _, rfl⟩
    · rintro _ ⟨j9, j10, j11, rfl⟩
      refine ok_nil ?_
      refine rk_condH rfl h0 (fun _ h0 => ?_) (fun _ h0 => ?_)
      · refine rk_seq ?_
        refine rk_region ?_
        refine ok_as rfl rfl ?_
        refine ok_as rfl rfl ?_
        refine ok_nil ?_
        refine rk_ret ?_
        obtain rfl := someE h0
        exact finD (.inr rfl) (v := .d (.tup [.nilsl, .int .i64 2])) rfl rfl (dle_tup (.cons (.nil _) (.cons (.refl _) .nil)))
      · refine rk_skip ?_
        refine rk_seq ?_
        refine rk_region ?_
        refine ok_mv rfl rfl ?_
        refine ok_as rfl rfl ?_
        refine ok_as rfl rfl ?_
        refine ok_nil ?_
        refine rk_seq ?_
        refine rk_seq ?_
        refine rk_region ?_
        refine ok_as rfl rfl ?_
        refine ok_nil ?_
        obtain ⟨m36, h37, h0⟩ := bindE h0
        refine rk_blockcut (fun b38 => b38 = m36) (fun (b38 : Int × Int) => ⟨[(0, .d (.int .i64 p0)), (1, .d (.sl 4 (p1.map enc_api_Part))), (6, .d (.int .i64 b38.1)), (7, .d (.int .i64 b38.2))], [], 0⟩) (by simp) ?_ ?_
        · refine rk_loopF (r23_Sizes_L1 p1 p0) (fun (a35 : Int × Int × Int) => ⟨[(0, .d (.int .i64 p0)), (1, .d (.sl 4 (p1.map enc_api_Part))), (6, .d (.int .i64 a35.1)), (7, .d (.int .i64 a35.2.1)), (8, .d (.int .i64 a35.2.2))], [], 0⟩) (p0, 0, 0) m36 h37 (wkE [] [] [] rfl ⟨⟨_, rfl, .d (.refl _)⟩, ⟨_, rfl, .d (.refl _)⟩, ⟨_, rfl, .d (.refl _)⟩, ⟨_, rfl, .d (.refl _)⟩, ⟨_, rfl, .d (.refl _)⟩, trivial⟩ trivial) ?_
          intro a35 y33 h34
          unfold r23_Sizes_L1 at h34
          refine rk_seq ?_
          refine rk_seq ?_
          refine rk_region ?_
          refine ok_mv rfl rfl ?_
          refine ok_mv rfl rfl ?_
          refine ok_ln rfl rfl rfl rfl ?_
          refine ok_v (.d (.bool (decide (a35.2.2 < (p1.length : Int))))) rfl rfl ?_
          refine ok_nil ?_
          refine rk_condH rfl h34 (fun _ h34 => ?_) (fun _ h34 => ?_)
          · refine rk_skip ?_
            refine rk_seq ?_
            obtain ⟨m48, h47, h34⟩ := bindE h34
            refine rk_blockcut (fun b49 => b49 = m48) (fun (b49 : Int × Int) => ⟨[(0, .d (.int .i64 p0)), (1, .d (.sl 4 (p1.map enc_api_Part))), (6, .d (.int .i64 b49.1)), (7, .d (.int .i64 b49.2)), (8, .d (.int .i64 a35.2.2))], [], 0⟩) (by simp) ?_ ?_
            · refine rk_seq ?_
              refine rk_region ?_
              refine ok_mv rfl rfl ?_
              refine ok_mv rfl rfl ?_
              obtain ⟨v50, h51, h47⟩ := bindE h47
              refine ok_ix (enc := enc_api_Part) h51 rfl rfl rfl rfl rfl rfl ?_
              refine ok_v (.dref [.int .u8 v50.Kind, .int .i64 v50.Size, .int .i64 v50.Share.Num, .int .i64 v50.Share.Den] 0) rfl rfl ?_
              refine ok_v (.d (.int .u8 v50.Kind)) rfl rfl ?_
              refine ok_v (.d (.bool (v50.Kind == 3))) rfl rfl ?_
              refine ok_nil ?_
              refine rk_condH rfl h47 (fun _ h47 => ?_) (fun _ h47 => ?_)
              · refine rk_region ?_
                refine ok_mv rfl rfl ?_
                refine ok_mv rfl rfl ?_
                refine ok_mv rfl rfl ?_
                obtain ⟨v52, h53, h47⟩ := bindE h47
                refine ok_ix (enc := enc_api_Part) h53 rfl rfl rfl rfl rfl rfl ?_
                refine ok_v (.dref [.int .u8 v52.Kind, .int .i64 v52.Size, .int .i64 v52.Share.Num, .int .i64 v52.Share.Den] 1) rfl rfl ?_
                refine ok_v (.d (.int .i64 v52.Size)) rfl rfl ?_
                refine ok_v (.d (.int .i64 (w64 (a35.2.1 + v52.Size)))) rfl rfl ?_
                refine ok_as rfl rfl ?_
                refine ok_nil ?_
                refine rk_nil ?_
                obtain rfl := someE h47
                exact ⟨_, rfl, wkE [] [] [] rfl ⟨⟨_, rfl, .d (.refl _)⟩, ⟨_, rfl, .d (.refl _)⟩, ⟨_, rfl, .d (.refl _)⟩, ⟨_, rfl, .d (.refl _)⟩, ⟨_, rfl, .d (.refl _)⟩, trivial⟩ trivial⟩
              · refine rk_region ?_
                refine ok_mv rfl rfl ?_
                refine ok_mv rfl rfl ?_
                refine ok_mv rfl rfl ?_
                refine ok_mv rfl rfl ?_
                obtain ⟨v54, h55, h47⟩ := bindE h47
                refine ok_ix (enc := enc_api_Part) h55 rfl rfl rfl rfl rfl rfl ?_
                refine ok_v (.d (.agg [.int .u8 v54.Kind, .int .i64 v54.Size, .int .i64 v54.Share.Num, .int .i64 v54.Share.Den])) rfl rfl ?_
                obtain ⟨r56, h57, h47⟩ := bindE h47
                refine ok_pc [.d (.int .i64 p0), .d (.agg [.int .u8 v54.Kind, .int .i64 v54.Size, .int .i64 v54.Share.Num, .int .i64 v54.Share.Den])] (r23_own_ok p0 v54 r56 h57) rfl rfl rfl (.inl rfl) ?_
                refine ok_v (.d (.int .i64 (w64 (a35.1 - r56)))) rfl rfl ?_
                refine ok_as rfl rfl ?_
                refine ok_nil ?_
                refine rk_nil ?_
                obtain rfl := someE h47
                exact ⟨_, rfl, wkE [] [] [] rfl ⟨⟨_, rfl, .d (.refl _)⟩, ⟨_, rfl, .d (.refl _)⟩, ⟨_, rfl, .d (.refl _)⟩, ⟨_, rfl, .d (.refl _)⟩, ⟨_, rfl, .d (.refl _)⟩, trivial⟩ trivial⟩
            · intro b49 hb
              subst hb
              refine rk_region ?_
              refine ok_mv rfl rfl ?_
              refine ok_v (.d (.int .i64 (w64 (a35.2.2 + 1)))) rfl rfl ?_
              refine ok_as rfl rfl ?_
              refine ok_nil ?_
              refine rk_nil ?_
              exact ⟨_, (Option.some.inj h34).symm, wkE [] [] [] rfl ⟨⟨_, rfl, .d (.refl _)⟩, ⟨_, rfl, .d (.refl _)⟩, ⟨_, rfl, .d (.refl _)⟩, ⟨_, rfl, .d (.refl _)⟩, ⟨_, rfl, .d (.refl _)⟩, trivial⟩ trivial⟩
          · refine rk_exit ?_
            refine ⟨_, (Option.some.inj h34).symm, fun hm => ?_⟩
            subst hm
            exact ⟨_, rfl, wkE [] [] [] rfl ⟨⟨_, rfl, .d (.refl _)⟩, ⟨_, rfl, .d (.refl _)⟩, ⟨_, rfl, .d (.refl _)⟩, ⟨_, rfl, .d (.refl _)⟩, trivial⟩ trivial⟩
        · intro b38 hb
          subst hb
          refine rk_seq ?_
          refine rk_seq ?_
          refine rk_region ?_
          refine ok_mv rfl rfl ?_
          refine ok_v (.d (.bool (decide (b38.1 < 0)))) rfl rfl ?_
          refine ok_nil ?_
          refine rk_condH rfl h0 (fun _ h0 => ?_) (fun _ h0 => ?_)
          · refine rk_seq ?_
            refine rk_region ?_
            refine ok_as rfl rfl ?_
            refine ok_as rfl rfl ?_
            refine ok_nil ?_
            refine rk_ret ?_
            obtain rfl := someE h0
            exact finD (.inr rfl) (v := .d (.tup [.nilsl, .int .i64 16])) rfl rfl (dle_tup (.cons (.nil _) (.cons (.refl _) .nil)))
          · refine rk_skip ?_
            refine rk_seq ?_
            refine rk_seq ?_
            refine rk_region ?_
            refine ok_mv rfl rfl ?_
            refine ok_v (.d (.bool (decide (b38.1 > 0)))) rfl rfl ?_
            obtain ⟨c58, h59, h0⟩ := bindE h0
            refine ok_cutQ 4 (fun A st => ∃ (j60 j61 j62 : V), st = A [(60, .d (.bool c58)), (59, j62), (58, j61), (57, j60)]) ?_ ?_
            · refine ok_mvB rfl rfl h59 (fun h59 => ?_) (fun h59 => ?_)
              · refine ok_mv rfl rfl ?_
                refine ok_v (.d (.bool (b38.2 == 0))) rfl rfl ?_
                refine ok_v (.d (.bool (b38.2 == 0))) rfl rfl ?_
                refine ok_nil ?_
                obtain rfl := someE h59
                exact ⟨_, _, _, rfl⟩
              · refine ok_sg rfl ?_
                refine ok_sg rfl ?_
                refine ok_v (.d (.bool false)) rfl rfl ?_
                refine ok_nil ?_
                obtain rfl := someE h59
                exact ⟨_, _, _, rfl⟩
            · rintro _ ⟨j60, j61, j62, rfl⟩
              refine ok_nil ?_
              refine rk_condH rfl h0 (fun _ h0 => ?_) (fun _ h0 => ?_)
              · refine rk_seq ?_
                refine rk_region ?_
                refine ok_as rfl rfl ?_
                refine ok_as rfl rfl ?_
                refine ok_nil ?_
                refine rk_ret ?_
                obtain rfl := someE h0
                exact finD (.inr rfl) (v := .d (.tup [.nilsl, .int .i64 28])) rfl rfl (dle_tup (.cons (.nil _) (.cons (.refl _) .nil)))
              · refine rk_skip ?_
                refine rk_seq ?_
                refine rk_region ?_
                refine ok_as rfl rfl ?_
                refine ok_nil ?_
                refine rk_seq ?_
                refine rk_region ?_
                refine ok_as rfl rfl ?_
                refine ok_nil ?_
                refine rk_seq ?_
                refine rk_seq ?_
                refine rk_region ?_
                refine ok_as rfl rfl ?_
                refine ok_nil ?_
                obtain ⟨m115, h116, h0⟩ := bindE h0
                refine rk_blockcut (fun b117 => b117 = m115) (fun (b117 : List Int) => ⟨[(9, .hs 0 1 0 b117.length)], [(0, .dat 1 (b117.map (eI .i64)))], 1⟩) (by simp) ?_ ?_
                · refine rk_loopF (r23_Sizes_L2 p1 p0 b38) (fun (a114 : Int × Int × List Int) => ⟨[(0, .d (.int .i64 p0)), (1, .d (.sl 4 (p1.map enc_api_Part))), (6, .d (.int .i64 b38.1)), (7, .d (.int .i64 b38.2)), (9, .hs 0 1 0 a114.2.2.length), (10, .d (.int .i64 a114.1)), (11, .d (.int .i64 a114.2.1))], [(0, .dat 1 (a114.2.2.map (eI .i64)))], 1⟩) (0, 0, []) m115 h116 (wkE [] [] [0] rfl ⟨⟨_, rfl, .d (.refl _)⟩, ⟨_, rfl, .d (.refl _)⟩, ⟨_, rfl, .d (.refl _)⟩, ⟨_, rfl, .d (.refl _)⟩, ⟨_, rfl, .nil (by decide) (ltd rfl)⟩, ⟨_, rfl, .d (.refl _)⟩, ⟨_, rfl, .d (.refl _)⟩, trivial⟩ ⟨⟨ltd rfl, .inl ⟨by decide, _, by decide, rfl⟩⟩, trivial⟩) ?_
                  intro a114 y112 h113
                  unfold r23_Sizes_L2 at h113
                  refine rk_seq ?_
                  refine rk_seq ?_
                  refine rk_region ?_
                  refine ok_mv rfl rfl ?_
                  refine ok_mv rfl rfl ?_
                  refine ok_ln rfl rfl rfl rfl ?_
                  refine ok_v (.d (.bool (decide (a114.2.1 < (p1.length : Int))))) rfl rfl ?_
                  refine ok_nil ?_
                  refine rk_condH rfl h113 (fun _ h113 => ?_) (fun _ h113 => ?_)
                  · refine rk_skip ?_
                    refine rk_seq ?_
                    obtain ⟨m141, h140, h113⟩ := bindE h113
                    refine rk_blockcut (fun b142 => b142 = m141) (fun (b142 : Int × List Int) => ⟨[(0, .d (.int .i64 p0)), (1, .d (.sl 4 (p1.map enc_api_Part))), (6, .d (.int .i64 b38.1)), (7, .d (.int .i64 b38.2)), (9, .hs 0 1 0 b142.2.length), (10, .d (.int .i64 b142.1)), (11, .d (.int .i64 a114.2.1))], [(0, .dat 1 (b142.2.map (eI .i64)))], 1⟩) (by simp) ?_ ?_
                    · refine rk_seq ?_
                      refine rk_seq ?_
                      refine rk_region ?_
                      refine ok_mv rfl rfl ?_
                      refine ok_mv rfl rfl ?_
                      obtain ⟨v143, h144, h140⟩ := bindE h140
                      refine ok_ix (enc := enc_api_Part) h144 rfl rfl rfl rfl rfl rfl ?_
                      refine ok_v (.dref [.int .u8 v143.Kind, .int .i64 v143.Size, .int .i64 v143.Share.Num, .int .i64 v143.Share.Den] 0) rfl rfl ?_
                      refine ok_v (.d (.int .u8 v143.Kind)) rfl rfl ?_
                      refine ok_v (.d (.bool (v143.Kind != 3))) rfl rfl ?_
                      refine ok_nil ?_
                      refine rk_condH rfl h140 (fun _ h140 => ?_) (fun _ h140 => ?_)
                      · refine rk_seq ?_
                        refine rk_region ?_
                        refine ok_mv rfl rfl ?_
                        refine ok_mv rfl rfl ?_
                        refine ok_mv rfl rfl ?_
                        refine ok_mv rfl rfl ?_
                        obtain ⟨v151, h152, h140⟩ := bindE h140
                        refine ok_ix (enc := enc_api_Part) h152 rfl rfl rfl rfl rfl rfl ?_
                        refine ok_v (.d (.agg [.int .u8 v151.Kind, .int .i64 v151.Size, .int .i64 v151.Share.Num, .int .i64 v151.Share.Den])) rfl rfl ?_
                        obtain ⟨r153, h154, h140⟩ := bindE h140
                        refine ok_pc [.d (.int .i64 p0), .d (.agg [.int .u8 v151.Kind, .int .i64 v151.Size, .int .i64 v151.Share.Num, .int .i64 v151.Share.Den])] (r23_own_ok p0 v151 r153 h154) rfl rfl rfl (.inl rfl) ?_
                        refine ok_new (.hs 1 1 0 [r153].length) (.dat 1 ([r153].map (eI .i64))) rfl rfl ?_
                        obtain ⟨z155, h156, h140⟩ := bindE h140
                        refine ok_ap (xs := a114.2.2) (ys := [r153]) (enc := (eI .i64)) (.hs 1 1 0 [r153].length) h156 rfl rfl rfl rfl rfl rfl rfl (conts_hs rfl rfl) rfl rfl rfl rfl ?_
                        refine ok_as rfl rfl ?_
                        refine ok_nil ?_
                        refine rk_exit ?_
                        obtain rfl := someE h140
                        exact ⟨_, rfl, wkE [(0, 2)] [] [] rfl ⟨⟨_, rfl, .d (.refl _)⟩, ⟨_, rfl, .d (.refl _)⟩, ⟨_, rfl, .d (.refl _)⟩, ⟨_, rfl, .d (.refl _)⟩, ⟨_, rfl, .hs rfl (by decide) (ltd rfl)⟩, ⟨_, rfl, .d (.refl _)⟩, ⟨_, rfl, .d (.refl _)⟩, trivial⟩ ⟨⟨ltd rfl, .inr ⟨by decide, _, rfl, .dat _ _⟩⟩, trivial⟩⟩
                      · refine rk_skip ?_
                        refine rk_seq ?_
                        refine rk_region ?_
                        refine ok_mv rfl rfl ?_
                        refine ok_mv rfl rfl ?_
                        refine ok_v (.d (.int .i64 (w64 (b38.1 * a114.1)))) rfl rfl ?_
                        refine ok_mv rfl rfl ?_
                        obtain ⟨q157, h158, h140⟩ := bindE h140
                        refine ok_quo h158 rfl rfl rfl ?_
                        refine ok_as rfl rfl ?_
                        refine ok_nil ?_
                        refine rk_seq ?_
                        refine rk_region ?_
                        refine ok_mv rfl rfl ?_
                        refine ok_mv rfl rfl ?_
                        refine ok_mv rfl rfl ?_
                        obtain ⟨v159, h160, h140⟩ := bindE h140
                        refine ok_ix (enc := enc_api_Part) h160 rfl rfl rfl rfl rfl rfl ?_
                        refine ok_v (.dref [.int .u8 v159.Kind, .int .i64 v159.Size, .int .i64 v159.Share.Num, .int .i64 v159.Share.Den] 1) rfl rfl ?_
                        refine ok_v (.d (.int .i64 v159.Size)) rfl rfl ?_
                        refine ok_v (.d (.int .i64 (w64 (a114.1 + v159.Size)))) rfl rfl ?_
                        refine ok_as rfl rfl ?_
                        refine ok_nil ?_
                        refine rk_seq ?_
                        refine rk_region ?_
                        refine ok_mv rfl rfl ?_
                        refine ok_mv rfl rfl ?_
                        refine ok_v (.d (.int .i64 (w64 (b38.1 * (w64 (a114.1 + v159.Size)))))) rfl rfl ?_
                        refine ok_mv rfl rfl ?_
                        obtain ⟨q161, h162, h140⟩ := bindE h140
                        refine ok_quo h162 rfl rfl rfl ?_
                        refine ok_as rfl rfl ?_
                        refine ok_nil ?_
                        refine rk_region ?_
                        refine ok_mv rfl rfl ?_
                        refine ok_mv rfl rfl ?_
                        refine ok_mv rfl rfl ?_
                        refine ok_v (.d (.int .i64 (w64 (q161 - q157)))) rfl rfl ?_
                        refine ok_new (.hs 1 1 0 [w64 (q161 - q157)].length) (.dat 1 ([w64 (q161 - q157)].map (eI .i64))) rfl rfl ?_
                        obtain ⟨z163, h164, h140⟩ := bindE h140
                        refine ok_ap (xs := a114.2.2) (ys := [w64 (q161 - q157)]) (enc := (eI .i64)) (.hs 1 1 0 [w64 (q161 - q157)].length) h164 rfl rfl rfl rfl rfl rfl rfl (conts_hs rfl rfl) rfl rfl rfl rfl ?_
                        refine ok_as rfl rfl ?_
                        refine ok_nil ?_
                        refine rk_nil ?_
                        obtain rfl := someE h140
                        exact ⟨_, rfl, wkE [(0, 2)] [] [] rfl ⟨⟨_, rfl, .d (.refl _)⟩, ⟨_, rfl, .d (.refl _)⟩, ⟨_, rfl, .d (.refl _)⟩, ⟨_, rfl, .d (.refl _)⟩, ⟨_, rfl, .hs rfl (by decide) (ltd rfl)⟩, ⟨_, rfl, .d (.refl _)⟩, ⟨_, rfl, .d (.refl _)⟩, trivial⟩ ⟨⟨ltd rfl, .inr ⟨by decide, _, rfl, .dat _ _⟩⟩, trivial⟩⟩
                    · intro b142 hb
                      subst hb
                      refine rk_region ?_
                      refine ok_mv rfl rfl ?_
                      refine ok_v (.d (.int .i64 (w64 (a114.2.1 + 1)))) rfl rfl ?_
                      refine ok_as rfl rfl ?_
                      refine ok_nil ?_
                      refine rk_nil ?_
                      exact ⟨_, (Option.some.inj h113).symm, wkE [(0, 0)] [] [] rfl ⟨⟨_, rfl, .d (.refl _)⟩, ⟨_, rfl, .d (.refl _)⟩, ⟨_, rfl, .d (.refl _)⟩, ⟨_, rfl, .d (.refl _)⟩, ⟨_, rfl, .hs rfl (by decide) (ltd rfl)⟩, ⟨_, rfl, .d (.refl _)⟩, ⟨_, rfl, .d (.refl _)⟩, trivial⟩ ⟨⟨ltd rfl, .inr ⟨by decide, _, rfl, .dat _ _⟩⟩, trivial⟩⟩
                  · refine rk_exit ?_
                    refine ⟨_, (Option.some.inj h113).symm, fun hm => ?_⟩
                    subst hm
                    exact ⟨_, rfl, wkE [(0, 0)] [] [] rfl ⟨⟨_, rfl, .hs rfl (by decide) (ltd rfl)⟩, trivial⟩ ⟨⟨ltd rfl, .inr ⟨by decide, _, rfl, .dat _ _⟩⟩, trivial⟩⟩
                · intro b117 hb
                  subst hb
                  refine rk_seq ?_
                  refine rk_region ?_
                  refine ok_mv rfl rfl ?_
                  refine ok_as rfl rfl ?_
                  refine ok_as rfl rfl ?_
                  refine ok_nil ?_
                  refine rk_ret ?_
                  obtain rfl := someE h0
                  exact finD (.inr rfl) (v := .tup [.hs 0 1 0 b117.length, .d (.int .i64 0)]) rfl (td_tup (mm_cons (td_hs rfl rfl) (mm_cons rfl rfl))) (.refl _)

theorem r23_Same_ok (p0 : List Int) (p1 : List Int) (r : Bool) (h0 : r23_Same p0 p1 = some r) : Pure Try.prog tab 15 [.sl 1 (p0.map (eI .i64)), .sl 1 (p1.map (eI .i64))] (.bool r) := by
  unfold r23_Same at h0
  refine pure_of_run Try.func15 rfl (by kernel_rfl) (by kernel_rfl) rfl ?_
  refine rk_seq ?_
  refine rk_region ?_
  refine ok_as rfl rfl ?_
  refine ok_nil ?_
  refine rk_seq ?_
  refine rk_seq ?_
  refine rk_region ?_
  refine ok_mv rfl rfl ?_
  refine ok_ln rfl rfl rfl rfl ?_
  refine ok_mv rfl rfl ?_
  refine ok_ln rfl rfl rfl rfl ?_
  refine ok_v (.d (.bool ((p0.length : Int) != (p1.length : Int)))) rfl rfl ?_
  refine ok_nil ?_
  refine rk_condH rfl h0 (fun _ h0 => ?_) (fun _ h0 => ?_)
  · refine rk_seq ?_
    refine rk_region ?_
    refine ok_as rfl rfl ?_
    refine ok_nil ?_
    refine rk_ret ?_
    obtain rfl := someE h0
    exact finD (.inr rfl) (v := .d (.bool false)) rfl rfl (.refl _)
  · refine rk_skip ?_
    refine rk_seq ?_
    refine rk_seq ?_
    refine rk_region ?_
    refine ok_as rfl rfl ?_
    refine ok_nil ?_
    obtain ⟨m20, h21, h0⟩ := bindE h0
    refine rk_blockcut (fun b22 => .inl b22 = m20) (fun (b22 : Unit) => ⟨[], [], 0⟩) (by simp) ?_ ?_
    · refine rk_loopF (r23_Same_L1 p0 p1) (fun (a19 : Int) => ⟨[(0, .d (.sl 1 (p0.map (eI .i64)))), (1, .d (.sl 1 (p1.map (eI .i64)))), (5, .d (.int .i64 a19))], [], 0⟩) 0 m20 h21 (wkE [] [] [] rfl ⟨⟨_, rfl, .d (.refl _)⟩, ⟨_, rfl, .d (.refl _)⟩, ⟨_, rfl, .d (.refl _)⟩, trivial⟩ trivial) ?_
      intro a19 y17 h18
      unfold r23_Same_L1 at h18
      refine rk_seq ?_
      refine rk_seq ?_
      refine rk_region ?_
      refine ok_mv rfl rfl ?_
      refine ok_mv rfl rfl ?_
      refine ok_ln rfl rfl rfl rfl ?_
      refine ok_v (.d (.bool (decide (a19 < (p0.length : Int))))) rfl rfl ?_
      refine ok_nil ?_
      refine rk_condH rfl h18 (fun _ h18 => ?_) (fun _ h18 => ?_)
      · refine rk_skip ?_
        refine rk_seq ?_
        refine rk_block ?_
        refine rk_seq ?_
        refine rk_regionD [(some [], []), (some [], []), (some [], []), (some [], []), (some [], []), (some [], []), (some [], []), (some [], []), (some [], [])] (by kernel_rfl) ?_
        refine ok_mv rfl rfl ?_
        refine ok_mv rfl rfl ?_
        obtain ⟨v27, h28, h18⟩ := bindE h18
        refine ok_ix (enc := (eI .i64)) h28 rfl rfl rfl rfl rfl rfl ?_
        refine ok_v (.d (.int .i64 v27)) rfl rfl ?_
        refine ok_mv rfl rfl ?_
        refine ok_mv rfl rfl ?_
        obtain ⟨v29, h30, h18⟩ := bindE h18
        refine ok_ix (enc := (eI .i64)) h30 rfl rfl rfl rfl rfl rfl ?_
        refine ok_v (.d (.int .i64 v29)) rfl rfl ?_
        refine ok_v (.d (.bool (v27 != v29))) rfl rfl ?_
        refine ok_nil ?_
        refine rk_condH rfl h18 (fun _ h18 => ?_) (fun _ h18 => ?_)
        · refine rk_seq ?_
          refine rk_region ?_
          refine ok_as rfl rfl ?_
          refine ok_nil ?_
          refine rk_ret ?_
          refine ⟨_, (Option.some.inj h18).symm, fun hm => ?_⟩
          subst hm
          obtain rfl := someE h0
          exact finD (.inr rfl) (v := .d (.bool false)) rfl rfl (.refl _)
        · refine rk_skip ?_
          refine rk_nil ?_
          refine blk_nor ?_
          refine rk_region ?_
          refine ok_mv rfl rfl ?_
          refine ok_v (.d (.int .i64 (w64 (a19 + 1)))) rfl rfl ?_
          refine ok_as rfl rfl ?_
          refine ok_nil ?_
          refine rk_nil ?_
          exact ⟨_, (Option.some.inj h18).symm, wkE [] [] [] rfl ⟨⟨_, rfl, .d (.refl _)⟩, ⟨_, rfl, .d (.refl _)⟩, ⟨_, rfl, .d (.refl _)⟩, trivial⟩ trivial⟩
      · refine rk_exit ?_
        refine ⟨_, (Option.some.inj h18).symm, fun hm => ?_⟩
        subst hm
        exact ⟨_, rfl, wkE [] [] [] rfl trivial trivial⟩
    · intro b22 hb
      subst hb
      refine rk_seq ?_
      refine rk_region ?_
      refine ok_as rfl rfl ?_
      refine ok_nil ?_
      refine rk_ret ?_
      obtain rfl := someE h0
      exact finD (.inr rfl) (v := .d (.bool true)) rfl rfl (.refl _)

theorem l23_SplitSizes_ok (p0 : Int) (p1 : List api_Part) (r : Bool) (h0 : l23_SplitSizes p0 p1 = some r) : Pure Try.prog tab 3 [.int .i64 p0, .sl 4 (p1.map enc_api_Part)] (.bool r) := by
  unfold l23_SplitSizes at h0
  refine pure_of_run Try.func3 rfl (by kernel_rfl) (by kernel_rfl) rfl ?_
  refine rk_seq ?_
  refine rk_region ?_
  refine ok_as rfl rfl ?_
  refine ok_nil ?_
  refine rk_seq ?_
  refine rk_seq ?_
  refine rk_region ?_
  refine ok_mv rfl rfl ?_
  refine ok_ln rfl rfl rfl rfl ?_
  refine ok_v (.d (.bool (decide ((p1.length : Int) > 250)))) rfl rfl ?_
  refine ok_nil ?_
  refine rk_condH rfl h0 (fun _ h0 => ?_) (fun _ h0 => ?_)
  · refine rk_seq ?_
    refine rk_region ?_
    refine ok_as rfl rfl ?_
    refine ok_nil ?_
    refine rk_ret ?_
    obtain rfl := someE h0
    exact finD (.inr rfl) (v := .d (.bool true)) rfl rfl (.refl _)
  · refine rk_skip ?_
    refine rk_seq ?_
    refine rk_region ?_
    refine ok_mv rfl rfl ?_
    refine ok_mv rfl rfl ?_
    obtain ⟨r1, h2, h0⟩ := bindE h0
    refine ok_pc [.d (.int .i64 p0), .d (.sl 4 (p1.map enc_api_Part))] (split_Sizes_ok p0 p1 r1 h2) rfl rfl rfl (.inl rfl) ?_
    refine ok_mv rfl rfl ?_
    refine ok_v (.d (.sl 1 (r1.1.map (eI .i64)))) rfl rfl ?_
    refine ok_v (.d (.int .i64 r1.2)) rfl rfl ?_
    refine ok_as rfl rfl ?_
    refine ok_as rfl rfl ?_
    refine ok_nil ?_
    refine rk_seq ?_
    refine rk_region ?_
    refine ok_mv rfl rfl ?_
    refine ok_mv rfl rfl ?_
    obtain ⟨r3, h4, h0⟩ := bindE h0
    refine ok_pc [.d (.int .i64 p0), .d (.sl 4 (p1.map enc_api_Part))] (r23_Sizes_ok p0 p1 r3 h4) rfl rfl rfl (.inl rfl) ?_
    refine ok_mv rfl rfl ?_
    refine ok_v (.d (.sl 1 (r3.1.map (eI .i64)))) rfl rfl ?_
    refine ok_v (.d (.int .i64 r3.2)) rfl rfl ?_
    refine ok_as rfl rfl ?_
    refine ok_as rfl rfl ?_
    refine ok_nil ?_
    refine rk_seq ?_
    refine rk_region ?_
    refine ok_mv rfl rfl ?_
    obtain ⟨r5, h6, h0⟩ := bindE h0
    refine ok_pc [.d (.sl 4 (p1.map enc_api_Part))] (split_Check_ok p1 r5 h6) rfl rfl rfl (.inl rfl) ?_
    refine ok_mv rfl rfl ?_
    obtain ⟨r7, h8, h0⟩ := bindE h0
    refine ok_pc [.d (.sl 4 (p1.map enc_api_Part))] (r23_Check_ok p1 r7 h8) rfl rfl rfl (.inl rfl) ?_
    refine ok_v (.d (.bool (r5 == r7))) rfl rfl ?_
    obtain ⟨c11, h12, h0⟩ := bindE h0
    refine ok_cutQ 5 (fun A st => ∃ (j13 j14 j15 j16 : V), st = A [(33, .d (.bool c11)), (32, j16), (31, j15), (30, j14), (29, j13)]) ?_ ?_
    · refine ok_mvB rfl rfl h12 (fun h12 => ?_) (fun h12 => ?_)
      · refine ok_mv rfl rfl ?_
        refine ok_mv rfl rfl ?_
        obtain ⟨r17, h18, h12⟩ := bindE h12
        refine ok_pc [.d (.sl 1 (r1.1.map (eI .i64))), .d (.sl 1 (r3.1.map (eI .i64)))] (r23_Same_ok r1.1 r3.1 r17 h18) rfl rfl rfl (.inl rfl) ?_
        refine ok_v (.d (.bool r17)) rfl rfl ?_
        refine ok_nil ?_
        obtain rfl := someE h12
        exact ⟨_, _, _, _, rfl⟩
      · refine ok_sg rfl ?_
        refine ok_sg rfl ?_
        refine ok_sg rfl ?_
        refine ok_v (.d (.bool false)) rfl rfl ?_
        refine ok_nil ?_
        obtain rfl := someE h12
        exact ⟨_, _, _, _, rfl⟩
    · rintro _ ⟨j13, j14, j15, j16, rfl⟩
      obtain ⟨c19, h20, h0⟩ := bindE h0
      refine ok_cutQ 5 (fun A st => ∃ (j21 j22 j23 j24 : V), st = A [(38, .d (.bool c19)), (37, j24), (36, j23), (35, j22), (34, j21)]) ?_ ?_
      · refine ok_mvB rfl rfl h20 (fun h20 => ?_) (fun h20 => ?_)
        · refine ok_mv rfl rfl ?_
          refine ok_mv rfl rfl ?_
          refine ok_v (.d (.bool (r1.2 == r3.2))) rfl rfl ?_
          refine ok_v (.d (.bool (r1.2 == r3.2))) rfl rfl ?_
          refine ok_nil ?_
          obtain rfl := someE h20
          exact ⟨_, _, _, _, rfl⟩
        · refine ok_sg rfl ?_
          refine ok_sg rfl ?_
          refine ok_sg rfl ?_
          refine ok_v (.d (.bool false)) rfl rfl ?_
          refine ok_nil ?_
          obtain rfl := someE h20
          exact ⟨_, _, _, _, rfl⟩
      · rintro _ ⟨j21, j22, j23, j24, rfl⟩
        refine ok_as rfl rfl ?_
        refine ok_nil ?_
        refine rk_ret ?_
        obtain rfl := someE h0
        exact finD (.inr rfl) (v := .d (.bool c19)) rfl rfl (.refl _)
end Go.Proofs.Ytbfdjpffambpfaa
