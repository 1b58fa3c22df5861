/- THE WALKS, lifted by program. -/
import Derived.Test.YtcpogfjlehoabaaPspan2
import Derived.Test.YtcpogfjlehoabaaTabspan
namespace Go.Proofs.Ytcpogfjlehoabaa
open Go Go.Am Go.Sh
theorem slices_IndexFunc_api_Span_api_Span_ok (p0 : List api_Span) (p1 : api_Span → Option Bool) (p1F : FuncId) (p1C : List DV) (p1Ok : ∀ (x0 : api_Span) (r : Bool), p1 x0 = some r → Pure Try.prog tab p1F ([.agg [.int .i64 x0.Lo, .int .i64 x0.Hi]] ++ p1C) (.bool r)) (r : Int) (h0 : slices_IndexFunc_api_Span_api_Span p0 p1 = some r) : Pure Try.prog tab 49 [.sl 2 (p0.map enc_api_Span), .fn p1F p1C] (.int .i64 r) := by
  unfold slices_IndexFunc_api_Span_api_Span at h0
  refine pure_of_run Try.func49 rfl (by kernel_rfl) (by kernel_rfl) rfl ?_
  refine rk_seq ?_
  refine rk_region ?_
  refine ok_as rfl rfl ?_
  refine ok_nil ?_
  refine rk_seq ?_
  refine rk_seq ?_
  refine rk_region ?_
  refine ok_mv rfl rfl ?_
  refine ok_ln rfl rfl rfl rfl ?_
  refine ok_mv rfl rfl ?_
  refine ok_nil ?_
  obtain ⟨m20, h21, h0⟩ := bindE h0
  refine rk_blockcut (fun b22 => .inl b22 = m20) (fun (b22 : Unit) => ⟨[], [], 0⟩) (by simp) ?_ ?_
  · refine rk_loopF (slices_IndexFunc_api_Span_api_Span_L1 p0 p1) (fun (a19 : Int) => ⟨[(0, .d (.sl 2 (p0.map enc_api_Span))), (1, .d (.fn p1F p1C)), (7, .d (.int .i64 (p0.length : Int))), (8, .d (.int .i64 a19))], [], 0⟩) 0 m20 h21 (wkE [] [] [] rfl ⟨⟨_, rfl, .d (.refl _)⟩, ⟨_, rfl, .d (.refl _)⟩, ⟨_, rfl, .d (.refl _)⟩, ⟨_, rfl, .d (.refl _)⟩, trivial⟩ trivial) ?_
    intro a19 y17 h18
    unfold slices_IndexFunc_api_Span_api_Span_L1 at h18
    refine rk_seq ?_
    refine rk_region ?_
    refine ok_v (.d (.bool (decide (a19 < (p0.length : Int))))) rfl rfl ?_
    refine ok_nil ?_
    refine rk_seq ?_
    refine rk_condH rfl h18 (fun _ h18 => ?_) (fun _ h18 => ?_)
    · refine rk_skip ?_
      refine rk_seq ?_
      refine rk_block ?_
      refine rk_seq ?_
      refine rk_region ?_
      refine ok_mv rfl rfl ?_
      refine ok_as rfl rfl ?_
      refine ok_nil ?_
      refine rk_seq ?_
      refine rk_region ?_
      refine ok_mv rfl rfl ?_
      refine ok_mv rfl rfl ?_
      refine ok_mv rfl rfl ?_
      obtain ⟨v27, h28, h18⟩ := bindE h18
      refine ok_ix (enc := enc_api_Span) h28 rfl rfl rfl rfl rfl rfl ?_
      refine ok_v (.d (.agg [.int .i64 v27.Lo, .int .i64 v27.Hi])) rfl rfl ?_
      obtain ⟨r29, h30, h18⟩ := bindE h18
      refine ok_pf [.d (.agg [.int .i64 v27.Lo, .int .i64 v27.Hi])] (p1Ok v27 r29 h30) rfl rfl rfl (.inl rfl) ?_
      refine ok_nil ?_
      refine rk_condH rfl h18 (fun _ h18 => ?_) (fun _ h18 => ?_)
      · refine rk_seq ?_
        refine rk_region ?_
        refine ok_mv rfl rfl ?_
        refine ok_as rfl rfl ?_
        refine ok_nil ?_
        refine rk_ret ?_
        refine ⟨_, (Option.some.inj h18).symm, fun hm => ?_⟩
        subst hm
        obtain rfl := someE h0
        exact finD (.inr rfl) (v := .d (.int .i64 a19)) rfl rfl (.refl _)
      · refine rk_skip ?_
        refine rk_nil ?_
        refine blk_nor ?_
        refine rk_region ?_
        refine ok_v (.d (.int .i64 (w64 (a19 + 1)))) rfl rfl ?_
        refine ok_mv rfl rfl ?_
        refine ok_nil ?_
        refine rk_nil ?_
        exact ⟨_, (Option.some.inj h18).symm, wkE [] [] [] rfl ⟨⟨_, rfl, .d (.refl _)⟩, ⟨_, rfl, .d (.refl _)⟩, ⟨_, rfl, .d (.refl _)⟩, ⟨_, rfl, .d (.refl _)⟩, trivial⟩ trivial⟩
    · refine rk_exit ?_
      refine ⟨_, (Option.some.inj h18).symm, fun hm => ?_⟩
      subst hm
      exact ⟨_, rfl, wkE [] [] [] rfl trivial trivial⟩
  · intro b22 hb
    subst hb
    refine rk_seq ?_
    refine rk_region ?_
    refine ok_as rfl rfl ?_
    refine ok_nil ?_
    refine rk_ret ?_
    obtain rfl := someE h0
    exact finD (.inr rfl) (v := .d (.int .i64 (-1))) rfl rfl (.refl _)

theorem slices_ContainsFunc_api_Span_api_Span_ok (p0 : List api_Span) (p1 : api_Span → Option Bool) (p1F : FuncId) (p1C : List DV) (p1Ok : ∀ (x0 : api_Span) (r : Bool), p1 x0 = some r → Pure Try.prog tab p1F ([.agg [.int .i64 x0.Lo, .int .i64 x0.Hi]] ++ p1C) (.bool r)) (r : Bool) (h0 : slices_ContainsFunc_api_Span_api_Span p0 p1 = some r) : Pure Try.prog tab 41 [.sl 2 (p0.map enc_api_Span), .fn p1F p1C] (.bool r) := by
  unfold slices_ContainsFunc_api_Span_api_Span at h0
  refine pure_of_run Try.func41 rfl (by kernel_rfl) (by kernel_rfl) rfl ?_
  refine rk_seq ?_
  refine rk_region ?_
  refine ok_as rfl rfl ?_
  refine ok_nil ?_
  refine rk_seq ?_
  refine rk_region ?_
  refine ok_mv rfl rfl ?_
  refine ok_mv rfl rfl ?_
  obtain ⟨r1, h2, h0⟩ := bindE h0
  refine ok_pc [.d (.sl 2 (p0.map enc_api_Span)), .d (.fn p1F p1C)] (slices_IndexFunc_api_Span_api_Span_ok p0 p1 p1F p1C p1Ok r1 h2) rfl rfl rfl (.inl rfl) ?_
  refine ok_v (.d (.bool (decide (r1 ≥ 0)))) rfl rfl ?_
  refine ok_as rfl rfl ?_
  refine ok_nil ?_
  refine rk_ret ?_
  obtain rfl := someE h0
  exact finD (.inr rfl) (v := .d (.bool (decide (r1 ≥ 0)))) rfl rfl (.refl _)

theorem span_valid_ok (p0 : api_Span) (r : Bool) (h0 : span_valid p0 = some r) : Pure Try.prog tab 35 [.agg [.int .i64 p0.Lo, .int .i64 p0.Hi]] (.bool r) := by
  unfold span_valid at h0
  refine pure_of_run Try.func35 rfl (by kernel_rfl) (by kernel_rfl) rfl ?_
  refine rk_seq ?_
  refine rk_region ?_
  refine ok_new (.ref 0 2 0 0) (.dat 2 [[.int .i64 p0.Lo, .int .i64 p0.Hi]]) rfl rfl ?_
  refine ok_as rfl rfl ?_
  refine ok_nil ?_
  refine rk_seq ?_
  refine rk_region ?_
  refine ok_v (.ref 0 2 0 0) rfl rfl ?_
  refine ok_v (.d (.int .i64 p0.Lo)) rfl rfl ?_
  refine ok_v (.ref 0 2 0 1) rfl rfl ?_
  refine ok_v (.d (.int .i64 p0.Hi)) rfl rfl ?_
  refine ok_v (.d (.bool (decide (p0.Lo < p0.Hi)))) rfl rfl ?_
  obtain ⟨c1, h2, h0⟩ := bindE h0
  refine ok_cutQ 5 (fun A st => ∃ (j3 j4 j5 j6 : V), st = A [(12, .d (.bool c1)), (11, j6), (10, j5), (9, j4), (8, j3)]) ?_ ?_
  · refine ok_mvB rfl rfl h2 (fun h2 => ?_) (fun h2 => ?_)
    · refine ok_v (.ref 0 2 0 0) rfl rfl ?_
      refine ok_v (.d (.int .i64 p0.Lo)) rfl rfl ?_
      refine ok_v (.d (.bool (decide (p0.Lo ≥ (-1000000))))) rfl rfl ?_
      refine ok_v (.d (.bool (decide (p0.Lo ≥ (-1000000))))) rfl rfl ?_
      refine ok_nil ?_
      obtain rfl := someE h2
      exact ⟨_, _, _, _, rfl⟩
    · refine ok_sg rfl ?_
      refine ok_sg rfl ?_
      refine ok_sg rfl ?_
      refine ok_v (.d (.bool false)) rfl rfl ?_
      refine ok_nil ?_
      obtain rfl := someE h2
      exact ⟨_, _, _, _, rfl⟩
  · rintro _ ⟨j3, j4, j5, j6, rfl⟩
    obtain ⟨c7, h8, h0⟩ := bindE h0
    refine ok_cutQ 5 (fun A st => ∃ (j9 j10 j11 j12 : V), st = A [(17, .d (.bool c7)), (16, j12), (15, j11), (14, j10), (13, j9)]) ?_ ?_
    · refine ok_mvB rfl rfl h8 (fun h8 => ?_) (fun h8 => ?_)
      · refine ok_v (.ref 0 2 0 1) rfl rfl ?_
        refine ok_v (.d (.int .i64 p0.Hi)) rfl rfl ?_
        refine ok_v (.d (.bool (decide (p0.Hi ≤ 1000000)))) rfl rfl ?_
        refine ok_v (.d (.bool (decide (p0.Hi ≤ 1000000)))) rfl rfl ?_
        refine ok_nil ?_
        obtain rfl := someE h8
        exact ⟨_, _, _, _, rfl⟩
      · refine ok_sg rfl ?_
        refine ok_sg rfl ?_
        refine ok_sg rfl ?_
        refine ok_v (.d (.bool false)) rfl rfl ?_
        refine ok_nil ?_
        obtain rfl := someE h8
        exact ⟨_, _, _, _, rfl⟩
    · rintro _ ⟨j9, j10, j11, j12, rfl⟩
      refine ok_as rfl rfl ?_
      refine ok_nil ?_
      refine rk_ret ?_
      obtain rfl := someE h0
      exact finD (.inr rfl) (v := .d (.bool c7)) rfl rfl (.refl _)

theorem span_Make_1_ok (p0 : api_Span) (r : Bool) (h0 : span_Make_1 p0 = some r) : Pure Try.prog tab 42 [.agg [.int .i64 p0.Lo, .int .i64 p0.Hi]] (.bool r) := by
  unfold span_Make_1 at h0
  refine pure_of_run Try.func42 rfl (by kernel_rfl) (by kernel_rfl) rfl ?_
  refine rk_seq ?_
  refine rk_region ?_
  refine ok_new (.ref 0 2 0 0) (.dat 2 [[.int .i64 p0.Lo, .int .i64 p0.Hi]]) rfl rfl ?_
  refine ok_as rfl rfl ?_
  refine ok_nil ?_
  refine rk_seq ?_
  refine rk_region ?_
  refine ok_v (.d (.agg [.int .i64 p0.Lo, .int .i64 p0.Hi])) rfl rfl ?_
  obtain ⟨r1, h2, h0⟩ := bindE h0
  refine ok_pc [.d (.agg [.int .i64 p0.Lo, .int .i64 p0.Hi])] (span_valid_ok p0 r1 h2) rfl rfl rfl (.inl rfl) ?_
  refine ok_v (.d (.bool (!r1))) rfl rfl ?_
  refine ok_as rfl rfl ?_
  refine ok_nil ?_
  refine rk_ret ?_
  obtain rfl := someE h0
  exact finD (.inr rfl) (v := .d (.bool (!r1))) rfl rfl (.refl _)

theorem span_ends_1_ok (p0 : span_end) (p1 : span_end) (r : Int) (h0 : span_ends_1 p0 p1 = some r) : Pure Try.prog tab 54 [.agg [.int .i64 p0.at_, .int .i64 p0.list_, .int .i64 p0.by_], .agg [.int .i64 p1.at_, .int .i64 p1.list_, .int .i64 p1.by_]] (.int .i64 r) := by
  unfold span_ends_1 at h0
  refine pure_of_run Try.func54 rfl (by kernel_rfl) (by kernel_rfl) rfl ?_
  refine rk_seq ?_
  refine rk_region ?_
  refine ok_new (.ref 0 3 0 0) (.dat 3 [[.int .i64 p0.at_, .int .i64 p0.list_, .int .i64 p0.by_]]) rfl rfl ?_
  refine ok_new (.ref 1 3 0 0) (.dat 3 [[.int .i64 p1.at_, .int .i64 p1.list_, .int .i64 p1.by_]]) rfl rfl ?_
  refine ok_as rfl rfl ?_
  refine ok_nil ?_
  refine rk_seq ?_
  refine rk_region ?_
  refine ok_v (.ref 0 3 0 0) rfl rfl ?_
  refine ok_v (.d (.int .i64 p0.at_)) rfl rfl ?_
  refine ok_v (.ref 1 3 0 0) rfl rfl ?_
  refine ok_v (.d (.int .i64 p1.at_)) rfl rfl ?_
  refine ok_v (.d (.int .i64 (w64 (p0.at_ - p1.at_)))) rfl rfl ?_
  refine ok_as rfl rfl ?_
  refine ok_nil ?_
  refine rk_ret ?_
  obtain rfl := someE h0
  exact finD (.inr rfl) (v := .d (.int .i64 (w64 (p0.at_ - p1.at_)))) rfl rfl (.refl _)

theorem math_bits_Len64_ok (p0 : Int) (r : Int) (h0 : math_bits_Len64 p0 = some r) : Pure Try.prog tab 68 [.int .u64 p0] (.int .i64 r) := by
  unfold math_bits_Len64 at h0
  refine pure_of_run Try.func68 rfl (by kernel_rfl) (by kernel_rfl) rfl ?_
  refine rk_seq ?_
  refine rk_region ?_
  refine ok_as rfl rfl ?_
  refine ok_nil ?_
  refine rk_seq ?_
  refine rk_seq ?_
  refine rk_region ?_
  refine ok_mv rfl rfl ?_
  refine ok_v (.d (.bool (decide (p0 ≥ 4294967296)))) rfl rfl ?_
  refine ok_nil ?_
  obtain ⟨m2, h1, h0⟩ := bindE h0
  refine rk_cut (fun b3 => b3 = m2) (fun (b3 : Int × Int) => ⟨[(0, .d (.int .u64 b3.1)), (2, .d (.int .i64 b3.2))], [], 0⟩) (by simp) ?_ ?_
  · refine rk_condH rfl h1 (fun _ h1 => ?_) (fun _ h1 => ?_)
    · refine rk_seq ?_
      refine rk_region ?_
      refine ok_mv rfl rfl ?_
      refine ok_v (.d (.int .u64 (Int.fdiv p0 (2 ^ 32)))) rfl rfl ?_
      refine ok_as rfl rfl ?_
      refine ok_nil ?_
      refine rk_region ?_
      refine ok_as rfl rfl ?_
      refine ok_nil ?_
      refine rk_nil ?_
      obtain rfl := someE h1
      exact ⟨_, rfl, wkE [] [] [] rfl ⟨⟨_, rfl, .d (.refl _)⟩, ⟨_, rfl, .d (.refl _)⟩, trivial⟩ trivial⟩
    · refine rk_skip ?_
      refine rk_nil ?_
      obtain rfl := someE h1
      exact ⟨_, rfl, wkE [] [] [] rfl ⟨⟨_, rfl, .d (.refl _)⟩, ⟨_, rfl, .d (.refl _)⟩, trivial⟩ trivial⟩
  · intro b3 hb
    subst hb
    refine rk_seq ?_
    refine rk_seq ?_
    refine rk_region ?_
    refine ok_mv rfl rfl ?_
    refine ok_v (.d (.bool (decide (b3.1 ≥ 65536)))) rfl rfl ?_
    refine ok_nil ?_
    obtain ⟨m5, h4, h0⟩ := bindE h0
    refine rk_cut (fun b6 => b6 = m5) (fun (b6 : Int × Int) => ⟨[(0, .d (.int .u64 b6.1)), (2, .d (.int .i64 b6.2))], [], 0⟩) (by simp) ?_ ?_
    · refine rk_condH rfl h4 (fun _ h4 => ?_) (fun _ h4 => ?_)
      · refine rk_seq ?_
        refine rk_region ?_
        refine ok_mv rfl rfl ?_
        refine ok_v (.d (.int .u64 (Int.fdiv b3.1 (2 ^ 16)))) rfl rfl ?_
        refine ok_as rfl rfl ?_
        refine ok_nil ?_
        refine rk_region ?_
        refine ok_mv rfl rfl ?_
        refine ok_v (.d (.int .i64 (w64 (b3.2 + 16)))) rfl rfl ?_
        refine ok_as rfl rfl ?_
        refine ok_nil ?_
        refine rk_nil ?_
        obtain rfl := someE h4
        exact ⟨_, rfl, wkE [] [] [] rfl ⟨⟨_, rfl, .d (.refl _)⟩, ⟨_, rfl, .d (.refl _)⟩, trivial⟩ trivial⟩
      · refine rk_skip ?_
        refine rk_nil ?_
        obtain rfl := someE h4
        exact ⟨_, rfl, wkE [] [] [] rfl ⟨⟨_, rfl, .d (.refl _)⟩, ⟨_, rfl, .d (.refl _)⟩, trivial⟩ trivial⟩
    · intro b6 hb
      subst hb
      refine rk_seq ?_
      refine rk_seq ?_
      refine rk_region ?_
      refine ok_mv rfl rfl ?_
      refine ok_v (.d (.bool (decide (b6.1 ≥ 256)))) rfl rfl ?_
      refine ok_nil ?_
      obtain ⟨m8, h7, h0⟩ := bindE h0
      refine rk_cut (fun b9 => b9 = m8) (fun (b9 : Int × Int) => ⟨[(0, .d (.int .u64 b9.1)), (2, .d (.int .i64 b9.2))], [], 0⟩) (by simp) ?_ ?_
      · refine rk_condH rfl h7 (fun _ h7 => ?_) (fun _ h7 => ?_)
        · refine rk_seq ?_
          refine rk_region ?_
          refine ok_mv rfl rfl ?_
          refine ok_v (.d (.int .u64 (Int.fdiv b6.1 (2 ^ 8)))) rfl rfl ?_
          refine ok_as rfl rfl ?_
          refine ok_nil ?_
          refine rk_region ?_
          refine ok_mv rfl rfl ?_
          refine ok_v (.d (.int .i64 (w64 (b6.2 + 8)))) rfl rfl ?_
          refine ok_as rfl rfl ?_
          refine ok_nil ?_
          refine rk_nil ?_
          obtain rfl := someE h7
          exact ⟨_, rfl, wkE [] [] [] rfl ⟨⟨_, rfl, .d (.refl _)⟩, ⟨_, rfl, .d (.refl _)⟩, trivial⟩ trivial⟩
        · refine rk_skip ?_
          refine rk_nil ?_
          obtain rfl := someE h7
          exact ⟨_, rfl, wkE [] [] [] rfl ⟨⟨_, rfl, .d (.refl _)⟩, ⟨_, rfl, .d (.refl _)⟩, trivial⟩ trivial⟩
      · intro b9 hb
        subst hb
        refine rk_seq ?_
        refine rk_region ?_
        refine ok_mv rfl rfl ?_
        refine ok_mv rfl rfl ?_
        refine ok_v (.d (.int .u8 (IntKind.wrap .u8 b9.1))) rfl rfl ?_
        obtain ⟨v10, h11, h0⟩ := bindE h0
        refine ok_ixS str_256_0_1_2_2_3_3 h11 rfl rfl rfl rfl rfl ?_
        refine ok_v (.d (.int .i64 (w64 v10))) rfl rfl ?_
        refine ok_v (.d (.int .i64 (w64 (b9.2 + (w64 v10))))) rfl rfl ?_
        refine ok_as rfl rfl ?_
        refine ok_nil ?_
        refine rk_ret ?_
        obtain rfl := someE h0
        exact finD (.inr rfl) (v := .d (.int .i64 (w64 (b9.2 + (w64 v10))))) rfl rfl (.refl _)

theorem math_bits_Len_ok (p0 : Int) (r : Int) (h0 : math_bits_Len p0 = some r) : Pure Try.prog tab 57 [.int .u64 p0] (.int .i64 r) := by
  unfold math_bits_Len at h0
  refine pure_of_run Try.func57 rfl (by kernel_rfl) (by kernel_rfl) rfl ?_
  refine rk_seq ?_
  refine rk_region ?_
  refine ok_as rfl rfl ?_
  refine ok_nil ?_
  refine rk_seq ?_
  refine rk_condF rfl ?_
  refine rk_skip ?_
  refine rk_seq ?_
  refine rk_region ?_
  refine ok_mv rfl rfl ?_
  obtain ⟨r1, h2, h0⟩ := bindE h0
  refine ok_pc [.d (.int .u64 p0)] (math_bits_Len64_ok p0 r1 h2) rfl rfl rfl (.inl rfl) ?_
  refine ok_as rfl rfl ?_
  refine ok_nil ?_
  refine rk_ret ?_
  obtain rfl := someE h0
  exact finD (.inr rfl) (v := .d (.int .i64 r1)) rfl rfl (.refl _)

theorem slices_insertionSortCmpFunc_span_end_e1_eff (q1 : span_end → span_end → Option Int) (q1F : FuncId) (q1C : List DV) (q1Ok : ∀ (x0 : span_end) (x1 : span_end) (r : Int), q1 x0 x1 = some r → Pure Try.prog tab q1F ([.agg [.int .i64 x0.at_, .int .i64 x0.list_, .int .i64 x0.by_], .agg [.int .i64 x1.at_, .int .i64 x1.list_, .int .i64 x1.by_]] ++ q1C) (.int .i64 r)) (p0 : List span_end) (p1 : Int) (p2 : Int) (r : List span_end) (h0 : slices_insertionSortCmpFunc_span_end_e1 q1 p0 p1 p2 = some r) : EvCall Try.prog tab 59 [.hs 0 3 0 p0.length, .d (.int .i64 p1), .d (.int .i64 p2), .d (.fn q1F q1C)] [(0, .dat 3 (p0.map enc_span_end))] 1 (.d (.tup [])) [(0, .dat 3 (r.map enc_span_end))] 1 := by
  unfold slices_insertionSortCmpFunc_span_end_e1 at h0
  refine eff_of_run Try.func59 rfl (by kernel_rfl) (by kernel_rfl) rfl ?_
  refine rk_seq ?_
  refine rk_region ?_
  refine ok_mv rfl rfl ?_
  refine ok_v (.d (.int .i64 (w64 (p1 + 1)))) rfl rfl ?_
  refine ok_as rfl rfl ?_
  refine ok_nil ?_
  obtain ⟨m279, h280, h0⟩ := bindE h0
  refine rk_block ?_
  refine rk_loopF (slices_insertionSortCmpFunc_span_end_e1_L1 p2 p1 q1) (fun (a278 : Int × List span_end) => ⟨[(0, .hs 0 3 0 a278.2.length), (1, .d (.int .i64 p1)), (2, .d (.int .i64 p2)), (3, .d (.fn q1F q1C)), (8, .d (.int .i64 a278.1))], [(0, .dat 3 (a278.2.map enc_span_end))], 1⟩) (w64 (p1 + 1), p0) m279 h280 (wkE [] [] [] rfl ⟨⟨_, rfl, .hs rfl (by decide) (ltd rfl)⟩, ⟨_, rfl, .d (.refl _)⟩, ⟨_, rfl, .d (.refl _)⟩, ⟨_, rfl, .d (.refl _)⟩, ⟨_, rfl, .d (.refl _)⟩, trivial⟩ ⟨⟨ltd rfl, .inr ⟨by decide, _, rfl, .dat _ _⟩⟩, trivial⟩) ?_
  intro a278 y276 h277
  unfold slices_insertionSortCmpFunc_span_end_e1_L1 at h277
  refine rk_seq ?_
  refine rk_seq ?_
  refine rk_region ?_
  refine ok_mv rfl rfl ?_
  refine ok_mv rfl rfl ?_
  refine ok_v (.d (.bool (decide (a278.1 < p2)))) rfl rfl ?_
  refine ok_nil ?_
  refine rk_condH rfl h277 (fun _ h277 => ?_) (fun _ h277 => ?_)
  · refine rk_skip ?_
    refine rk_seq ?_
    obtain ⟨m369, h368, h277⟩ := bindE h277
    refine rk_blockcut (fun b370 => b370 = m369) (fun (b370 : List span_end) => ⟨[(0, .hs 0 3 0 b370.length), (1, .d (.int .i64 p1)), (2, .d (.int .i64 p2)), (3, .d (.fn q1F q1C)), (8, .d (.int .i64 a278.1))], [(0, .dat 3 (b370.map enc_span_end))], 1⟩) (by simp) ?_ ?_
    · refine rk_seq ?_
      refine rk_region ?_
      refine ok_mv rfl rfl ?_
      refine ok_as rfl rfl ?_
      refine ok_nil ?_
      obtain ⟨m460, h461, h368⟩ := bindE h368
      refine rk_block ?_
      refine rk_loopF (slices_insertionSortCmpFunc_span_end_e1_L2 p1 q1) (fun (a459 : Int × List span_end) => ⟨[(0, .hs 0 3 0 a459.2.length), (1, .d (.int .i64 p1)), (2, .d (.int .i64 p2)), (3, .d (.fn q1F q1C)), (8, .d (.int .i64 a278.1)), (9, .d (.int .i64 a459.1))], [(0, .dat 3 (a459.2.map enc_span_end))], 1⟩) (a278.1, a278.2) m460 h461 (wkE [] [] [] rfl ⟨⟨_, rfl, .hs rfl (by decide) (ltd rfl)⟩, ⟨_, rfl, .d (.refl _)⟩, ⟨_, rfl, .d (.refl _)⟩, ⟨_, rfl, .d (.refl _)⟩, ⟨_, rfl, .d (.refl _)⟩, ⟨_, rfl, .d (.refl _)⟩, trivial⟩ ⟨⟨ltd rfl, .inr ⟨by decide, _, rfl, .dat _ _⟩⟩, trivial⟩) ?_
      intro a459 y457 h458
      unfold slices_insertionSortCmpFunc_span_end_e1_L2 at h458
      refine rk_seq ?_
      refine rk_seq ?_
      refine rk_regionD (by kernel_rfl) ?_
      refine ok_mv rfl rfl ?_
      refine ok_mv rfl rfl ?_
      refine ok_v (.d (.bool (decide (a459.1 > p1)))) rfl rfl ?_
      obtain ⟨c469, h470, h458⟩ := bindE h458
      refine ok_cutQ 14 (fun A st => ∃ (j471 j472 j473 j474 j475 j476 j477 j478 j479 j480 j481 j482 j483 : V), st = A [(34, .d (.bool c469)), (33, j483), (32, j482), (31, j481), (30, j480), (29, j479), (28, j478), (27, j477), (26, j476), (25, j475), (24, j474), (23, j473), (22, j472), (21, j471)]) ?_ ?_
      · refine ok_mvB rfl rfl h470 (fun h470 => ?_) (fun h470 => ?_)
        · refine ok_mv rfl rfl ?_
          refine ok_mv rfl rfl ?_
          refine ok_mv rfl rfl ?_
          obtain ⟨v484, h485, h470⟩ := bindE h470
          refine ok_ih h485 rfl rfl rfl rfl rfl rfl rfl ?_
          refine ok_lh (.d (.agg [.int .i64 v484.at_, .int .i64 v484.list_, .int .i64 v484.by_])) h485 rfl rfl rfl rfl rfl rfl ?_
          refine ok_mv rfl rfl ?_
          refine ok_mv rfl rfl ?_
          refine ok_v (.d (.int .i64 (w64 (a459.1 - 1)))) rfl rfl ?_
          obtain ⟨v486, h487, h470⟩ := bindE h470
          refine ok_ih h487 rfl rfl rfl rfl rfl rfl rfl ?_
          refine ok_lh (.d (.agg [.int .i64 v486.at_, .int .i64 v486.list_, .int .i64 v486.by_])) h487 rfl rfl rfl rfl rfl rfl ?_
          obtain ⟨r488, h489, h470⟩ := bindE h470
          refine ok_pf [.d (.agg [.int .i64 v484.at_, .int .i64 v484.list_, .int .i64 v484.by_]), .d (.agg [.int .i64 v486.at_, .int .i64 v486.list_, .int .i64 v486.by_])] (q1Ok v484 v486 r488 h489) rfl rfl rfl (.inl rfl) ?_
          refine ok_v (.d (.bool (decide (r488 < 0)))) rfl rfl ?_
          refine ok_v (.d (.bool (decide (r488 < 0)))) rfl rfl ?_
          refine ok_nil ?_
          obtain rfl := someE h470
          exact ⟨_, _, _, _, _, _, _, _, _, _, _, _, _, rfl⟩
        · refine ok_sg rfl ?_
          refine ok_sg rfl ?_
          refine ok_sg rfl ?_
          refine ok_sg rfl ?_
          refine ok_sg rfl ?_
          refine ok_sg rfl ?_
          refine ok_sg rfl ?_
          refine ok_sg rfl ?_
          refine ok_sg rfl ?_
          refine ok_sg rfl ?_
          refine ok_sg rfl ?_
          refine ok_sg rfl ?_
          refine ok_v (.d (.bool false)) rfl rfl ?_
          refine ok_nil ?_
          obtain rfl := someE h470
          exact ⟨_, _, _, _, _, _, _, _, _, _, _, _, _, rfl⟩
      · rintro _ ⟨j471, j472, j473, j474, j475, j476, j477, j478, j479, j480, j481, j482, j483, rfl⟩
        refine ok_nil ?_
        refine rk_condH rfl h458 (fun _ h458 => ?_) (fun _ h458 => ?_)
        · refine rk_skip ?_
          refine rk_seq ?_
          refine rk_block ?_
          refine rk_regionD (by kernel_rfl) ?_
          refine ok_mv rfl rfl ?_
          refine ok_mv rfl rfl ?_
          refine ok_mv rfl rfl ?_
          refine ok_mv rfl rfl ?_
          refine ok_v (.d (.int .i64 (w64 (a459.1 - 1)))) rfl rfl ?_
          refine ok_mv rfl rfl ?_
          refine ok_mv rfl rfl ?_
          refine ok_v (.d (.int .i64 (w64 (a459.1 - 1)))) rfl rfl ?_
          obtain ⟨v498, h499, h458⟩ := bindE h458
          refine ok_ih h499 rfl rfl rfl rfl rfl rfl rfl ?_
          refine ok_lh (.d (.agg [.int .i64 v498.at_, .int .i64 v498.list_, .int .i64 v498.by_])) h499 rfl rfl rfl rfl rfl rfl ?_
          refine ok_mv rfl rfl ?_
          refine ok_mv rfl rfl ?_
          obtain ⟨v500, h501, h458⟩ := bindE h458
          refine ok_ih h501 rfl rfl rfl rfl rfl rfl rfl ?_
          refine ok_lh (.d (.agg [.int .i64 v500.at_, .int .i64 v500.list_, .int .i64 v500.by_])) h501 rfl rfl rfl rfl rfl rfl ?_
          obtain ⟨v502, h503, h458⟩ := bindE h458
          refine ok_ih h503 rfl rfl rfl rfl rfl rfl rfl ?_
          refine ok_sh (ds := [.int .i64 v498.at_, .int .i64 v498.list_, .int .i64 v498.by_]) v498 h503 rfl rfl rfl rfl rfl rfl rfl rfl (leb rfl) rfl ?_
          obtain ⟨v504, h505, h458⟩ := bindE h458
          refine ok_ih h505 (by simp) rfl rfl rfl rfl rfl rfl ?_
          refine ok_sh (ds := [.int .i64 v500.at_, .int .i64 v500.list_, .int .i64 v500.by_]) v500 h505 rfl rfl rfl rfl rfl rfl rfl rfl (leb rfl) rfl ?_
          refine ok_nil ?_
          refine rk_nil ?_
          refine blk_nor ?_
          refine rk_region ?_
          refine ok_mv rfl rfl ?_
          refine ok_v (.d (.int .i64 (w64 (a459.1 - 1)))) rfl rfl ?_
          refine ok_as rfl rfl ?_
          refine ok_nil ?_
          refine rk_nil ?_
          exact ⟨_, (Option.some.inj h458).symm, wkE [] [] [] rfl ⟨⟨_, rfl, wv_hsL (by simp) rfl (by decide) (ltd rfl)⟩, ⟨_, rfl, .d (.refl _)⟩, ⟨_, rfl, .d (.refl _)⟩, ⟨_, rfl, .d (.refl _)⟩, ⟨_, rfl, .d (.refl _)⟩, ⟨_, rfl, .d (.refl _)⟩, trivial⟩ ⟨⟨ltd rfl, .inr ⟨by decide, _, rfl, .dat _ _⟩⟩, trivial⟩⟩
        · refine rk_exit ?_
          refine ⟨_, (Option.some.inj h458).symm, fun hm => ?_⟩
          subst hm
          obtain rfl := someE h368
          exact ⟨_, rfl, wkE [] [] [] rfl ⟨⟨_, rfl, .hs rfl (by decide) (ltd rfl)⟩, ⟨_, rfl, .d (.refl _)⟩, ⟨_, rfl, .d (.refl _)⟩, ⟨_, rfl, .d (.refl _)⟩, ⟨_, rfl, .d (.refl _)⟩, trivial⟩ ⟨⟨ltd rfl, .inr ⟨by decide, _, rfl, .dat _ _⟩⟩, trivial⟩⟩
    · intro b370 hb
      subst hb
      refine rk_region ?_
      refine ok_mv rfl rfl ?_
      refine ok_v (.d (.int .i64 (w64 (a278.1 + 1)))) rfl rfl ?_
      refine ok_as rfl rfl ?_
      refine ok_nil ?_
      refine rk_nil ?_
      exact ⟨_, (Option.some.inj h277).symm, wkE [] [] [] rfl ⟨⟨_, rfl, .hs rfl (by decide) (ltd rfl)⟩, ⟨_, rfl, .d (.refl _)⟩, ⟨_, rfl, .d (.refl _)⟩, ⟨_, rfl, .d (.refl _)⟩, ⟨_, rfl, .d (.refl _)⟩, trivial⟩ ⟨⟨ltd rfl, .inr ⟨by decide, _, rfl, .dat _ _⟩⟩, trivial⟩⟩
  · refine rk_exit ?_
    refine ⟨_, (Option.some.inj h277).symm, fun hm => ?_⟩
    subst hm
    obtain rfl := someE h0
    exact ⟨.inl rfl, _, rfl, wkE [] [] [] rfl ⟨⟨_, rfl, .d (.refl _)⟩, trivial⟩ ⟨⟨ltd rfl, .inr ⟨by decide, _, rfl, .dat _ _⟩⟩, trivial⟩⟩

theorem slices_siftDownCmpFunc_span_end_e1_eff (q1 : span_end → span_end → Option Int) (q1F : FuncId) (q1C : List DV) (q1Ok : ∀ (x0 : span_end) (x1 : span_end) (r : Int), q1 x0 x1 = some r → Pure Try.prog tab q1F ([.agg [.int .i64 x0.at_, .int .i64 x0.list_, .int .i64 x0.by_], .agg [.int .i64 x1.at_, .int .i64 x1.list_, .int .i64 x1.by_]] ++ q1C) (.int .i64 r)) (p0 : List span_end) (p1 : Int) (p2 : Int) (p3 : Int) (r : List span_end) (h0 : slices_siftDownCmpFunc_span_end_e1 q1 p0 p1 p2 p3 = some r) : EvCall Try.prog tab 69 [.hs 0 3 0 p0.length, .d (.int .i64 p1), .d (.int .i64 p2), .d (.int .i64 p3), .d (.fn q1F q1C)] [(0, .dat 3 (p0.map enc_span_end))] 1 (.d (.tup [])) [(0, .dat 3 (r.map enc_span_end))] 1 := by
  unfold slices_siftDownCmpFunc_span_end_e1 at h0
  refine eff_of_run Try.func69 rfl (by kernel_rfl) (by kernel_rfl) rfl ?_
  refine rk_seq ?_
  refine rk_region ?_
  refine ok_mv rfl rfl ?_
  refine ok_as rfl rfl ?_
  refine ok_nil ?_
  obtain ⟨m198, h199, h0⟩ := bindE h0
  refine rk_block ?_
  refine rk_loopF (slices_siftDownCmpFunc_span_end_e1_L1 p2 p3 q1) (fun (a197 : Int × List span_end) => ⟨[(0, .hs 0 3 0 a197.2.length), (2, .d (.int .i64 p2)), (3, .d (.int .i64 p3)), (4, .d (.fn q1F q1C)), (10, .d (.int .i64 a197.1))], [(0, .dat 3 (a197.2.map enc_span_end))], 1⟩) (p1, p0) m198 h199 (wkE [] [] [] rfl ⟨⟨_, rfl, .hs rfl (by decide) (ltd rfl)⟩, ⟨_, rfl, .d (.refl _)⟩, ⟨_, rfl, .d (.refl _)⟩, ⟨_, rfl, .d (.refl _)⟩, ⟨_, rfl, .d (.refl _)⟩, trivial⟩ ⟨⟨ltd rfl, .inr ⟨by decide, _, rfl, .dat _ _⟩⟩, trivial⟩) ?_
  intro a197 y195 h196
  unfold slices_siftDownCmpFunc_span_end_e1_L1 at h196
  refine rk_block ?_
  refine rk_seq ?_
  refine rk_region ?_
  refine ok_mv rfl rfl ?_
  refine ok_v (.d (.int .i64 (w64 (2 * a197.1)))) rfl rfl ?_
  refine ok_v (.d (.int .i64 (w64 ((w64 (2 * a197.1)) + 1)))) rfl rfl ?_
  refine ok_as rfl rfl ?_
  refine ok_nil ?_
  refine rk_seq ?_
  refine rk_seq ?_
  refine rk_region ?_
  refine ok_mv rfl rfl ?_
  refine ok_mv rfl rfl ?_
  refine ok_v (.d (.bool (decide ((w64 ((w64 (2 * a197.1)) + 1)) ≥ p2)))) rfl rfl ?_
  refine ok_nil ?_
  refine rk_condH rfl h196 (fun _ h196 => ?_) (fun _ h196 => ?_)
  · refine rk_exit ?_
    refine ⟨_, (Option.some.inj h196).symm, fun hm => ?_⟩
    subst hm
    obtain rfl := someE h0
    exact ⟨.inl rfl, _, rfl, wkE [] [] [] rfl ⟨⟨_, rfl, .d (.refl _)⟩, trivial⟩ ⟨⟨ltd rfl, .inr ⟨by decide, _, rfl, .dat _ _⟩⟩, trivial⟩⟩
  · refine rk_skip ?_
    refine rk_seq ?_
    refine rk_seq ?_
    refine rk_regionD (by kernel_rfl) ?_
    refine ok_mv rfl rfl ?_
    refine ok_v (.d (.int .i64 (w64 ((w64 ((w64 (2 * a197.1)) + 1)) + 1)))) rfl rfl ?_
    refine ok_mv rfl rfl ?_
    refine ok_v (.d (.bool (decide ((w64 ((w64 ((w64 (2 * a197.1)) + 1)) + 1)) < p2)))) rfl rfl ?_
    obtain ⟨c207, h208, h196⟩ := bindE h196
    refine ok_cutQ 18 (fun A st => ∃ (j209 j210 j211 j212 j213 j214 j215 j216 j217 j218 j219 j220 j221 j222 j223 j224 j225 : V), st = A [(40, .d (.bool c207)), (39, j225), (38, j224), (37, j223), (36, j222), (35, j221), (34, j220), (33, j219), (32, j218), (31, j217), (30, j216), (29, j215), (28, j214), (27, j213), (26, j212), (25, j211), (24, j210), (23, j209)]) ?_ ?_
    · refine ok_mvB rfl rfl h208 (fun h208 => ?_) (fun h208 => ?_)
      · refine ok_mv rfl rfl ?_
        refine ok_mv rfl rfl ?_
        refine ok_mv rfl rfl ?_
        refine ok_mv rfl rfl ?_
        refine ok_v (.d (.int .i64 (w64 (p3 + (w64 ((w64 (2 * a197.1)) + 1)))))) rfl rfl ?_
        obtain ⟨v226, h227, h208⟩ := bindE h208
        refine ok_ih h227 rfl rfl rfl rfl rfl rfl rfl ?_
        refine ok_lh (.d (.agg [.int .i64 v226.at_, .int .i64 v226.list_, .int .i64 v226.by_])) h227 rfl rfl rfl rfl rfl rfl ?_
        refine ok_mv rfl rfl ?_
        refine ok_mv rfl rfl ?_
        refine ok_mv rfl rfl ?_
        refine ok_v (.d (.int .i64 (w64 (p3 + (w64 ((w64 (2 * a197.1)) + 1)))))) rfl rfl ?_
        refine ok_v (.d (.int .i64 (w64 ((w64 (p3 + (w64 ((w64 (2 * a197.1)) + 1)))) + 1)))) rfl rfl ?_
        obtain ⟨v228, h229, h208⟩ := bindE h208
        refine ok_ih h229 rfl rfl rfl rfl rfl rfl rfl ?_
        refine ok_lh (.d (.agg [.int .i64 v228.at_, .int .i64 v228.list_, .int .i64 v228.by_])) h229 rfl rfl rfl rfl rfl rfl ?_
        obtain ⟨r230, h231, h208⟩ := bindE h208
        refine ok_pf [.d (.agg [.int .i64 v226.at_, .int .i64 v226.list_, .int .i64 v226.by_]), .d (.agg [.int .i64 v228.at_, .int .i64 v228.list_, .int .i64 v228.by_])] (q1Ok v226 v228 r230 h231) rfl rfl rfl (.inl rfl) ?_
        refine ok_v (.d (.bool (decide (r230 < 0)))) rfl rfl ?_
        refine ok_v (.d (.bool (decide (r230 < 0)))) rfl rfl ?_
        refine ok_nil ?_
        obtain rfl := someE h208
        exact ⟨_, _, _, _, _, _, _, _, _, _, _, _, _, _, _, _, _, rfl⟩
      · refine ok_sg rfl ?_
        refine ok_sg rfl ?_
        refine ok_sg rfl ?_
        refine ok_sg rfl ?_
        refine ok_sg rfl ?_
        refine ok_sg rfl ?_
        refine ok_sg rfl ?_
        refine ok_sg rfl ?_
        refine ok_sg rfl ?_
        refine ok_sg rfl ?_
        refine ok_sg rfl ?_
        refine ok_sg rfl ?_
        refine ok_sg rfl ?_
        refine ok_sg rfl ?_
        refine ok_sg rfl ?_
        refine ok_sg rfl ?_
        refine ok_v (.d (.bool false)) rfl rfl ?_
        refine ok_nil ?_
        obtain rfl := someE h208
        exact ⟨_, _, _, _, _, _, _, _, _, _, _, _, _, _, _, _, _, rfl⟩
    · rintro _ ⟨j209, j210, j211, j212, j213, j214, j215, j216, j217, j218, j219, j220, j221, j222, j223, j224, j225, rfl⟩
      refine ok_nil ?_
      obtain ⟨m233, h232, h196⟩ := bindE h196
      refine rk_cut (fun b234 => b234 = m233) (fun (b234 : Int) => ⟨[(0, .hs 0 3 0 a197.2.length), (2, .d (.int .i64 p2)), (3, .d (.int .i64 p3)), (4, .d (.fn q1F q1C)), (10, .d (.int .i64 a197.1)), (11, .d (.int .i64 b234))], [(0, .dat 3 (a197.2.map enc_span_end))], 1⟩) (by simp) ?_ ?_
      · refine rk_condH rfl h232 (fun _ h232 => ?_) (fun _ h232 => ?_)
        · refine rk_region ?_
          refine ok_mv rfl rfl ?_
          refine ok_v (.d (.int .i64 (w64 ((w64 ((w64 (2 * a197.1)) + 1)) + 1)))) rfl rfl ?_
          refine ok_as rfl rfl ?_
          refine ok_nil ?_
          refine rk_nil ?_
          obtain rfl := someE h232
          exact ⟨_, rfl, wkE [] [] [] rfl ⟨⟨_, rfl, .hs rfl (by decide) (ltd rfl)⟩, ⟨_, rfl, .d (.refl _)⟩, ⟨_, rfl, .d (.refl _)⟩, ⟨_, rfl, .d (.refl _)⟩, ⟨_, rfl, .d (.refl _)⟩, ⟨_, rfl, .d (.refl _)⟩, trivial⟩ ⟨⟨ltd rfl, .inr ⟨by decide, _, rfl, .dat _ _⟩⟩, trivial⟩⟩
        · refine rk_skip ?_
          refine rk_nil ?_
          obtain rfl := someE h232
          exact ⟨_, rfl, wkE [] [] [] rfl ⟨⟨_, rfl, .hs rfl (by decide) (ltd rfl)⟩, ⟨_, rfl, .d (.refl _)⟩, ⟨_, rfl, .d (.refl _)⟩, ⟨_, rfl, .d (.refl _)⟩, ⟨_, rfl, .d (.refl _)⟩, ⟨_, rfl, .d (.refl _)⟩, trivial⟩ ⟨⟨ltd rfl, .inr ⟨by decide, _, rfl, .dat _ _⟩⟩, trivial⟩⟩
      · intro b234 hb
        subst hb
        refine rk_seq ?_
        refine rk_seq ?_
        refine rk_regionD (by kernel_rfl) ?_
        refine ok_mv rfl rfl ?_
        refine ok_mv rfl rfl ?_
        refine ok_mv rfl rfl ?_
        refine ok_mv rfl rfl ?_
        refine ok_v (.d (.int .i64 (w64 (p3 + a197.1)))) rfl rfl ?_
        obtain ⟨v235, h236, h196⟩ := bindE h196
        refine ok_ih h236 rfl rfl rfl rfl rfl rfl rfl ?_
        refine ok_lh (.d (.agg [.int .i64 v235.at_, .int .i64 v235.list_, .int .i64 v235.by_])) h236 rfl rfl rfl rfl rfl rfl ?_
        refine ok_mv rfl rfl ?_
        refine ok_mv rfl rfl ?_
        refine ok_mv rfl rfl ?_
        refine ok_v (.d (.int .i64 (w64 (p3 + b234)))) rfl rfl ?_
        obtain ⟨v237, h238, h196⟩ := bindE h196
        refine ok_ih h238 rfl rfl rfl rfl rfl rfl rfl ?_
        refine ok_lh (.d (.agg [.int .i64 v237.at_, .int .i64 v237.list_, .int .i64 v237.by_])) h238 rfl rfl rfl rfl rfl rfl ?_
        obtain ⟨r239, h240, h196⟩ := bindE h196
        refine ok_pf [.d (.agg [.int .i64 v235.at_, .int .i64 v235.list_, .int .i64 v235.by_]), .d (.agg [.int .i64 v237.at_, .int .i64 v237.list_, .int .i64 v237.by_])] (q1Ok v235 v237 r239 h240) rfl rfl rfl (.inl rfl) ?_
        refine ok_v (.d (.bool (decide (r239 < 0)))) rfl rfl ?_
        refine ok_v (.d (.bool (!(decide (r239 < 0))))) rfl rfl ?_
        refine ok_nil ?_
        refine rk_condH rfl h196 (fun _ h196 => ?_) (fun _ h196 => ?_)
        · refine rk_ret ?_
          refine ⟨_, (Option.some.inj h196).symm, fun hm => ?_⟩
          subst hm
          obtain rfl := someE h0
          exact ⟨.inr rfl, _, rfl, wkE [] [] [] rfl ⟨⟨_, rfl, .d (.refl _)⟩, trivial⟩ ⟨⟨ltd rfl, .inr ⟨by decide, _, rfl, .dat _ _⟩⟩, trivial⟩⟩
        · refine rk_skip ?_
          refine rk_seq ?_
          refine rk_regionD (by kernel_rfl) ?_
          refine ok_mv rfl rfl ?_
          refine ok_mv rfl rfl ?_
          refine ok_mv rfl rfl ?_
          refine ok_v (.d (.int .i64 (w64 (p3 + a197.1)))) rfl rfl ?_
          refine ok_mv rfl rfl ?_
          refine ok_mv rfl rfl ?_
          refine ok_mv rfl rfl ?_
          refine ok_v (.d (.int .i64 (w64 (p3 + b234)))) rfl rfl ?_
          refine ok_mv rfl rfl ?_
          refine ok_mv rfl rfl ?_
          refine ok_mv rfl rfl ?_
          refine ok_v (.d (.int .i64 (w64 (p3 + b234)))) rfl rfl ?_
          obtain ⟨v241, h242, h196⟩ := bindE h196
          refine ok_ih h242 rfl rfl rfl rfl rfl rfl rfl ?_
          refine ok_lh (.d (.agg [.int .i64 v241.at_, .int .i64 v241.list_, .int .i64 v241.by_])) h242 rfl rfl rfl rfl rfl rfl ?_
          refine ok_mv rfl rfl ?_
          refine ok_mv rfl rfl ?_
          refine ok_mv rfl rfl ?_
          refine ok_v (.d (.int .i64 (w64 (p3 + a197.1)))) rfl rfl ?_
          obtain ⟨v243, h244, h196⟩ := bindE h196
          refine ok_ih h244 rfl rfl rfl rfl rfl rfl rfl ?_
          refine ok_lh (.d (.agg [.int .i64 v243.at_, .int .i64 v243.list_, .int .i64 v243.by_])) h244 rfl rfl rfl rfl rfl rfl ?_
          obtain ⟨v245, h246, h196⟩ := bindE h196
          refine ok_ih h246 rfl rfl rfl rfl rfl rfl rfl ?_
          refine ok_sh (ds := [.int .i64 v241.at_, .int .i64 v241.list_, .int .i64 v241.by_]) v241 h246 rfl rfl rfl rfl rfl rfl rfl rfl (leb rfl) rfl ?_
          obtain ⟨v247, h248, h196⟩ := bindE h196
          refine ok_ih h248 (by simp) rfl rfl rfl rfl rfl rfl ?_
          refine ok_sh (ds := [.int .i64 v243.at_, .int .i64 v243.list_, .int .i64 v243.by_]) v243 h248 rfl rfl rfl rfl rfl rfl rfl rfl (leb rfl) rfl ?_
          refine ok_nil ?_
          refine rk_region ?_
          refine ok_mv rfl rfl ?_
          refine ok_as rfl rfl ?_
          refine ok_nil ?_
          refine rk_nil ?_
          refine blk_nor ?_
          refine rk_nil ?_
          exact ⟨_, (Option.some.inj h196).symm, wkE [] [] [] rfl ⟨⟨_, rfl, wv_hsL (by simp) rfl (by decide) (ltd rfl)⟩, ⟨_, rfl, .d (.refl _)⟩, ⟨_, rfl, .d (.refl _)⟩, ⟨_, rfl, .d (.refl _)⟩, ⟨_, rfl, .d (.refl _)⟩, trivial⟩ ⟨⟨ltd rfl, .inr ⟨by decide, _, rfl, .dat _ _⟩⟩, trivial⟩⟩

theorem slices_heapSortCmpFunc_span_end_e1_eff (q1 : span_end → span_end → Option Int) (q1F : FuncId) (q1C : List DV) (q1Ok : ∀ (x0 : span_end) (x1 : span_end) (r : Int), q1 x0 x1 = some r → Pure Try.prog tab q1F ([.agg [.int .i64 x0.at_, .int .i64 x0.list_, .int .i64 x0.by_], .agg [.int .i64 x1.at_, .int .i64 x1.list_, .int .i64 x1.by_]] ++ q1C) (.int .i64 r)) (p0 : List span_end) (p1 : Int) (p2 : Int) (r : List span_end) (h0 : slices_heapSortCmpFunc_span_end_e1 q1 p0 p1 p2 = some r) : EvCall Try.prog tab 60 [.hs 0 3 0 p0.length, .d (.int .i64 p1), .d (.int .i64 p2), .d (.fn q1F q1C)] [(0, .dat 3 (p0.map enc_span_end))] 1 (.d (.tup [])) [(0, .dat 3 (r.map enc_span_end))] 1 := by
  unfold slices_heapSortCmpFunc_span_end_e1 at h0
  refine eff_of_run Try.func60 rfl (by kernel_rfl) (by kernel_rfl) rfl ?_
  refine rk_seq ?_
  refine rk_region ?_
  refine ok_mv rfl rfl ?_
  refine ok_as rfl rfl ?_
  refine ok_nil ?_
  refine rk_seq ?_
  refine rk_region ?_
  refine ok_as rfl rfl ?_
  refine ok_nil ?_
  refine rk_seq ?_
  refine rk_region ?_
  refine ok_mv rfl rfl ?_
  refine ok_mv rfl rfl ?_
  refine ok_v (.d (.int .i64 (w64 (p2 - p1)))) rfl rfl ?_
  refine ok_as rfl rfl ?_
  refine ok_nil ?_
  refine rk_seq ?_
  refine rk_seq ?_
  refine rk_region ?_
  refine ok_mv rfl rfl ?_
  refine ok_v (.d (.int .i64 (w64 ((w64 (p2 - p1)) - 1)))) rfl rfl ?_
  refine ok_v (.d (.int .i64 (w64 (Int.tdiv (w64 ((w64 (p2 - p1)) - 1)) 2)))) rfl rfl ?_
  refine ok_as rfl rfl ?_
  refine ok_nil ?_
  obtain ⟨m124, h125, h0⟩ := bindE h0
  refine rk_blockcut (fun b126 => b126 = m124) (fun (b126 : List span_end) => ⟨[(0, .hs 0 3 0 b126.length), (3, .d (.fn q1F q1C)), (8, .d (.int .i64 p1)), (9, .d (.int .i64 0)), (10, .d (.int .i64 (w64 (p2 - p1))))], [(0, .dat 3 (b126.map enc_span_end))], 1⟩) (by simp) ?_ ?_
  · refine rk_loopF (slices_heapSortCmpFunc_span_end_e1_L1 q1 p2 p1) (fun (a123 : Int × List span_end) => ⟨[(0, .hs 0 3 0 a123.2.length), (3, .d (.fn q1F q1C)), (8, .d (.int .i64 p1)), (9, .d (.int .i64 0)), (10, .d (.int .i64 (w64 (p2 - p1)))), (11, .d (.int .i64 a123.1))], [(0, .dat 3 (a123.2.map enc_span_end))], 1⟩) (w64 (Int.tdiv (w64 ((w64 (p2 - p1)) - 1)) 2), p0) m124 h125 (wkE [] [] [] rfl ⟨⟨_, rfl, .hs rfl (by decide) (ltd rfl)⟩, ⟨_, rfl, .d (.refl _)⟩, ⟨_, rfl, .d (.refl _)⟩, ⟨_, rfl, .d (.refl _)⟩, ⟨_, rfl, .d (.refl _)⟩, ⟨_, rfl, .d (.refl _)⟩, trivial⟩ ⟨⟨ltd rfl, .inr ⟨by decide, _, rfl, .dat _ _⟩⟩, trivial⟩) ?_
    intro a123 y121 h122
    unfold slices_heapSortCmpFunc_span_end_e1_L1 at h122
    refine rk_seq ?_
    refine rk_seq ?_
    refine rk_region ?_
    refine ok_mv rfl rfl ?_
    refine ok_v (.d (.bool (decide (a123.1 ≥ 0)))) rfl rfl ?_
    refine ok_nil ?_
    refine rk_condH rfl h122 (fun _ h122 => ?_) (fun _ h122 => ?_)
    · refine rk_skip ?_
      refine rk_seq ?_
      refine rk_block ?_
      refine rk_region ?_
      refine ok_mv rfl rfl ?_
      refine ok_mv rfl rfl ?_
      refine ok_mv rfl rfl ?_
      refine ok_mv rfl rfl ?_
      refine ok_mv rfl rfl ?_
      obtain ⟨e132, h133, h122⟩ := bindE h122
      obtain ⟨u134, h135, h122⟩ := bindE h122
      have h136 := lenEq_some h135
      refine ok_callF [(0, 0)] [(0, 0)] [.hs 0 3 0 a123.2.length, .d (.int .i64 a123.1), .d (.int .i64 (w64 (p2 - p1))), .d (.int .i64 p1), .d (.fn q1F q1C)] (.d (.tup [])) [(0, .dat 3 (e132.map enc_span_end))] [(0, .dat 3 (e132.map enc_span_end))] 1 (slices_siftDownCmpFunc_span_end_e1_eff q1 q1F q1C q1Ok a123.2 a123.1 (w64 (p2 - p1)) p1 e132 h133) rfl rfl rfl (wk_mk [(0, 0)] [] [] rfl ⟨⟨_, rfl, .hs rfl (by decide) (ltd rfl)⟩, ⟨_, rfl, .d (.refl _)⟩, ⟨_, rfl, .d (.refl _)⟩, ⟨_, rfl, .d (.refl _)⟩, ⟨_, rfl, .d (.refl _)⟩, trivial⟩ ⟨⟨ltd rfl, .inr ⟨by decide, _, rfl, .dat _ _⟩⟩, trivial⟩) (wk_mk [(0, 0)] [] [] rfl ⟨⟨_, rfl, .d (.refl _)⟩, trivial⟩ ⟨⟨ltd rfl, .inr ⟨by decide, _, rfl, .dat _ _⟩⟩, trivial⟩) rfl ⟨.inl rfl, trivial⟩ ?_
      refine ok_nil ?_
      refine rk_nil ?_
      refine blk_nor ?_
      refine rk_region ?_
      refine ok_mv rfl rfl ?_
      refine ok_v (.d (.int .i64 (w64 (a123.1 - 1)))) rfl rfl ?_
      refine ok_as rfl rfl ?_
      refine ok_nil ?_
      refine rk_nil ?_
      exact ⟨_, (Option.some.inj h122).symm, wkE [] [] [] rfl ⟨⟨_, rfl, wv_hsL (by simp [h136]) rfl (by decide) (ltd rfl)⟩, ⟨_, rfl, .d (.refl _)⟩, ⟨_, rfl, .d (.refl _)⟩, ⟨_, rfl, .d (.refl _)⟩, ⟨_, rfl, .d (.refl _)⟩, ⟨_, rfl, .d (.refl _)⟩, trivial⟩ ⟨⟨ltd rfl, .inr ⟨by decide, _, rfl, .dat _ _⟩⟩, trivial⟩⟩
    · refine rk_exit ?_
      refine ⟨_, (Option.some.inj h122).symm, fun hm => ?_⟩
      subst hm
      exact ⟨_, rfl, wkE [] [] [] rfl ⟨⟨_, rfl, .hs rfl (by decide) (ltd rfl)⟩, ⟨_, rfl, .d (.refl _)⟩, ⟨_, rfl, .d (.refl _)⟩, ⟨_, rfl, .d (.refl _)⟩, ⟨_, rfl, .d (.refl _)⟩, trivial⟩ ⟨⟨ltd rfl, .inr ⟨by decide, _, rfl, .dat _ _⟩⟩, trivial⟩⟩
  · intro b126 hb
    subst hb
    refine rk_seq ?_
    refine rk_region ?_
    refine ok_mv rfl rfl ?_
    refine ok_v (.d (.int .i64 (w64 ((w64 (p2 - p1)) - 1)))) rfl rfl ?_
    refine ok_as rfl rfl ?_
    refine ok_nil ?_
    obtain ⟨m192, h193, h0⟩ := bindE h0
    refine rk_block ?_
    refine rk_loopF (slices_heapSortCmpFunc_span_end_e1_L2 p1 q1) (fun (a191 : Int × List span_end) => ⟨[(0, .hs 0 3 0 a191.2.length), (3, .d (.fn q1F q1C)), (8, .d (.int .i64 p1)), (9, .d (.int .i64 0)), (12, .d (.int .i64 a191.1))], [(0, .dat 3 (a191.2.map enc_span_end))], 1⟩) (w64 ((w64 (p2 - p1)) - 1), b126) m192 h193 (wkE [] [] [] rfl ⟨⟨_, rfl, .hs rfl (by decide) (ltd rfl)⟩, ⟨_, rfl, .d (.refl _)⟩, ⟨_, rfl, .d (.refl _)⟩, ⟨_, rfl, .d (.refl _)⟩, ⟨_, rfl, .d (.refl _)⟩, trivial⟩ ⟨⟨ltd rfl, .inr ⟨by decide, _, rfl, .dat _ _⟩⟩, trivial⟩) ?_
    intro a191 y189 h190
    unfold slices_heapSortCmpFunc_span_end_e1_L2 at h190
    refine rk_seq ?_
    refine rk_seq ?_
    refine rk_region ?_
    refine ok_mv rfl rfl ?_
    refine ok_v (.d (.bool (decide (a191.1 ≥ 0)))) rfl rfl ?_
    refine ok_nil ?_
    refine rk_condH rfl h190 (fun _ h190 => ?_) (fun _ h190 => ?_)
    · refine rk_skip ?_
      refine rk_seq ?_
      refine rk_block ?_
      refine rk_seq ?_
      refine rk_regionD (by kernel_rfl) ?_
      refine ok_mv rfl rfl ?_
      refine ok_mv rfl rfl ?_
      refine ok_mv rfl rfl ?_
      refine ok_mv rfl rfl ?_
      refine ok_mv rfl rfl ?_
      refine ok_v (.d (.int .i64 (w64 (p1 + a191.1)))) rfl rfl ?_
      refine ok_mv rfl rfl ?_
      refine ok_mv rfl rfl ?_
      refine ok_mv rfl rfl ?_
      refine ok_v (.d (.int .i64 (w64 (p1 + a191.1)))) rfl rfl ?_
      obtain ⟨v208, h209, h190⟩ := bindE h190
      refine ok_ih h209 rfl rfl rfl rfl rfl rfl rfl ?_
      refine ok_lh (.d (.agg [.int .i64 v208.at_, .int .i64 v208.list_, .int .i64 v208.by_])) h209 rfl rfl rfl rfl rfl rfl ?_
      refine ok_mv rfl rfl ?_
      refine ok_mv rfl rfl ?_
      obtain ⟨v210, h211, h190⟩ := bindE h190
      refine ok_ih h211 rfl rfl rfl rfl rfl rfl rfl ?_
      refine ok_lh (.d (.agg [.int .i64 v210.at_, .int .i64 v210.list_, .int .i64 v210.by_])) h211 rfl rfl rfl rfl rfl rfl ?_
      obtain ⟨v212, h213, h190⟩ := bindE h190
      refine ok_ih h213 rfl rfl rfl rfl rfl rfl rfl ?_
      refine ok_sh (ds := [.int .i64 v208.at_, .int .i64 v208.list_, .int .i64 v208.by_]) v208 h213 rfl rfl rfl rfl rfl rfl rfl rfl (leb rfl) rfl ?_
      obtain ⟨v214, h215, h190⟩ := bindE h190
      refine ok_ih h215 (by simp) rfl rfl rfl rfl rfl rfl ?_
      refine ok_sh (ds := [.int .i64 v210.at_, .int .i64 v210.list_, .int .i64 v210.by_]) v210 h215 rfl rfl rfl rfl rfl rfl rfl rfl (leb rfl) rfl ?_
      refine ok_nil ?_
      refine rk_region ?_
      refine ok_mv rfl rfl ?_
      refine ok_mv rfl rfl ?_
      refine ok_mv rfl rfl ?_
      refine ok_mv rfl rfl ?_
      refine ok_mv rfl rfl ?_
      obtain ⟨e216, h217, h190⟩ := bindE h190
      obtain ⟨u218, h219, h190⟩ := bindE h190
      have h220 := lenEq_some h219
      refine ok_callF [(0, 0)] [(0, 0)] [.hs 0 3 0 a191.2.length, .d (.int .i64 0), .d (.int .i64 a191.1), .d (.int .i64 p1), .d (.fn q1F q1C)] (.d (.tup [])) [(0, .dat 3 (e216.map enc_span_end))] [(0, .dat 3 (e216.map enc_span_end))] 1 (slices_siftDownCmpFunc_span_end_e1_eff q1 q1F q1C q1Ok ((a191.2.set p1.toNat v208).set (w64 (p1 + a191.1)).toNat v210) 0 a191.1 p1 e216 h217) rfl rfl rfl (wk_mk [(0, 0)] [] [] rfl ⟨⟨_, rfl, wv_hsL (by simp) rfl (by decide) (ltd rfl)⟩, ⟨_, rfl, .d (.refl _)⟩, ⟨_, rfl, .d (.refl _)⟩, ⟨_, rfl, .d (.refl _)⟩, ⟨_, rfl, .d (.refl _)⟩, trivial⟩ ⟨⟨ltd rfl, .inr ⟨by decide, _, rfl, .dat _ _⟩⟩, trivial⟩) (wk_mk [(0, 0)] [] [] rfl ⟨⟨_, rfl, .d (.refl _)⟩, trivial⟩ ⟨⟨ltd rfl, .inr ⟨by decide, _, rfl, .dat _ _⟩⟩, trivial⟩) rfl ⟨.inl rfl, trivial⟩ ?_
      refine ok_nil ?_
      refine rk_nil ?_
      refine blk_nor ?_
      refine rk_region ?_
      refine ok_mv rfl rfl ?_
      refine ok_v (.d (.int .i64 (w64 (a191.1 - 1)))) rfl rfl ?_
      refine ok_as rfl rfl ?_
      refine ok_nil ?_
      refine rk_nil ?_
      exact ⟨_, (Option.some.inj h190).symm, wkE [] [] [] rfl ⟨⟨_, rfl, wv_hsL (by simp [h220]) rfl (by decide) (ltd rfl)⟩, ⟨_, rfl, .d (.refl _)⟩, ⟨_, rfl, .d (.refl _)⟩, ⟨_, rfl, .d (.refl _)⟩, ⟨_, rfl, .d (.refl _)⟩, trivial⟩ ⟨⟨ltd rfl, .inr ⟨by decide, _, rfl, .dat _ _⟩⟩, trivial⟩⟩
    · refine rk_exit ?_
      refine ⟨_, (Option.some.inj h190).symm, fun hm => ?_⟩
      subst hm
      obtain rfl := someE h0
      exact ⟨.inl rfl, _, rfl, wkE [] [] [] rfl ⟨⟨_, rfl, .d (.refl _)⟩, trivial⟩ ⟨⟨ltd rfl, .inr ⟨by decide, _, rfl, .dat _ _⟩⟩, trivial⟩⟩

theorem slices_nextPowerOfTwo_ok (p0 : Int) (r : Int) (h0 : slices_nextPowerOfTwo p0 = some r) : Pure Try.prog tab 70 [.int .i64 p0] (.int .u64 r) := by
  unfold slices_nextPowerOfTwo at h0
  refine pure_of_run Try.func70 rfl (by kernel_rfl) (by kernel_rfl) rfl ?_
  refine rk_seq ?_
  refine rk_region ?_
  refine ok_as rfl rfl ?_
  refine ok_nil ?_
  refine rk_seq ?_
  refine rk_region ?_
  refine ok_mv rfl rfl ?_
  refine ok_v (.d (.int .u64 (IntKind.wrap .u64 p0))) rfl rfl ?_
  obtain ⟨r1, h2, h0⟩ := bindE h0
  refine ok_pc [.d (.int .u64 (IntKind.wrap .u64 p0))] (math_bits_Len_ok (IntKind.wrap .u64 p0) r1 h2) rfl rfl rfl (.inl rfl) ?_
  obtain ⟨q3, h4, h0⟩ := bindE h0
  refine ok_shlK h4 rfl rfl rfl ?_
  refine ok_as rfl rfl ?_
  refine ok_nil ?_
  refine rk_ret ?_
  obtain rfl := someE h0
  exact finD (.inr rfl) (v := .d (.int .u64 q3)) rfl rfl (.refl _)

theorem slices_xorshift_Next_e1_eff (p0 : Int) (r : Int) (h0 : slices_xorshift_Next_e1  p0 = some r) : EvCall Try.prog tab 71 [.ref 0 1 0 0] [(0, .dat 1 [[.int .u64 p0]])] 1 (.d (.int .u64 r)) [(0, .dat 1 [[.int .u64 r]])] 1 := by
  unfold slices_xorshift_Next_e1 at h0
  refine eff_of_run Try.func71 rfl (by kernel_rfl) (by kernel_rfl) rfl ?_
  refine rk_seq ?_
  refine rk_region ?_
  refine ok_as rfl rfl ?_
  refine ok_nil ?_
  refine rk_seq ?_
  refine rk_regionD (by kernel_rfl) ?_
  refine ok_mv rfl rfl ?_
  refine ok_v (.ref 0 1 0 0) rfl rfl ?_
  refine ok_v (.d (.int .u64 p0)) rfl rfl ?_
  refine ok_mv rfl rfl ?_
  refine ok_v (.ref 0 1 0 0) rfl rfl ?_
  refine ok_v (.d (.int .u64 p0)) rfl rfl ?_
  refine ok_v (.d (.int .u64 (IntKind.wrap .u64 (p0 * (2 ^ 13))))) rfl rfl ?_
  refine ok_v (.d (.int .u64 (xorI .u64 p0 (IntKind.wrap .u64 (p0 * (2 ^ 13)))))) rfl rfl ?_
  refine ok_v (.ref 0 1 0 0) rfl rfl ?_
  refine ok_sto 0 (.dat 1 [[.int .u64 (xorI .u64 p0 (IntKind.wrap .u64 (p0 * (2 ^ 13))))]]) rfl rfl ?_
  refine ok_nil ?_
  refine rk_seq ?_
  refine rk_regionD (by kernel_rfl) ?_
  refine ok_mv rfl rfl ?_
  refine ok_v (.ref 0 1 0 0) rfl rfl ?_
  refine ok_v (.d (.int .u64 (xorI .u64 p0 (IntKind.wrap .u64 (p0 * (2 ^ 13)))))) rfl rfl ?_
  refine ok_mv rfl rfl ?_
  refine ok_v (.ref 0 1 0 0) rfl rfl ?_
  refine ok_v (.d (.int .u64 (xorI .u64 p0 (IntKind.wrap .u64 (p0 * (2 ^ 13)))))) rfl rfl ?_
  refine ok_v (.d (.int .u64 (Int.fdiv (xorI .u64 p0 (IntKind.wrap .u64 (p0 * (2 ^ 13)))) (2 ^ 7)))) rfl rfl ?_
  refine ok_v (.d (.int .u64 (xorI .u64 (xorI .u64 p0 (IntKind.wrap .u64 (p0 * (2 ^ 13)))) (Int.fdiv (xorI .u64 p0 (IntKind.wrap .u64 (p0 * (2 ^ 13)))) (2 ^ 7))))) rfl rfl ?_
  refine ok_v (.ref 0 1 0 0) rfl rfl ?_
  refine ok_sto 0 (.dat 1 [[.int .u64 (xorI .u64 (xorI .u64 p0 (IntKind.wrap .u64 (p0 * (2 ^ 13)))) (Int.fdiv (xorI .u64 p0 (IntKind.wrap .u64 (p0 * (2 ^ 13)))) (2 ^ 7)))]]) rfl rfl ?_
  refine ok_nil ?_
  refine rk_seq ?_
  refine rk_regionD (by kernel_rfl) ?_
  refine ok_mv rfl rfl ?_
  refine ok_v (.ref 0 1 0 0) rfl rfl ?_
  refine ok_v (.d (.int .u64 (xorI .u64 (xorI .u64 p0 (IntKind.wrap .u64 (p0 * (2 ^ 13)))) (Int.fdiv (xorI .u64 p0 (IntKind.wrap .u64 (p0 * (2 ^ 13)))) (2 ^ 7))))) rfl rfl ?_
  refine ok_mv rfl rfl ?_
  refine ok_v (.ref 0 1 0 0) rfl rfl ?_
  refine ok_v (.d (.int .u64 (xorI .u64 (xorI .u64 p0 (IntKind.wrap .u64 (p0 * (2 ^ 13)))) (Int.fdiv (xorI .u64 p0 (IntKind.wrap .u64 (p0 * (2 ^ 13)))) (2 ^ 7))))) rfl rfl ?_
  refine ok_v (.d (.int .u64 (IntKind.wrap .u64 ((xorI .u64 (xorI .u64 p0 (IntKind.wrap .u64 (p0 * (2 ^ 13)))) (Int.fdiv (xorI .u64 p0 (IntKind.wrap .u64 (p0 * (2 ^ 13)))) (2 ^ 7))) * (2 ^ 17))))) rfl rfl ?_
  refine ok_v (.d (.int .u64 (xorI .u64 (xorI .u64 (xorI .u64 p0 (IntKind.wrap .u64 (p0 * (2 ^ 13)))) (Int.fdiv (xorI .u64 p0 (IntKind.wrap .u64 (p0 * (2 ^ 13)))) (2 ^ 7))) (IntKind.wrap .u64 ((xorI .u64 (xorI .u64 p0 (IntKind.wrap .u64 (p0 * (2 ^ 13)))) (Int.fdiv (xorI .u64 p0 (IntKind.wrap .u64 (p0 * (2 ^ 13)))) (2 ^ 7))) * (2 ^ 17)))))) rfl rfl ?_
  refine ok_v (.ref 0 1 0 0) rfl rfl ?_
  refine ok_sto 0 (.dat 1 [[.int .u64 (xorI .u64 (xorI .u64 (xorI .u64 p0 (IntKind.wrap .u64 (p0 * (2 ^ 13)))) (Int.fdiv (xorI .u64 p0 (IntKind.wrap .u64 (p0 * (2 ^ 13)))) (2 ^ 7))) (IntKind.wrap .u64 ((xorI .u64 (xorI .u64 p0 (IntKind.wrap .u64 (p0 * (2 ^ 13)))) (Int.fdiv (xorI .u64 p0 (IntKind.wrap .u64 (p0 * (2 ^ 13)))) (2 ^ 7))) * (2 ^ 17))))]]) rfl rfl ?_
  refine ok_nil ?_
  refine rk_seq ?_
  refine rk_region ?_
  refine ok_mv rfl rfl ?_
  refine ok_v (.ref 0 1 0 0) rfl rfl ?_
  refine ok_v (.d (.int .u64 (xorI .u64 (xorI .u64 (xorI .u64 p0 (IntKind.wrap .u64 (p0 * (2 ^ 13)))) (Int.fdiv (xorI .u64 p0 (IntKind.wrap .u64 (p0 * (2 ^ 13)))) (2 ^ 7))) (IntKind.wrap .u64 ((xorI .u64 (xorI .u64 p0 (IntKind.wrap .u64 (p0 * (2 ^ 13)))) (Int.fdiv (xorI .u64 p0 (IntKind.wrap .u64 (p0 * (2 ^ 13)))) (2 ^ 7))) * (2 ^ 17)))))) rfl rfl ?_
  refine ok_as rfl rfl ?_
  refine ok_nil ?_
  refine rk_ret ?_
  obtain rfl := someE h0
  exact ⟨.inr rfl, _, rfl, wkE [] [] [] rfl ⟨⟨_, rfl, .d (.refl _)⟩, trivial⟩ ⟨⟨ltd rfl, .inr ⟨by decide, _, rfl, .dat _ _⟩⟩, trivial⟩⟩

theorem slices_breakPatternsCmpFunc_span_end_e1_eff (q1 : span_end → span_end → Option Int) (q1F : FuncId) (q1C : List DV) (q1Ok : ∀ (x0 : span_end) (x1 : span_end) (r : Int), q1 x0 x1 = some r → Pure Try.prog tab q1F ([.agg [.int .i64 x0.at_, .int .i64 x0.list_, .int .i64 x0.by_], .agg [.int .i64 x1.at_, .int .i64 x1.list_, .int .i64 x1.by_]] ++ q1C) (.int .i64 r)) (p0 : List span_end) (p1 : Int) (p2 : Int) (r : List span_end) (h0 : slices_breakPatternsCmpFunc_span_end_e1 q1 p0 p1 p2 = some r) : EvCall Try.prog tab 61 [.hs 0 3 0 p0.length, .d (.int .i64 p1), .d (.int .i64 p2), .d (.fn q1F q1C)] [(0, .dat 3 (p0.map enc_span_end))] 1 (.d (.tup [])) [(0, .dat 3 (r.map enc_span_end))] 1 := by
  unfold slices_breakPatternsCmpFunc_span_end_e1 at h0
  refine eff_of_run Try.func61 rfl (by kernel_rfl) (by kernel_rfl) rfl ?_
  refine rk_seq ?_
  refine rk_region ?_
  refine ok_mv rfl rfl ?_
  refine ok_mv rfl rfl ?_
  refine ok_v (.d (.int .i64 (w64 (p2 - p1)))) rfl rfl ?_
  refine ok_as rfl rfl ?_
  refine ok_nil ?_
  refine rk_seq ?_
  refine rk_region ?_
  refine ok_mv rfl rfl ?_
  refine ok_v (.d (.bool (decide ((w64 (p2 - p1)) ≥ 8)))) rfl rfl ?_
  refine ok_nil ?_
  refine rk_condH rfl h0 (fun _ h0 => ?_) (fun _ h0 => ?_)
  · refine rk_seq ?_
    refine rk_region ?_
    refine ok_mv rfl rfl ?_
    refine ok_v (.d (.int .u64 (IntKind.wrap .u64 (w64 (p2 - p1))))) rfl rfl ?_
    refine ok_alloc rfl rfl ?_
    refine ok_sto 1 (.dat 1 [[.int .u64 (IntKind.wrap .u64 (w64 (p2 - p1)))]]) rfl rfl ?_
    refine ok_nil ?_
    refine rk_seq ?_
    refine rk_region ?_
    refine ok_mv rfl rfl ?_
    obtain ⟨r101, h102, h0⟩ := bindE h0
    refine ok_pc [.d (.int .i64 (w64 (p2 - p1)))] (slices_nextPowerOfTwo_ok (w64 (p2 - p1)) r101 h102) rfl rfl rfl (.inl rfl) ?_
    refine ok_as rfl rfl ?_
    refine ok_nil ?_
    refine rk_seq ?_
    refine rk_region ?_
    refine ok_mv rfl rfl ?_
    refine ok_mv rfl rfl ?_
    refine ok_v (.d (.int .i64 (w64 (Int.tdiv (w64 (p2 - p1)) 4)))) rfl rfl ?_
    refine ok_v (.d (.int .i64 (w64 ((w64 (Int.tdiv (w64 (p2 - p1)) 4)) * 2)))) rfl rfl ?_
    refine ok_v (.d (.int .i64 (w64 (p1 + (w64 ((w64 (Int.tdiv (w64 (p2 - p1)) 4)) * 2)))))) rfl rfl ?_
    refine ok_v (.d (.int .i64 (w64 ((w64 (p1 + (w64 ((w64 (Int.tdiv (w64 (p2 - p1)) 4)) * 2)))) - 1)))) rfl rfl ?_
    refine ok_as rfl rfl ?_
    refine ok_nil ?_
    obtain ⟨m154, h155, h0⟩ := bindE h0
    refine rk_block ?_
    refine rk_loopF (slices_breakPatternsCmpFunc_span_end_e1_L1 p1 p2 r101) (fun (a153 : Int × List span_end × Int) => ⟨[(0, .hs 0 3 0 a153.2.1.length), (1, .d (.int .i64 p1)), (8, .d (.int .i64 (w64 (p2 - p1)))), (9, .ref 1 1 0 0), (10, .d (.int .u64 r101)), (11, .d (.int .i64 a153.1))], [(0, .dat 3 (a153.2.1.map enc_span_end)), (1, .dat 1 [[.int .u64 a153.2.2]])], 2⟩) (w64 ((w64 (p1 + (w64 ((w64 (Int.tdiv (w64 (p2 - p1)) 4)) * 2)))) - 1), p0, IntKind.wrap .u64 (w64 (p2 - p1))) m154 h155 (wkE [(1, 1)] [] [] rfl ⟨⟨_, rfl, .hs rfl (by decide) (ltd rfl)⟩, ⟨_, rfl, .d (.refl _)⟩, ⟨_, rfl, .d (.refl _)⟩, ⟨_, rfl, .ref rfl (by decide) (ltd rfl)⟩, ⟨_, rfl, .d (.refl _)⟩, ⟨_, rfl, .d (.refl _)⟩, trivial⟩ ⟨⟨ltd rfl, .inr ⟨by decide, _, rfl, .dat _ _⟩⟩, ⟨ltd rfl, .inr ⟨by decide, _, rfl, .dat _ _⟩⟩, trivial⟩) ?_
    intro a153 y151 h152
    unfold slices_breakPatternsCmpFunc_span_end_e1_L1 at h152
    refine rk_seq ?_
    refine rk_seq ?_
    refine rk_region ?_
    refine ok_mv rfl rfl ?_
    refine ok_mv rfl rfl ?_
    refine ok_mv rfl rfl ?_
    refine ok_v (.d (.int .i64 (w64 (Int.tdiv (w64 (p2 - p1)) 4)))) rfl rfl ?_
    refine ok_v (.d (.int .i64 (w64 ((w64 (Int.tdiv (w64 (p2 - p1)) 4)) * 2)))) rfl rfl ?_
    refine ok_v (.d (.int .i64 (w64 (p1 + (w64 ((w64 (Int.tdiv (w64 (p2 - p1)) 4)) * 2)))))) rfl rfl ?_
    refine ok_v (.d (.int .i64 (w64 ((w64 (p1 + (w64 ((w64 (Int.tdiv (w64 (p2 - p1)) 4)) * 2)))) + 1)))) rfl rfl ?_
    refine ok_v (.d (.bool (decide (a153.1 ≤ (w64 ((w64 (p1 + (w64 ((w64 (Int.tdiv (w64 (p2 - p1)) 4)) * 2)))) + 1)))))) rfl rfl ?_
    refine ok_nil ?_
    refine rk_condH rfl h152 (fun _ h152 => ?_) (fun _ h152 => ?_)
    · refine rk_skip ?_
      refine rk_seq ?_
      refine rk_block ?_
      refine rk_seq ?_
      refine rk_region ?_
      obtain ⟨e168, h169, h152⟩ := bindE h152
      refine ok_callF [(0, 1)] [(0, 1), (1, 0)] [.ref 1 1 0 0] (.d (.int .u64 e168)) [(1, .dat 1 [[.int .u64 e168]])] [(1, .dat 1 [[.int .u64 e168]]), (0, .dat 3 (a153.2.1.map enc_span_end))] 2 (slices_xorshift_Next_e1_eff a153.2.2 e168 h169) rfl rfl rfl (wk_mk [(0, 1)] [] [] rfl ⟨⟨_, rfl, .ref rfl (by decide) (ltd rfl)⟩, trivial⟩ ⟨⟨ltd rfl, .inr ⟨by decide, _, rfl, .dat _ _⟩⟩, trivial⟩) (wk_mk [(0, 1), (1, 0)] [] [] rfl ⟨⟨_, rfl, .d (.refl _)⟩, trivial⟩ ⟨⟨ltd rfl, .inr ⟨by decide, _, rfl, .dat _ _⟩⟩, trivial⟩) rfl ⟨.inl rfl, .inr ⟨rfl, rfl⟩, trivial⟩ ?_
      refine ok_mv rfl rfl ?_
      refine ok_v (.d (.int .u64 (IntKind.wrap .u64 (r101 - 1)))) rfl rfl ?_
      refine ok_v (.d (.int .u64 (andI .u64 e168 (IntKind.wrap .u64 (r101 - 1))))) rfl rfl ?_
      refine ok_v (.d (.int .i64 (w64 (andI .u64 e168 (IntKind.wrap .u64 (r101 - 1)))))) rfl rfl ?_
      refine ok_as rfl rfl ?_
      refine ok_nil ?_
      refine rk_seq ?_
      refine rk_seq ?_
      refine rk_region ?_
      refine ok_mv rfl rfl ?_
      refine ok_mv rfl rfl ?_
      refine ok_v (.d (.bool (decide ((w64 (andI .u64 e168 (IntKind.wrap .u64 (r101 - 1)))) ≥ (w64 (p2 - p1)))))) rfl rfl ?_
      refine ok_nil ?_
      obtain ⟨m171, h170, h152⟩ := bindE h152
      refine rk_cut (fun b172 => b172 = m171) (fun (b172 : Int) => ⟨[(0, .hs 0 3 0 a153.2.1.length), (1, .d (.int .i64 p1)), (8, .d (.int .i64 (w64 (p2 - p1)))), (9, .ref 1 1 0 0), (10, .d (.int .u64 r101)), (11, .d (.int .i64 a153.1)), (12, .d (.int .i64 b172))], [(0, .dat 3 (a153.2.1.map enc_span_end)), (1, .dat 1 [[.int .u64 e168]])], 2⟩) (by simp) ?_ ?_
      · refine rk_condH rfl h170 (fun _ h170 => ?_) (fun _ h170 => ?_)
        · refine rk_region ?_
          refine ok_mv rfl rfl ?_
          refine ok_mv rfl rfl ?_
          refine ok_v (.d (.int .i64 (w64 ((w64 (andI .u64 e168 (IntKind.wrap .u64 (r101 - 1)))) - (w64 (p2 - p1)))))) rfl rfl ?_
          refine ok_as rfl rfl ?_
          refine ok_nil ?_
          refine rk_nil ?_
          obtain rfl := someE h170
          exact ⟨_, rfl, wkE [(1, 1)] [] [] rfl ⟨⟨_, rfl, .hs rfl (by decide) (ltd rfl)⟩, ⟨_, rfl, .d (.refl _)⟩, ⟨_, rfl, .d (.refl _)⟩, ⟨_, rfl, .ref rfl (by decide) (ltd rfl)⟩, ⟨_, rfl, .d (.refl _)⟩, ⟨_, rfl, .d (.refl _)⟩, ⟨_, rfl, .d (.refl _)⟩, trivial⟩ ⟨⟨ltd rfl, .inr ⟨by decide, _, rfl, .dat _ _⟩⟩, ⟨ltd rfl, .inr ⟨by decide, _, rfl, .dat _ _⟩⟩, trivial⟩⟩
        · refine rk_skip ?_
          refine rk_nil ?_
          obtain rfl := someE h170
          exact ⟨_, rfl, wkE [(1, 1)] [] [] rfl ⟨⟨_, rfl, .hs rfl (by decide) (ltd rfl)⟩, ⟨_, rfl, .d (.refl _)⟩, ⟨_, rfl, .d (.refl _)⟩, ⟨_, rfl, .ref rfl (by decide) (ltd rfl)⟩, ⟨_, rfl, .d (.refl _)⟩, ⟨_, rfl, .d (.refl _)⟩, ⟨_, rfl, .d (.refl _)⟩, trivial⟩ ⟨⟨ltd rfl, .inr ⟨by decide, _, rfl, .dat _ _⟩⟩, ⟨ltd rfl, .inr ⟨by decide, _, rfl, .dat _ _⟩⟩, trivial⟩⟩
      · intro b172 hb
        subst hb
        refine rk_regionD (by kernel_rfl) ?_
        refine ok_mv rfl rfl ?_
        refine ok_mv rfl rfl ?_
        refine ok_mv rfl rfl ?_
        refine ok_mv rfl rfl ?_
        refine ok_mv rfl rfl ?_
        refine ok_v (.d (.int .i64 (w64 (p1 + b172)))) rfl rfl ?_
        refine ok_mv rfl rfl ?_
        refine ok_mv rfl rfl ?_
        refine ok_mv rfl rfl ?_
        refine ok_v (.d (.int .i64 (w64 (p1 + b172)))) rfl rfl ?_
        obtain ⟨v173, h174, h152⟩ := bindE h152
        refine ok_ih h174 rfl rfl rfl rfl rfl rfl rfl ?_
        refine ok_lh (.d (.agg [.int .i64 v173.at_, .int .i64 v173.list_, .int .i64 v173.by_])) h174 rfl rfl rfl rfl rfl rfl ?_
        refine ok_mv rfl rfl ?_
        refine ok_mv rfl rfl ?_
        obtain ⟨v175, h176, h152⟩ := bindE h152
        refine ok_ih h176 rfl rfl rfl rfl rfl rfl rfl ?_
        refine ok_lh (.d (.agg [.int .i64 v175.at_, .int .i64 v175.list_, .int .i64 v175.by_])) h176 rfl rfl rfl rfl rfl rfl ?_
        obtain ⟨v177, h178, h152⟩ := bindE h152
        refine ok_ih h178 rfl rfl rfl rfl rfl rfl rfl ?_
        refine ok_sh (ds := [.int .i64 v173.at_, .int .i64 v173.list_, .int .i64 v173.by_]) v173 h178 rfl rfl rfl rfl rfl rfl rfl rfl (leb rfl) rfl ?_
        obtain ⟨v179, h180, h152⟩ := bindE h152
        refine ok_ih h180 (by simp) rfl rfl rfl rfl rfl rfl ?_
        refine ok_sh (ds := [.int .i64 v175.at_, .int .i64 v175.list_, .int .i64 v175.by_]) v175 h180 rfl rfl rfl rfl rfl rfl rfl rfl (leb rfl) rfl ?_
        refine ok_nil ?_
        refine rk_nil ?_
        refine blk_nor ?_
        refine rk_region ?_
        refine ok_mv rfl rfl ?_
        refine ok_v (.d (.int .i64 (w64 (a153.1 + 1)))) rfl rfl ?_
        refine ok_as rfl rfl ?_
        refine ok_nil ?_
        refine rk_nil ?_
        exact ⟨_, (Option.some.inj h152).symm, wkE [(1, 1)] [] [] rfl ⟨⟨_, rfl, wv_hsL (by simp) rfl (by decide) (ltd rfl)⟩, ⟨_, rfl, .d (.refl _)⟩, ⟨_, rfl, .d (.refl _)⟩, ⟨_, rfl, .ref rfl (by decide) (ltd rfl)⟩, ⟨_, rfl, .d (.refl _)⟩, ⟨_, rfl, .d (.refl _)⟩, trivial⟩ ⟨⟨ltd rfl, .inr ⟨by decide, _, rfl, .dat _ _⟩⟩, ⟨ltd rfl, .inr ⟨by decide, _, rfl, .dat _ _⟩⟩, trivial⟩⟩
    · refine rk_exit ?_
      refine ⟨_, (Option.some.inj h152).symm, fun hm => ?_⟩
      subst hm
      obtain rfl := someE h0
      exact ⟨.inl rfl, _, rfl, wkE [] [] [] rfl ⟨⟨_, rfl, .d (.refl _)⟩, trivial⟩ ⟨⟨ltd rfl, .inr ⟨by decide, _, rfl, .dat _ _⟩⟩, trivial⟩⟩
  · refine rk_skip ?_
    refine rk_nil ?_
    obtain rfl := someE h0
    exact ⟨.inl rfl, _, rfl, wkE [] [] [] rfl ⟨⟨_, rfl, .d (.refl _)⟩, trivial⟩ ⟨⟨ltd rfl, .inr ⟨by decide, _, rfl, .dat _ _⟩⟩, trivial⟩⟩

theorem slices_order2CmpFunc_span_end_e1_eff (q1 : span_end → span_end → Option Int) (q1F : FuncId) (q1C : List DV) (q1Ok : ∀ (x0 : span_end) (x1 : span_end) (r : Int), q1 x0 x1 = some r → Pure Try.prog tab q1F ([.agg [.int .i64 x0.at_, .int .i64 x0.list_, .int .i64 x0.by_], .agg [.int .i64 x1.at_, .int .i64 x1.list_, .int .i64 x1.by_]] ++ q1C) (.int .i64 r)) (p0 : List span_end) (p1 : Int) (p2 : Int) (p3 : Int) (r : Int × Int × Int) (h0 : slices_order2CmpFunc_span_end_e1 q1 p0 p1 p2 p3 = some r) : EvCall Try.prog tab 74 [.d (.sl 3 (p0.map enc_span_end)), .d (.int .i64 p1), .d (.int .i64 p2), .ref 0 1 0 0, .d (.fn q1F q1C)] [(0, .dat 1 [[.int .i64 p3]])] 1 (.d (.tup [.int .i64 r.1, .int .i64 r.2.1])) [(0, .dat 1 [[.int .i64 r.2.2]])] 1 := by
  unfold slices_order2CmpFunc_span_end_e1 at h0
  refine eff_of_run Try.func74 rfl (by kernel_rfl) (by kernel_rfl) rfl ?_
  refine rk_seq ?_
  refine rk_region ?_
  refine ok_as rfl rfl ?_
  refine ok_as rfl rfl ?_
  refine ok_nil ?_
  refine rk_seq ?_
  refine rk_seq ?_
  refine rk_regionD (by kernel_rfl) ?_
  refine ok_mv rfl rfl ?_
  refine ok_mv rfl rfl ?_
  refine ok_mv rfl rfl ?_
  obtain ⟨v101, h102, h0⟩ := bindE h0
  refine ok_ix (enc := enc_span_end) h102 rfl rfl rfl rfl rfl rfl ?_
  refine ok_v (.d (.agg [.int .i64 v101.at_, .int .i64 v101.list_, .int .i64 v101.by_])) rfl rfl ?_
  refine ok_mv rfl rfl ?_
  refine ok_mv rfl rfl ?_
  obtain ⟨v103, h104, h0⟩ := bindE h0
  refine ok_ix (enc := enc_span_end) h104 rfl rfl rfl rfl rfl rfl ?_
  refine ok_v (.d (.agg [.int .i64 v103.at_, .int .i64 v103.list_, .int .i64 v103.by_])) rfl rfl ?_
  obtain ⟨r105, h106, h0⟩ := bindE h0
  refine ok_pf [.d (.agg [.int .i64 v101.at_, .int .i64 v101.list_, .int .i64 v101.by_]), .d (.agg [.int .i64 v103.at_, .int .i64 v103.list_, .int .i64 v103.by_])] (q1Ok v101 v103 r105 h106) rfl rfl rfl (.inl rfl) ?_
  refine ok_v (.d (.bool (decide (r105 < 0)))) rfl rfl ?_
  refine ok_nil ?_
  refine rk_condH rfl h0 (fun _ h0 => ?_) (fun _ h0 => ?_)
  · refine rk_seq ?_
    refine rk_region ?_
    refine ok_mv rfl rfl ?_
    refine ok_v (.ref 0 1 0 0) rfl rfl ?_
    refine ok_v (.d (.int .i64 p3)) rfl rfl ?_
    refine ok_v (.d (.int .i64 (w64 (p3 + 1)))) rfl rfl ?_
    refine ok_v (.ref 0 1 0 0) rfl rfl ?_
    refine ok_sto 0 (.dat 1 [[.int .i64 (w64 (p3 + 1))]]) rfl rfl ?_
    refine ok_nil ?_
    refine rk_seq ?_
    refine rk_region ?_
    refine ok_mv rfl rfl ?_
    refine ok_mv rfl rfl ?_
    refine ok_as rfl rfl ?_
    refine ok_as rfl rfl ?_
    refine ok_nil ?_
    refine rk_ret ?_
    obtain rfl := someE h0
    exact ⟨.inr rfl, _, rfl, wkE [] [] [] rfl ⟨⟨_, rfl, .d (.refl _)⟩, trivial⟩ ⟨⟨ltd rfl, .inr ⟨by decide, _, rfl, .dat _ _⟩⟩, trivial⟩⟩
  · refine rk_skip ?_
    refine rk_seq ?_
    refine rk_region ?_
    refine ok_mv rfl rfl ?_
    refine ok_mv rfl rfl ?_
    refine ok_as rfl rfl ?_
    refine ok_as rfl rfl ?_
    refine ok_nil ?_
    refine rk_ret ?_
    obtain rfl := someE h0
    exact ⟨.inr rfl, _, rfl, wkE [] [] [] rfl ⟨⟨_, rfl, .d (.refl _)⟩, trivial⟩ ⟨⟨ltd rfl, .inr ⟨by decide, _, rfl, .dat _ _⟩⟩, trivial⟩⟩

theorem slices_medianCmpFunc_span_end_e1_eff (q1 : span_end → span_end → Option Int) (q1F : FuncId) (q1C : List DV) (q1Ok : ∀ (x0 : span_end) (x1 : span_end) (r : Int), q1 x0 x1 = some r → Pure Try.prog tab q1F ([.agg [.int .i64 x0.at_, .int .i64 x0.list_, .int .i64 x0.by_], .agg [.int .i64 x1.at_, .int .i64 x1.list_, .int .i64 x1.by_]] ++ q1C) (.int .i64 r)) (p0 : List span_end) (p1 : Int) (p2 : Int) (p3 : Int) (p4 : Int) (r : Int × Int) (h0 : slices_medianCmpFunc_span_end_e1 q1 p0 p1 p2 p3 p4 = some r) : EvCall Try.prog tab 73 [.d (.sl 3 (p0.map enc_span_end)), .d (.int .i64 p1), .d (.int .i64 p2), .d (.int .i64 p3), .ref 0 1 0 0, .d (.fn q1F q1C)] [(0, .dat 1 [[.int .i64 p4]])] 1 (.d (.int .i64 r.1)) [(0, .dat 1 [[.int .i64 r.2]])] 1 := by
  unfold slices_medianCmpFunc_span_end_e1 at h0
  refine eff_of_run Try.func73 rfl (by kernel_rfl) (by kernel_rfl) rfl ?_
  refine rk_seq ?_
  refine rk_region ?_
  refine ok_as rfl rfl ?_
  refine ok_nil ?_
  refine rk_seq ?_
  refine rk_region ?_
  refine ok_mv rfl rfl ?_
  refine ok_mv rfl rfl ?_
  refine ok_mv rfl rfl ?_
  refine ok_mv rfl rfl ?_
  refine ok_mv rfl rfl ?_
  obtain ⟨e101, h102, h0⟩ := bindE h0
  refine ok_callF [(0, 0)] [(0, 0)] [.d (.sl 3 (p0.map enc_span_end)), .d (.int .i64 p1), .d (.int .i64 p2), .ref 0 1 0 0, .d (.fn q1F q1C)] (.d (.tup [.int .i64 e101.1, .int .i64 e101.2.1])) [(0, .dat 1 [[.int .i64 e101.2.2]])] [(0, .dat 1 [[.int .i64 e101.2.2]])] 1 (slices_order2CmpFunc_span_end_e1_eff q1 q1F q1C q1Ok p0 p1 p2 p4 e101 h102) rfl rfl rfl (wk_mk [(0, 0)] [] [] rfl ⟨⟨_, rfl, .d (.refl _)⟩, ⟨_, rfl, .d (.refl _)⟩, ⟨_, rfl, .d (.refl _)⟩, ⟨_, rfl, .ref rfl (by decide) (ltd rfl)⟩, ⟨_, rfl, .d (.refl _)⟩, trivial⟩ ⟨⟨ltd rfl, .inr ⟨by decide, _, rfl, .dat _ _⟩⟩, trivial⟩) (wk_mk [(0, 0)] [] [] rfl ⟨⟨_, rfl, .d (.refl _)⟩, trivial⟩ ⟨⟨ltd rfl, .inr ⟨by decide, _, rfl, .dat _ _⟩⟩, trivial⟩) rfl ⟨.inl rfl, trivial⟩ ?_
  refine ok_mv rfl rfl ?_
  refine ok_v (.d (.int .i64 e101.1)) rfl rfl ?_
  refine ok_v (.d (.int .i64 e101.2.1)) rfl rfl ?_
  refine ok_as rfl rfl ?_
  refine ok_as rfl rfl ?_
  refine ok_nil ?_
  refine rk_seq ?_
  refine rk_region ?_
  refine ok_mv rfl rfl ?_
  refine ok_mv rfl rfl ?_
  refine ok_mv rfl rfl ?_
  refine ok_mv rfl rfl ?_
  refine ok_mv rfl rfl ?_
  obtain ⟨e103, h104, h0⟩ := bindE h0
  refine ok_callF [(0, 0)] [(0, 0)] [.d (.sl 3 (p0.map enc_span_end)), .d (.int .i64 e101.2.1), .d (.int .i64 p3), .ref 0 1 0 0, .d (.fn q1F q1C)] (.d (.tup [.int .i64 e103.1, .int .i64 e103.2.1])) [(0, .dat 1 [[.int .i64 e103.2.2]])] [(0, .dat 1 [[.int .i64 e103.2.2]])] 1 (slices_order2CmpFunc_span_end_e1_eff q1 q1F q1C q1Ok p0 e101.2.1 p3 e101.2.2 e103 h104) rfl rfl rfl (wk_mk [(0, 0)] [] [] rfl ⟨⟨_, rfl, .d (.refl _)⟩, ⟨_, rfl, .d (.refl _)⟩, ⟨_, rfl, .d (.refl _)⟩, ⟨_, rfl, .ref rfl (by decide) (ltd rfl)⟩, ⟨_, rfl, .d (.refl _)⟩, trivial⟩ ⟨⟨ltd rfl, .inr ⟨by decide, _, rfl, .dat _ _⟩⟩, trivial⟩) (wk_mk [(0, 0)] [] [] rfl ⟨⟨_, rfl, .d (.refl _)⟩, trivial⟩ ⟨⟨ltd rfl, .inr ⟨by decide, _, rfl, .dat _ _⟩⟩, trivial⟩) rfl ⟨.inl rfl, trivial⟩ ?_
  refine ok_mv rfl rfl ?_
  refine ok_v (.d (.int .i64 e103.1)) rfl rfl ?_
  refine ok_v (.d (.int .i64 e103.2.1)) rfl rfl ?_
  refine ok_as rfl rfl ?_
  refine ok_as rfl rfl ?_
  refine ok_nil ?_
  refine rk_seq ?_
  refine rk_region ?_
  refine ok_mv rfl rfl ?_
  refine ok_mv rfl rfl ?_
  refine ok_mv rfl rfl ?_
  refine ok_mv rfl rfl ?_
  refine ok_mv rfl rfl ?_
  obtain ⟨e105, h106, h0⟩ := bindE h0
  refine ok_callF [(0, 0)] [(0, 0)] [.d (.sl 3 (p0.map enc_span_end)), .d (.int .i64 e101.1), .d (.int .i64 e103.1), .ref 0 1 0 0, .d (.fn q1F q1C)] (.d (.tup [.int .i64 e105.1, .int .i64 e105.2.1])) [(0, .dat 1 [[.int .i64 e105.2.2]])] [(0, .dat 1 [[.int .i64 e105.2.2]])] 1 (slices_order2CmpFunc_span_end_e1_eff q1 q1F q1C q1Ok p0 e101.1 e103.1 e103.2.2 e105 h106) rfl rfl rfl (wk_mk [(0, 0)] [] [] rfl ⟨⟨_, rfl, .d (.refl _)⟩, ⟨_, rfl, .d (.refl _)⟩, ⟨_, rfl, .d (.refl _)⟩, ⟨_, rfl, .ref rfl (by decide) (ltd rfl)⟩, ⟨_, rfl, .d (.refl _)⟩, trivial⟩ ⟨⟨ltd rfl, .inr ⟨by decide, _, rfl, .dat _ _⟩⟩, trivial⟩) (wk_mk [(0, 0)] [] [] rfl ⟨⟨_, rfl, .d (.refl _)⟩, trivial⟩ ⟨⟨ltd rfl, .inr ⟨by decide, _, rfl, .dat _ _⟩⟩, trivial⟩) rfl ⟨.inl rfl, trivial⟩ ?_
  refine ok_mv rfl rfl ?_
  refine ok_v (.d (.int .i64 e105.1)) rfl rfl ?_
  refine ok_v (.d (.int .i64 e105.2.1)) rfl rfl ?_
  refine ok_as rfl rfl ?_
  refine ok_as rfl rfl ?_
  refine ok_nil ?_
  refine rk_seq ?_
  refine rk_region ?_
  refine ok_mv rfl rfl ?_
  refine ok_as rfl rfl ?_
  refine ok_nil ?_
  refine rk_ret ?_
  obtain rfl := someE h0
  exact ⟨.inr rfl, _, rfl, wkE [] [] [] rfl ⟨⟨_, rfl, .d (.refl _)⟩, trivial⟩ ⟨⟨ltd rfl, .inr ⟨by decide, _, rfl, .dat _ _⟩⟩, trivial⟩⟩

theorem slices_medianAdjacentCmpFunc_span_end_e1_eff (q1 : span_end → span_end → Option Int) (q1F : FuncId) (q1C : List DV) (q1Ok : ∀ (x0 : span_end) (x1 : span_end) (r : Int), q1 x0 x1 = some r → Pure Try.prog tab q1F ([.agg [.int .i64 x0.at_, .int .i64 x0.list_, .int .i64 x0.by_], .agg [.int .i64 x1.at_, .int .i64 x1.list_, .int .i64 x1.by_]] ++ q1C) (.int .i64 r)) (p0 : List span_end) (p1 : Int) (p2 : Int) (r : Int × Int) (h0 : slices_medianAdjacentCmpFunc_span_end_e1 q1 p0 p1 p2 = some r) : EvCall Try.prog tab 72 [.d (.sl 3 (p0.map enc_span_end)), .d (.int .i64 p1), .ref 0 1 0 0, .d (.fn q1F q1C)] [(0, .dat 1 [[.int .i64 p2]])] 1 (.d (.int .i64 r.1)) [(0, .dat 1 [[.int .i64 r.2]])] 1 := by
  unfold slices_medianAdjacentCmpFunc_span_end_e1 at h0
  refine eff_of_run Try.func72 rfl (by kernel_rfl) (by kernel_rfl) rfl ?_
  refine rk_seq ?_
  refine rk_region ?_
  refine ok_as rfl rfl ?_
  refine ok_nil ?_
  refine rk_seq ?_
  refine rk_region ?_
  refine ok_mv rfl rfl ?_
  refine ok_mv rfl rfl ?_
  refine ok_v (.d (.int .i64 (w64 (p1 - 1)))) rfl rfl ?_
  refine ok_mv rfl rfl ?_
  refine ok_mv rfl rfl ?_
  refine ok_v (.d (.int .i64 (w64 (p1 + 1)))) rfl rfl ?_
  refine ok_mv rfl rfl ?_
  refine ok_mv rfl rfl ?_
  obtain ⟨e101, h102, h0⟩ := bindE h0
  refine ok_callF [(0, 0)] [(0, 0)] [.d (.sl 3 (p0.map enc_span_end)), .d (.int .i64 (w64 (p1 - 1))), .d (.int .i64 p1), .d (.int .i64 (w64 (p1 + 1))), .ref 0 1 0 0, .d (.fn q1F q1C)] (.d (.int .i64 e101.1)) [(0, .dat 1 [[.int .i64 e101.2]])] [(0, .dat 1 [[.int .i64 e101.2]])] 1 (slices_medianCmpFunc_span_end_e1_eff q1 q1F q1C q1Ok p0 (w64 (p1 - 1)) p1 (w64 (p1 + 1)) p2 e101 h102) rfl rfl rfl (wk_mk [(0, 0)] [] [] rfl ⟨⟨_, rfl, .d (.refl _)⟩, ⟨_, rfl, .d (.refl _)⟩, ⟨_, rfl, .d (.refl _)⟩, ⟨_, rfl, .d (.refl _)⟩, ⟨_, rfl, .ref rfl (by decide) (ltd rfl)⟩, ⟨_, rfl, .d (.refl _)⟩, trivial⟩ ⟨⟨ltd rfl, .inr ⟨by decide, _, rfl, .dat _ _⟩⟩, trivial⟩) (wk_mk [(0, 0)] [] [] rfl ⟨⟨_, rfl, .d (.refl _)⟩, trivial⟩ ⟨⟨ltd rfl, .inr ⟨by decide, _, rfl, .dat _ _⟩⟩, trivial⟩) rfl ⟨.inl rfl, trivial⟩ ?_
  refine ok_as rfl rfl ?_
  refine ok_nil ?_
  refine rk_ret ?_
  obtain rfl := someE h0
  exact ⟨.inr rfl, _, rfl, wkE [] [] [] rfl ⟨⟨_, rfl, .d (.refl _)⟩, trivial⟩ ⟨⟨ltd rfl, .inr ⟨by decide, _, rfl, .dat _ _⟩⟩, trivial⟩⟩

theorem slices_choosePivotCmpFunc_span_end_ok (p0 : List span_end) (p1 : Int) (p2 : Int) (p3 : span_end → span_end → Option Int) (p3F : FuncId) (p3C : List DV) (p3Ok : ∀ (x0 : span_end) (x1 : span_end) (r : Int), p3 x0 x1 = some r → Pure Try.prog tab p3F ([.agg [.int .i64 x0.at_, .int .i64 x0.list_, .int .i64 x0.by_], .agg [.int .i64 x1.at_, .int .i64 x1.list_, .int .i64 x1.by_]] ++ p3C) (.int .i64 r)) (r : Int × Int) (h0 : slices_choosePivotCmpFunc_span_end p0 p1 p2 p3 = some r) : Pure Try.prog tab 62 [.sl 3 (p0.map enc_span_end), .int .i64 p1, .int .i64 p2, .fn p3F p3C] (.tup [.int .i64 r.1, .int .i64 r.2]) := by
  unfold slices_choosePivotCmpFunc_span_end at h0
  refine pure_of_run Try.func62 rfl (by kernel_rfl) (by kernel_rfl) rfl ?_
  refine rk_seq ?_
  refine rk_region ?_
  refine ok_as rfl rfl ?_
  refine ok_as rfl rfl ?_
  refine ok_nil ?_
  refine rk_seq ?_
  refine rk_region ?_
  refine ok_mv rfl rfl ?_
  refine ok_mv rfl rfl ?_
  refine ok_v (.d (.int .i64 (w64 (p2 - p1)))) rfl rfl ?_
  refine ok_as rfl rfl ?_
  refine ok_nil ?_
  refine rk_seq ?_
  refine rk_region ?_
  refine ok_alloc rfl rfl ?_
  refine ok_nil ?_
  refine rk_seq ?_
  refine rk_region ?_
  refine ok_mv rfl rfl ?_
  refine ok_mv rfl rfl ?_
  refine ok_v (.d (.int .i64 (w64 (Int.tdiv (w64 (p2 - p1)) 4)))) rfl rfl ?_
  refine ok_v (.d (.int .i64 (w64 ((w64 (Int.tdiv (w64 (p2 - p1)) 4)) * 1)))) rfl rfl ?_
  refine ok_v (.d (.int .i64 (w64 (p1 + (w64 ((w64 (Int.tdiv (w64 (p2 - p1)) 4)) * 1)))))) rfl rfl ?_
  refine ok_as rfl rfl ?_
  refine ok_nil ?_
  refine rk_seq ?_
  refine rk_region ?_
  refine ok_mv rfl rfl ?_
  refine ok_mv rfl rfl ?_
  refine ok_v (.d (.int .i64 (w64 (Int.tdiv (w64 (p2 - p1)) 4)))) rfl rfl ?_
  refine ok_v (.d (.int .i64 (w64 ((w64 (Int.tdiv (w64 (p2 - p1)) 4)) * 2)))) rfl rfl ?_
  refine ok_v (.d (.int .i64 (w64 (p1 + (w64 ((w64 (Int.tdiv (w64 (p2 - p1)) 4)) * 2)))))) rfl rfl ?_
  refine ok_as rfl rfl ?_
  refine ok_nil ?_
  refine rk_seq ?_
  refine rk_region ?_
  refine ok_mv rfl rfl ?_
  refine ok_mv rfl rfl ?_
  refine ok_v (.d (.int .i64 (w64 (Int.tdiv (w64 (p2 - p1)) 4)))) rfl rfl ?_
  refine ok_v (.d (.int .i64 (w64 ((w64 (Int.tdiv (w64 (p2 - p1)) 4)) * 3)))) rfl rfl ?_
  refine ok_v (.d (.int .i64 (w64 (p1 + (w64 ((w64 (Int.tdiv (w64 (p2 - p1)) 4)) * 3)))))) rfl rfl ?_
  refine ok_as rfl rfl ?_
  refine ok_nil ?_
  refine rk_seq ?_
  refine rk_seq ?_
  refine rk_region ?_
  refine ok_mv rfl rfl ?_
  refine ok_v (.d (.bool (decide ((w64 (p2 - p1)) ≥ 8)))) rfl rfl ?_
  refine ok_nil ?_
  obtain ⟨m14, h13, h0⟩ := bindE h0
  refine rk_cut (fun b15 => b15 = m14) (fun (b15 : Int × Int) => ⟨[(11, .ref 0 1 0 0), (13, .d (.int .i64 b15.1))], [(0, .dat 1 [[.int .i64 b15.2]])], 1⟩) (by simp) ?_ ?_
  · refine rk_condH rfl h13 (fun _ h13 => ?_) (fun _ h13 => ?_)
    · refine rk_seq ?_
      refine rk_seq ?_
      refine rk_region ?_
      refine ok_mv rfl rfl ?_
      refine ok_v (.d (.bool (decide ((w64 (p2 - p1)) ≥ 50)))) rfl rfl ?_
      refine ok_nil ?_
      obtain ⟨m23, h22, h13⟩ := bindE h13
      refine rk_cut (fun b24 => b24 = m23) (fun (b24 : Int × Int × Int × Int) => ⟨[(0, .d (.sl 3 (p0.map enc_span_end))), (3, .d (.fn p3F p3C)), (11, .ref 0 1 0 0), (12, .d (.int .i64 b24.1)), (13, .d (.int .i64 b24.2.1)), (14, .d (.int .i64 b24.2.2.1))], [(0, .dat 1 [[.int .i64 b24.2.2.2]])], 1⟩) (by simp) ?_ ?_
      · refine rk_condH rfl h22 (fun _ h22 => ?_) (fun _ h22 => ?_)
        · refine rk_seq ?_
          refine rk_region ?_
          refine ok_mv rfl rfl ?_
          refine ok_mv rfl rfl ?_
          refine ok_mv rfl rfl ?_
          obtain ⟨e25, h26, h22⟩ := bindE h22
          refine ok_callF [(0, 0)] [(0, 0)] [.d (.sl 3 (p0.map enc_span_end)), .d (.int .i64 (w64 (p1 + (w64 ((w64 (Int.tdiv (w64 (p2 - p1)) 4)) * 1))))), .ref 0 1 0 0, .d (.fn p3F p3C)] (.d (.int .i64 e25.1)) [(0, .dat 1 [[.int .i64 e25.2]])] [(0, .dat 1 [[.int .i64 e25.2]])] 1 (slices_medianAdjacentCmpFunc_span_end_e1_eff p3 p3F p3C p3Ok p0 (w64 (p1 + (w64 ((w64 (Int.tdiv (w64 (p2 - p1)) 4)) * 1)))) 0 e25 h26) rfl rfl rfl (wk_mk [(0, 0)] [] [] rfl ⟨⟨_, rfl, .d (.refl _)⟩, ⟨_, rfl, .d (.refl _)⟩, ⟨_, rfl, .ref rfl (by decide) (ltd rfl)⟩, ⟨_, rfl, .d (.refl _)⟩, trivial⟩ ⟨⟨ltd rfl, .inr ⟨by decide, _, rfl, .dat _ _⟩⟩, trivial⟩) (wk_mk [(0, 0)] [] [] rfl ⟨⟨_, rfl, .d (.refl _)⟩, trivial⟩ ⟨⟨ltd rfl, .inr ⟨by decide, _, rfl, .dat _ _⟩⟩, trivial⟩) rfl ⟨.inl rfl, trivial⟩ ?_
          refine ok_as rfl rfl ?_
          refine ok_nil ?_
          refine rk_seq ?_
          refine rk_region ?_
          refine ok_mv rfl rfl ?_
          refine ok_mv rfl rfl ?_
          refine ok_mv rfl rfl ?_
          obtain ⟨e27, h28, h22⟩ := bindE h22
          refine ok_callF [(0, 0)] [(0, 0)] [.d (.sl 3 (p0.map enc_span_end)), .d (.int .i64 (w64 (p1 + (w64 ((w64 (Int.tdiv (w64 (p2 - p1)) 4)) * 2))))), .ref 0 1 0 0, .d (.fn p3F p3C)] (.d (.int .i64 e27.1)) [(0, .dat 1 [[.int .i64 e27.2]])] [(0, .dat 1 [[.int .i64 e27.2]])] 1 (slices_medianAdjacentCmpFunc_span_end_e1_eff p3 p3F p3C p3Ok p0 (w64 (p1 + (w64 ((w64 (Int.tdiv (w64 (p2 - p1)) 4)) * 2)))) e25.2 e27 h28) rfl rfl rfl (wk_mk [(0, 0)] [] [] rfl ⟨⟨_, rfl, .d (.refl _)⟩, ⟨_, rfl, .d (.refl _)⟩, ⟨_, rfl, .ref rfl (by decide) (ltd rfl)⟩, ⟨_, rfl, .d (.refl _)⟩, trivial⟩ ⟨⟨ltd rfl, .inr ⟨by decide, _, rfl, .dat _ _⟩⟩, trivial⟩) (wk_mk [(0, 0)] [] [] rfl ⟨⟨_, rfl, .d (.refl _)⟩, trivial⟩ ⟨⟨ltd rfl, .inr ⟨by decide, _, rfl, .dat _ _⟩⟩, trivial⟩) rfl ⟨.inl rfl, trivial⟩ ?_
          refine ok_as rfl rfl ?_
          refine ok_nil ?_
          refine rk_region ?_
          refine ok_mv rfl rfl ?_
          refine ok_mv rfl rfl ?_
          refine ok_mv rfl rfl ?_
          obtain ⟨e29, h30, h22⟩ := bindE h22
          refine ok_callF [(0, 0)] [(0, 0)] [.d (.sl 3 (p0.map enc_span_end)), .d (.int .i64 (w64 (p1 + (w64 ((w64 (Int.tdiv (w64 (p2 - p1)) 4)) * 3))))), .ref 0 1 0 0, .d (.fn p3F p3C)] (.d (.int .i64 e29.1)) [(0, .dat 1 [[.int .i64 e29.2]])] [(0, .dat 1 [[.int .i64 e29.2]])] 1 (slices_medianAdjacentCmpFunc_span_end_e1_eff p3 p3F p3C p3Ok p0 (w64 (p1 + (w64 ((w64 (Int.tdiv (w64 (p2 - p1)) 4)) * 3)))) e27.2 e29 h30) rfl rfl rfl (wk_mk [(0, 0)] [] [] rfl ⟨⟨_, rfl, .d (.refl _)⟩, ⟨_, rfl, .d (.refl _)⟩, ⟨_, rfl, .ref rfl (by decide) (ltd rfl)⟩, ⟨_, rfl, .d (.refl _)⟩, trivial⟩ ⟨⟨ltd rfl, .inr ⟨by decide, _, rfl, .dat _ _⟩⟩, trivial⟩) (wk_mk [(0, 0)] [] [] rfl ⟨⟨_, rfl, .d (.refl _)⟩, trivial⟩ ⟨⟨ltd rfl, .inr ⟨by decide, _, rfl, .dat _ _⟩⟩, trivial⟩) rfl ⟨.inl rfl, trivial⟩ ?_
          refine ok_as rfl rfl ?_
          refine ok_nil ?_
          refine rk_nil ?_
          obtain rfl := someE h22
          exact ⟨_, rfl, wkE [(0, 0)] [] [] rfl ⟨⟨_, rfl, .d (.refl _)⟩, ⟨_, rfl, .d (.refl _)⟩, ⟨_, rfl, .ref rfl (by decide) (ltd rfl)⟩, ⟨_, rfl, .d (.refl _)⟩, ⟨_, rfl, .d (.refl _)⟩, ⟨_, rfl, .d (.refl _)⟩, trivial⟩ ⟨⟨ltd rfl, .inr ⟨by decide, _, rfl, .dat _ _⟩⟩, trivial⟩⟩
        · refine rk_skip ?_
          refine rk_nil ?_
          obtain rfl := someE h22
          exact ⟨_, rfl, wkE [(0, 0)] [] [] rfl ⟨⟨_, rfl, .d (.refl _)⟩, ⟨_, rfl, .d (.refl _)⟩, ⟨_, rfl, .ref rfl (by decide) (ltd rfl)⟩, ⟨_, rfl, .d (.refl _)⟩, ⟨_, rfl, .d (.refl _)⟩, ⟨_, rfl, .d (.refl _)⟩, trivial⟩ ⟨⟨ltd rfl, .inr ⟨by decide, _, rfl, .dat _ _⟩⟩, trivial⟩⟩
      · intro b24 hb
        subst hb
        refine rk_region ?_
        refine ok_mv rfl rfl ?_
        refine ok_mv rfl rfl ?_
        refine ok_mv rfl rfl ?_
        refine ok_mv rfl rfl ?_
        refine ok_mv rfl rfl ?_
        obtain ⟨e31, h32, h13⟩ := bindE h13
        refine ok_callF [(0, 0)] [(0, 0)] [.d (.sl 3 (p0.map enc_span_end)), .d (.int .i64 b24.1), .d (.int .i64 b24.2.1), .d (.int .i64 b24.2.2.1), .ref 0 1 0 0, .d (.fn p3F p3C)] (.d (.int .i64 e31.1)) [(0, .dat 1 [[.int .i64 e31.2]])] [(0, .dat 1 [[.int .i64 e31.2]])] 1 (slices_medianCmpFunc_span_end_e1_eff p3 p3F p3C p3Ok p0 b24.1 b24.2.1 b24.2.2.1 b24.2.2.2 e31 h32) rfl rfl rfl (wk_mk [(0, 0)] [] [] rfl ⟨⟨_, rfl, .d (.refl _)⟩, ⟨_, rfl, .d (.refl _)⟩, ⟨_, rfl, .d (.refl _)⟩, ⟨_, rfl, .d (.refl _)⟩, ⟨_, rfl, .ref rfl (by decide) (ltd rfl)⟩, ⟨_, rfl, .d (.refl _)⟩, trivial⟩ ⟨⟨ltd rfl, .inr ⟨by decide, _, rfl, .dat _ _⟩⟩, trivial⟩) (wk_mk [(0, 0)] [] [] rfl ⟨⟨_, rfl, .d (.refl _)⟩, trivial⟩ ⟨⟨ltd rfl, .inr ⟨by decide, _, rfl, .dat _ _⟩⟩, trivial⟩) rfl ⟨.inl rfl, trivial⟩ ?_
        refine ok_as rfl rfl ?_
        refine ok_nil ?_
        refine rk_nil ?_
        obtain rfl := someE h13
        exact ⟨_, rfl, wkE [(0, 0)] [] [] rfl ⟨⟨_, rfl, .ref rfl (by decide) (ltd rfl)⟩, ⟨_, rfl, .d (.refl _)⟩, trivial⟩ ⟨⟨ltd rfl, .inr ⟨by decide, _, rfl, .dat _ _⟩⟩, trivial⟩⟩
    · refine rk_skip ?_
      refine rk_nil ?_
      obtain rfl := someE h13
      exact ⟨_, rfl, wkE [(0, 0)] [] [] rfl ⟨⟨_, rfl, .ref rfl (by decide) (ltd rfl)⟩, ⟨_, rfl, .d (.refl _)⟩, trivial⟩ ⟨⟨ltd rfl, .inr ⟨by decide, _, rfl, .dat _ _⟩⟩, trivial⟩⟩
  · intro b15 hb
    subst hb
    refine rk_seq ?_
    refine rk_region ?_
    refine ok_v (.d (.int .i64 b15.2)) rfl rfl ?_
    refine ok_nil ?_
    refine rk_block ?_
    refine rk_seq ?_
    refine rk_region ?_
    refine ok_v (.d (.bool (b15.2 == 0))) rfl rfl ?_
    refine ok_as rfl rfl ?_
    refine ok_nil ?_
    refine rk_condH rfl h0 (fun _ h0 => ?_) (fun _ h0 => ?_)
    · refine rk_seq ?_
      refine rk_region ?_
      refine ok_mv rfl rfl ?_
      refine ok_as rfl rfl ?_
      refine ok_as rfl rfl ?_
      refine ok_nil ?_
      refine rk_ret ?_
      obtain rfl := someE h0
      exact finD (.inr rfl) (v := .d (.tup [.int .i64 b15.1, .int .i64 1])) rfl rfl (.refl _)
    · refine rk_seq ?_
      refine rk_region ?_
      refine ok_v (.d (.bool (b15.2 == 12))) rfl rfl ?_
      refine ok_as rfl rfl ?_
      refine ok_nil ?_
      refine rk_condH rfl h0 (fun _ h0 => ?_) (fun _ h0 => ?_)
      · refine rk_seq ?_
        refine rk_region ?_
        refine ok_mv rfl rfl ?_
        refine ok_as rfl rfl ?_
        refine ok_as rfl rfl ?_
        refine ok_nil ?_
        refine rk_ret ?_
        obtain rfl := someE h0
        exact finD (.inr rfl) (v := .d (.tup [.int .i64 b15.1, .int .i64 2])) rfl rfl (.refl _)
      · refine rk_seq ?_
        refine rk_region ?_
        refine ok_mv rfl rfl ?_
        refine ok_as rfl rfl ?_
        refine ok_as rfl rfl ?_
        refine ok_nil ?_
        refine rk_ret ?_
        obtain rfl := someE h0
        exact finD (.inr rfl) (v := .d (.tup [.int .i64 b15.1, .int .i64 0])) rfl rfl (.refl _)

theorem slices_reverseRangeCmpFunc_span_end_e1_eff (q1 : span_end → span_end → Option Int) (q1F : FuncId) (q1C : List DV) (q1Ok : ∀ (x0 : span_end) (x1 : span_end) (r : Int), q1 x0 x1 = some r → Pure Try.prog tab q1F ([.agg [.int .i64 x0.at_, .int .i64 x0.list_, .int .i64 x0.by_], .agg [.int .i64 x1.at_, .int .i64 x1.list_, .int .i64 x1.by_]] ++ q1C) (.int .i64 r)) (p0 : List span_end) (p1 : Int) (p2 : Int) (r : List span_end) (h0 : slices_reverseRangeCmpFunc_span_end_e1 q1 p0 p1 p2 = some r) : EvCall Try.prog tab 63 [.hs 0 3 0 p0.length, .d (.int .i64 p1), .d (.int .i64 p2), .d (.fn q1F q1C)] [(0, .dat 3 (p0.map enc_span_end))] 1 (.d (.tup [])) [(0, .dat 3 (r.map enc_span_end))] 1 := by
  unfold slices_reverseRangeCmpFunc_span_end_e1 at h0
  refine eff_of_run Try.func63 rfl (by kernel_rfl) (by kernel_rfl) rfl ?_
  refine rk_seq ?_
  refine rk_region ?_
  refine ok_mv rfl rfl ?_
  refine ok_as rfl rfl ?_
  refine ok_nil ?_
  refine rk_seq ?_
  refine rk_region ?_
  refine ok_mv rfl rfl ?_
  refine ok_v (.d (.int .i64 (w64 (p2 - 1)))) rfl rfl ?_
  refine ok_as rfl rfl ?_
  refine ok_nil ?_
  obtain ⟨m120, h121, h0⟩ := bindE h0
  refine rk_block ?_
  refine rk_loopF (slices_reverseRangeCmpFunc_span_end_e1_L1) (fun (a119 : Int × Int × List span_end) => ⟨[(0, .hs 0 3 0 a119.2.2.length), (8, .d (.int .i64 a119.1)), (9, .d (.int .i64 a119.2.1))], [(0, .dat 3 (a119.2.2.map enc_span_end))], 1⟩) (p1, w64 (p2 - 1), p0) m120 h121 (wkE [] [] [] rfl ⟨⟨_, rfl, .hs rfl (by decide) (ltd rfl)⟩, ⟨_, rfl, .d (.refl _)⟩, ⟨_, rfl, .d (.refl _)⟩, trivial⟩ ⟨⟨ltd rfl, .inr ⟨by decide, _, rfl, .dat _ _⟩⟩, trivial⟩) ?_
  intro a119 y117 h118
  unfold slices_reverseRangeCmpFunc_span_end_e1_L1 at h118
  refine rk_seq ?_
  refine rk_seq ?_
  refine rk_region ?_
  refine ok_mv rfl rfl ?_
  refine ok_mv rfl rfl ?_
  refine ok_v (.d (.bool (decide (a119.1 < a119.2.1)))) rfl rfl ?_
  refine ok_nil ?_
  refine rk_condH rfl h118 (fun _ h118 => ?_) (fun _ h118 => ?_)
  · refine rk_skip ?_
    refine rk_block ?_
    refine rk_seq ?_
    refine rk_regionD (by kernel_rfl) ?_
    refine ok_mv rfl rfl ?_
    refine ok_mv rfl rfl ?_
    refine ok_mv rfl rfl ?_
    refine ok_mv rfl rfl ?_
    refine ok_mv rfl rfl ?_
    refine ok_mv rfl rfl ?_
    obtain ⟨v123, h124, h118⟩ := bindE h118
    refine ok_ih h124 rfl rfl rfl rfl rfl rfl rfl ?_
    refine ok_lh (.d (.agg [.int .i64 v123.at_, .int .i64 v123.list_, .int .i64 v123.by_])) h124 rfl rfl rfl rfl rfl rfl ?_
    refine ok_mv rfl rfl ?_
    refine ok_mv rfl rfl ?_
    obtain ⟨v125, h126, h118⟩ := bindE h118
    refine ok_ih h126 rfl rfl rfl rfl rfl rfl rfl ?_
    refine ok_lh (.d (.agg [.int .i64 v125.at_, .int .i64 v125.list_, .int .i64 v125.by_])) h126 rfl rfl rfl rfl rfl rfl ?_
    obtain ⟨v127, h128, h118⟩ := bindE h118
    refine ok_ih h128 rfl rfl rfl rfl rfl rfl rfl ?_
    refine ok_sh (ds := [.int .i64 v123.at_, .int .i64 v123.list_, .int .i64 v123.by_]) v123 h128 rfl rfl rfl rfl rfl rfl rfl rfl (leb rfl) rfl ?_
    obtain ⟨v129, h130, h118⟩ := bindE h118
    refine ok_ih h130 (by simp) rfl rfl rfl rfl rfl rfl ?_
    refine ok_sh (ds := [.int .i64 v125.at_, .int .i64 v125.list_, .int .i64 v125.by_]) v125 h130 rfl rfl rfl rfl rfl rfl rfl rfl (leb rfl) rfl ?_
    refine ok_nil ?_
    refine rk_seq ?_
    refine rk_region ?_
    refine ok_mv rfl rfl ?_
    refine ok_v (.d (.int .i64 (w64 (a119.1 + 1)))) rfl rfl ?_
    refine ok_as rfl rfl ?_
    refine ok_nil ?_
    refine rk_region ?_
    refine ok_mv rfl rfl ?_
    refine ok_v (.d (.int .i64 (w64 (a119.2.1 - 1)))) rfl rfl ?_
    refine ok_as rfl rfl ?_
    refine ok_nil ?_
    refine rk_nil ?_
    refine blk_nor ?_
    refine rk_nil ?_
    exact ⟨_, (Option.some.inj h118).symm, wkE [] [] [] rfl ⟨⟨_, rfl, wv_hsL (by simp) rfl (by decide) (ltd rfl)⟩, ⟨_, rfl, .d (.refl _)⟩, ⟨_, rfl, .d (.refl _)⟩, trivial⟩ ⟨⟨ltd rfl, .inr ⟨by decide, _, rfl, .dat _ _⟩⟩, trivial⟩⟩
  · refine rk_exit ?_
    refine ⟨_, (Option.some.inj h118).symm, fun hm => ?_⟩
    subst hm
    obtain rfl := someE h0
    exact ⟨.inl rfl, _, rfl, wkE [] [] [] rfl ⟨⟨_, rfl, .d (.refl _)⟩, trivial⟩ ⟨⟨ltd rfl, .inr ⟨by decide, _, rfl, .dat _ _⟩⟩, trivial⟩⟩

theorem slices_partialInsertionSortCmpFunc_span_end_e1_eff (q1 : span_end → span_end → Option Int) (q1F : FuncId) (q1C : List DV) (q1Ok : ∀ (x0 : span_end) (x1 : span_end) (r : Int), q1 x0 x1 = some r → Pure Try.prog tab q1F ([.agg [.int .i64 x0.at_, .int .i64 x0.list_, .int .i64 x0.by_], .agg [.int .i64 x1.at_, .int .i64 x1.list_, .int .i64 x1.by_]] ++ q1C) (.int .i64 r)) (p0 : List span_end) (p1 : Int) (p2 : Int) (r : Bool × List span_end) (h0 : slices_partialInsertionSortCmpFunc_span_end_e1 q1 p0 p1 p2 = some r) : EvCall Try.prog tab 64 [.hs 0 3 0 p0.length, .d (.int .i64 p1), .d (.int .i64 p2), .d (.fn q1F q1C)] [(0, .dat 3 (p0.map enc_span_end))] 1 (.d (.bool r.1)) [(0, .dat 3 (r.2.map enc_span_end))] 1 := by
  unfold slices_partialInsertionSortCmpFunc_span_end_e1 at h0
  refine eff_of_run Try.func64 rfl (by kernel_rfl) (by kernel_rfl) rfl ?_
  refine rk_seq ?_
  refine rk_region ?_
  refine ok_as rfl rfl ?_
  refine ok_nil ?_
  refine rk_seq ?_
  refine rk_region ?_
  refine ok_mv rfl rfl ?_
  refine ok_v (.d (.int .i64 (w64 (p1 + 1)))) rfl rfl ?_
  refine ok_as rfl rfl ?_
  refine ok_nil ?_
  refine rk_seq ?_
  refine rk_seq ?_
  refine rk_region ?_
  refine ok_as rfl rfl ?_
  refine ok_nil ?_
  obtain ⟨m439, h440, h0⟩ := bindE h0
  refine rk_blockcut (fun b441 => .inl b441 = m439) (fun (b441 : List span_end) => ⟨[], [(0, .dat 3 (b441.map enc_span_end))], 1⟩) (by simp) ?_ ?_
  · refine rk_loopF (slices_partialInsertionSortCmpFunc_span_end_e1_L1 p2 q1 p1) (fun (a438 : Int × Int × List span_end) => ⟨[(0, .hs 0 3 0 a438.2.2.length), (1, .d (.int .i64 p1)), (2, .d (.int .i64 p2)), (3, .d (.fn q1F q1C)), (9, .d (.int .i64 a438.1)), (10, .d (.int .i64 a438.2.1))], [(0, .dat 3 (a438.2.2.map enc_span_end))], 1⟩) (w64 (p1 + 1), 0, p0) m439 h440 (wkE [] [] [] rfl ⟨⟨_, rfl, .hs rfl (by decide) (ltd rfl)⟩, ⟨_, rfl, .d (.refl _)⟩, ⟨_, rfl, .d (.refl _)⟩, ⟨_, rfl, .d (.refl _)⟩, ⟨_, rfl, .d (.refl _)⟩, ⟨_, rfl, .d (.refl _)⟩, trivial⟩ ⟨⟨ltd rfl, .inr ⟨by decide, _, rfl, .dat _ _⟩⟩, trivial⟩) ?_
    intro a438 y436 h437
    unfold slices_partialInsertionSortCmpFunc_span_end_e1_L1 at h437
    refine rk_seq ?_
    refine rk_seq ?_
    refine rk_region ?_
    refine ok_mv rfl rfl ?_
    refine ok_v (.d (.bool (decide (a438.2.1 < 5)))) rfl rfl ?_
    refine ok_nil ?_
    refine rk_condH rfl h437 (fun _ h437 => ?_) (fun _ h437 => ?_)
    · refine rk_skip ?_
      refine rk_seq ?_
      obtain ⟨m621, h620, h437⟩ := bindE h437
      refine rk_blockcut (fun b622 => .inl b622 = m621) (fun (b622 : Int × List span_end) => ⟨[(0, .hs 0 3 0 b622.2.length), (1, .d (.int .i64 p1)), (2, .d (.int .i64 p2)), (3, .d (.fn q1F q1C)), (9, .d (.int .i64 b622.1)), (10, .d (.int .i64 a438.2.1))], [(0, .dat 3 (b622.2.map enc_span_end))], 1⟩) (by simp) ?_ ?_
      · refine rk_seq ?_
        obtain ⟨m682, h683, h620⟩ := bindE h620
        refine rk_blockcut (fun b684 => b684 = m682) (fun (b684 : Int) => ⟨[(0, .hs 0 3 0 a438.2.2.length), (1, .d (.int .i64 p1)), (2, .d (.int .i64 p2)), (3, .d (.fn q1F q1C)), (9, .d (.int .i64 b684)), (10, .d (.int .i64 a438.2.1))], [(0, .dat 3 (a438.2.2.map enc_span_end))], 1⟩) (by simp) ?_ ?_
        · refine rk_loopF (slices_partialInsertionSortCmpFunc_span_end_e1_L2 p2 a438 q1) (fun (a681 : Int) => ⟨[(0, .hs 0 3 0 a438.2.2.length), (1, .d (.int .i64 p1)), (2, .d (.int .i64 p2)), (3, .d (.fn q1F q1C)), (9, .d (.int .i64 a681)), (10, .d (.int .i64 a438.2.1))], [(0, .dat 3 (a438.2.2.map enc_span_end))], 1⟩) a438.1 m682 h683 (wkE [] [] [] rfl ⟨⟨_, rfl, .hs rfl (by decide) (ltd rfl)⟩, ⟨_, rfl, .d (.refl _)⟩, ⟨_, rfl, .d (.refl _)⟩, ⟨_, rfl, .d (.refl _)⟩, ⟨_, rfl, .d (.refl _)⟩, ⟨_, rfl, .d (.refl _)⟩, trivial⟩ ⟨⟨ltd rfl, .inr ⟨by decide, _, rfl, .dat _ _⟩⟩, trivial⟩) ?_
          intro a681 y679 h680
          unfold slices_partialInsertionSortCmpFunc_span_end_e1_L2 at h680
          refine rk_seq ?_
          refine rk_seq ?_
          refine rk_regionD (by kernel_rfl) ?_
          refine ok_mv rfl rfl ?_
          refine ok_mv rfl rfl ?_
          refine ok_v (.d (.bool (decide (a681 < p2)))) rfl rfl ?_
          obtain ⟨c691, h692, h680⟩ := bindE h680
          refine ok_cutQ 15 (fun A st => ∃ (j693 j694 j695 j696 j697 j698 j699 j700 j701 j702 j703 j704 j705 j706 : V), st = A [(36, .d (.bool c691)), (35, j706), (34, j705), (33, j704), (32, j703), (31, j702), (30, j701), (29, j700), (28, j699), (27, j698), (26, j697), (25, j696), (24, j695), (23, j694), (22, j693)]) ?_ ?_
          · refine ok_mvB rfl rfl h692 (fun h692 => ?_) (fun h692 => ?_)
            · refine ok_mv rfl rfl ?_
              refine ok_mv rfl rfl ?_
              refine ok_mv rfl rfl ?_
              obtain ⟨v707, h708, h692⟩ := bindE h692
              refine ok_ih h708 rfl rfl rfl rfl rfl rfl rfl ?_
              refine ok_lh (.d (.agg [.int .i64 v707.at_, .int .i64 v707.list_, .int .i64 v707.by_])) h708 rfl rfl rfl rfl rfl rfl ?_
              refine ok_mv rfl rfl ?_
              refine ok_mv rfl rfl ?_
              refine ok_v (.d (.int .i64 (w64 (a681 - 1)))) rfl rfl ?_
              obtain ⟨v709, h710, h692⟩ := bindE h692
              refine ok_ih h710 rfl rfl rfl rfl rfl rfl rfl ?_
              refine ok_lh (.d (.agg [.int .i64 v709.at_, .int .i64 v709.list_, .int .i64 v709.by_])) h710 rfl rfl rfl rfl rfl rfl ?_
              obtain ⟨r711, h712, h692⟩ := bindE h692
              refine ok_pf [.d (.agg [.int .i64 v707.at_, .int .i64 v707.list_, .int .i64 v707.by_]), .d (.agg [.int .i64 v709.at_, .int .i64 v709.list_, .int .i64 v709.by_])] (q1Ok v707 v709 r711 h712) rfl rfl rfl (.inl rfl) ?_
              refine ok_v (.d (.bool (decide (r711 < 0)))) rfl rfl ?_
              refine ok_v (.d (.bool (!(decide (r711 < 0))))) rfl rfl ?_
              refine ok_v (.d (.bool (!(decide (r711 < 0))))) rfl rfl ?_
              refine ok_nil ?_
              obtain rfl := someE h692
              exact ⟨_, _, _, _, _, _, _, _, _, _, _, _, _, _, rfl⟩
            · refine ok_sg rfl ?_
              refine ok_sg rfl ?_
              refine ok_sg rfl ?_
              refine ok_sg rfl ?_
              refine ok_sg rfl ?_
              refine ok_sg rfl ?_
              refine ok_sg rfl ?_
              refine ok_sg rfl ?_
              refine ok_sg rfl ?_
              refine ok_sg rfl ?_
              refine ok_sg rfl ?_
              refine ok_sg rfl ?_
              refine ok_sg rfl ?_
              refine ok_v (.d (.bool false)) rfl rfl ?_
              refine ok_nil ?_
              obtain rfl := someE h692
              exact ⟨_, _, _, _, _, _, _, _, _, _, _, _, _, _, rfl⟩
          · rintro _ ⟨j693, j694, j695, j696, j697, j698, j699, j700, j701, j702, j703, j704, j705, j706, rfl⟩
            refine ok_nil ?_
            refine rk_condH rfl h680 (fun _ h680 => ?_) (fun _ h680 => ?_)
            · refine rk_skip ?_
              refine rk_block ?_
              refine rk_region ?_
              refine ok_mv rfl rfl ?_
              refine ok_v (.d (.int .i64 (w64 (a681 + 1)))) rfl rfl ?_
              refine ok_as rfl rfl ?_
              refine ok_nil ?_
              refine rk_nil ?_
              refine blk_nor ?_
              refine rk_nil ?_
              exact ⟨_, (Option.some.inj h680).symm, wkE [] [] [] rfl ⟨⟨_, rfl, .hs rfl (by decide) (ltd rfl)⟩, ⟨_, rfl, .d (.refl _)⟩, ⟨_, rfl, .d (.refl _)⟩, ⟨_, rfl, .d (.refl _)⟩, ⟨_, rfl, .d (.refl _)⟩, ⟨_, rfl, .d (.refl _)⟩, trivial⟩ ⟨⟨ltd rfl, .inr ⟨by decide, _, rfl, .dat _ _⟩⟩, trivial⟩⟩
            · refine rk_exit ?_
              refine ⟨_, (Option.some.inj h680).symm, fun hm => ?_⟩
              subst hm
              exact ⟨_, rfl, wkE [] [] [] rfl ⟨⟨_, rfl, .hs rfl (by decide) (ltd rfl)⟩, ⟨_, rfl, .d (.refl _)⟩, ⟨_, rfl, .d (.refl _)⟩, ⟨_, rfl, .d (.refl _)⟩, ⟨_, rfl, .d (.refl _)⟩, ⟨_, rfl, .d (.refl _)⟩, trivial⟩ ⟨⟨ltd rfl, .inr ⟨by decide, _, rfl, .dat _ _⟩⟩, trivial⟩⟩
        · intro b684 hb
          subst hb
          refine rk_seq ?_
          refine rk_seq ?_
          refine rk_region ?_
          refine ok_mv rfl rfl ?_
          refine ok_mv rfl rfl ?_
          refine ok_v (.d (.bool (b684 == p2))) rfl rfl ?_
          refine ok_nil ?_
          refine rk_condH rfl h620 (fun _ h620 => ?_) (fun _ h620 => ?_)
          · refine rk_seq ?_
            refine rk_region ?_
            refine ok_as rfl rfl ?_
            refine ok_nil ?_
            refine rk_ret ?_
            obtain rfl := someE h620
            refine ⟨_, (Option.some.inj h437).symm, fun hm => ?_⟩
            subst hm
            obtain rfl := someE h0
            exact ⟨.inr rfl, _, rfl, wkE [] [] [] rfl ⟨⟨_, rfl, .d (.refl _)⟩, trivial⟩ ⟨⟨ltd rfl, .inr ⟨by decide, _, rfl, .dat _ _⟩⟩, trivial⟩⟩
          · refine rk_skip ?_
            refine rk_seq ?_
            refine rk_seq ?_
            refine rk_region ?_
            refine ok_mv rfl rfl ?_
            refine ok_mv rfl rfl ?_
            refine ok_v (.d (.int .i64 (w64 (p2 - p1)))) rfl rfl ?_
            refine ok_v (.d (.bool (decide ((w64 (p2 - p1)) < 50)))) rfl rfl ?_
            refine ok_nil ?_
            refine rk_condH rfl h620 (fun _ h620 => ?_) (fun _ h620 => ?_)
            · refine rk_seq ?_
              refine rk_region ?_
              refine ok_as rfl rfl ?_
              refine ok_nil ?_
              refine rk_ret ?_
              obtain rfl := someE h620
              refine ⟨_, (Option.some.inj h437).symm, fun hm => ?_⟩
              subst hm
              obtain rfl := someE h0
              exact ⟨.inr rfl, _, rfl, wkE [] [] [] rfl ⟨⟨_, rfl, .d (.refl _)⟩, trivial⟩ ⟨⟨ltd rfl, .inr ⟨by decide, _, rfl, .dat _ _⟩⟩, trivial⟩⟩
            · refine rk_skip ?_
              refine rk_seq ?_
              refine rk_regionD (by kernel_rfl) ?_
              refine ok_mv rfl rfl ?_
              refine ok_mv rfl rfl ?_
              refine ok_mv rfl rfl ?_
              refine ok_mv rfl rfl ?_
              refine ok_v (.d (.int .i64 (w64 (b684 - 1)))) rfl rfl ?_
              refine ok_mv rfl rfl ?_
              refine ok_mv rfl rfl ?_
              refine ok_v (.d (.int .i64 (w64 (b684 - 1)))) rfl rfl ?_
              obtain ⟨v713, h714, h620⟩ := bindE h620
              refine ok_ih h714 rfl rfl rfl rfl rfl rfl rfl ?_
              refine ok_lh (.d (.agg [.int .i64 v713.at_, .int .i64 v713.list_, .int .i64 v713.by_])) h714 rfl rfl rfl rfl rfl rfl ?_
              refine ok_mv rfl rfl ?_
              refine ok_mv rfl rfl ?_
              obtain ⟨v715, h716, h620⟩ := bindE h620
              refine ok_ih h716 rfl rfl rfl rfl rfl rfl rfl ?_
              refine ok_lh (.d (.agg [.int .i64 v715.at_, .int .i64 v715.list_, .int .i64 v715.by_])) h716 rfl rfl rfl rfl rfl rfl ?_
              obtain ⟨v717, h718, h620⟩ := bindE h620
              refine ok_ih h718 rfl rfl rfl rfl rfl rfl rfl ?_
              refine ok_sh (ds := [.int .i64 v713.at_, .int .i64 v713.list_, .int .i64 v713.by_]) v713 h718 rfl rfl rfl rfl rfl rfl rfl rfl (leb rfl) rfl ?_
              obtain ⟨v719, h720, h620⟩ := bindE h620
              refine ok_ih h720 (by simp) rfl rfl rfl rfl rfl rfl ?_
              refine ok_sh (ds := [.int .i64 v715.at_, .int .i64 v715.list_, .int .i64 v715.by_]) v715 h720 rfl rfl rfl rfl rfl rfl rfl rfl (leb rfl) rfl ?_
              refine ok_nil ?_
              refine rk_seq ?_
              refine rk_seq ?_
              refine rk_region ?_
              refine ok_mv rfl rfl ?_
              refine ok_mv rfl rfl ?_
              refine ok_v (.d (.int .i64 (w64 (b684 - p1)))) rfl rfl ?_
              refine ok_v (.d (.bool (decide ((w64 (b684 - p1)) ≥ 2)))) rfl rfl ?_
              refine ok_nil ?_
              obtain ⟨m778, h777, h620⟩ := bindE h620
              refine rk_cut (fun b779 => b779 = m778) (fun (b779 : List span_end) => ⟨[(0, .hs 0 3 0 b779.length), (1, .d (.int .i64 p1)), (2, .d (.int .i64 p2)), (3, .d (.fn q1F q1C)), (9, .d (.int .i64 b684)), (10, .d (.int .i64 a438.2.1))], [(0, .dat 3 (b779.map enc_span_end))], 1⟩) (by simp) ?_ ?_
              · refine rk_condH rfl h777 (fun _ h777 => ?_) (fun _ h777 => ?_)
                · refine rk_seq ?_
                  refine rk_region ?_
                  refine ok_mv rfl rfl ?_
                  refine ok_v (.d (.int .i64 (w64 (b684 - 1)))) rfl rfl ?_
                  refine ok_as rfl rfl ?_
                  refine ok_nil ?_
                  obtain ⟨m839, h840, h777⟩ := bindE h777
                  refine rk_block ?_
                  refine rk_loopF (slices_partialInsertionSortCmpFunc_span_end_e1_L3 q1) (fun (a838 : Int × List span_end) => ⟨[(0, .hs 0 3 0 a838.2.length), (1, .d (.int .i64 p1)), (2, .d (.int .i64 p2)), (3, .d (.fn q1F q1C)), (9, .d (.int .i64 b684)), (10, .d (.int .i64 a438.2.1)), (11, .d (.int .i64 a838.1))], [(0, .dat 3 (a838.2.map enc_span_end))], 1⟩) (w64 (b684 - 1), (a438.2.2.set b684.toNat v713).set (w64 (b684 - 1)).toNat v715) m839 h840 (wkE [] [] [] rfl ⟨⟨_, rfl, wv_hsL (by simp) rfl (by decide) (ltd rfl)⟩, ⟨_, rfl, .d (.refl _)⟩, ⟨_, rfl, .d (.refl _)⟩, ⟨_, rfl, .d (.refl _)⟩, ⟨_, rfl, .d (.refl _)⟩, ⟨_, rfl, .d (.refl _)⟩, ⟨_, rfl, .d (.refl _)⟩, trivial⟩ ⟨⟨ltd rfl, .inr ⟨by decide, _, rfl, .dat _ _⟩⟩, trivial⟩) ?_
                  intro a838 y836 h837
                  unfold slices_partialInsertionSortCmpFunc_span_end_e1_L3 at h837
                  refine rk_seq ?_
                  refine rk_seq ?_
                  refine rk_region ?_
                  refine ok_mv rfl rfl ?_
                  refine ok_v (.d (.bool (decide (a838.1 ≥ 1)))) rfl rfl ?_
                  refine ok_nil ?_
                  refine rk_condH rfl h837 (fun _ h837 => ?_) (fun _ h837 => ?_)
                  · refine rk_skip ?_
                    refine rk_seq ?_
                    refine rk_block ?_
                    refine rk_seq ?_
                    refine rk_seq ?_
                    refine rk_regionD (by kernel_rfl) ?_
                    refine ok_mv rfl rfl ?_
                    refine ok_mv rfl rfl ?_
                    refine ok_mv rfl rfl ?_
                    obtain ⟨v856, h857, h837⟩ := bindE h837
                    refine ok_ih h857 rfl rfl rfl rfl rfl rfl rfl ?_
                    refine ok_lh (.d (.agg [.int .i64 v856.at_, .int .i64 v856.list_, .int .i64 v856.by_])) h857 rfl rfl rfl rfl rfl rfl ?_
                    refine ok_mv rfl rfl ?_
                    refine ok_mv rfl rfl ?_
                    refine ok_v (.d (.int .i64 (w64 (a838.1 - 1)))) rfl rfl ?_
                    obtain ⟨v858, h859, h837⟩ := bindE h837
                    refine ok_ih h859 rfl rfl rfl rfl rfl rfl rfl ?_
                    refine ok_lh (.d (.agg [.int .i64 v858.at_, .int .i64 v858.list_, .int .i64 v858.by_])) h859 rfl rfl rfl rfl rfl rfl ?_
                    obtain ⟨r860, h861, h837⟩ := bindE h837
                    refine ok_pf [.d (.agg [.int .i64 v856.at_, .int .i64 v856.list_, .int .i64 v856.by_]), .d (.agg [.int .i64 v858.at_, .int .i64 v858.list_, .int .i64 v858.by_])] (q1Ok v856 v858 r860 h861) rfl rfl rfl (.inl rfl) ?_
                    refine ok_v (.d (.bool (decide (r860 < 0)))) rfl rfl ?_
                    refine ok_v (.d (.bool (!(decide (r860 < 0))))) rfl rfl ?_
                    refine ok_nil ?_
                    refine rk_condH rfl h837 (fun _ h837 => ?_) (fun _ h837 => ?_)
                    · refine rk_exit ?_
                      refine ⟨_, (Option.some.inj h837).symm, fun hm => ?_⟩
                      subst hm
                      obtain rfl := someE h777
                      exact ⟨_, rfl, wkE [] [] [] rfl ⟨⟨_, rfl, .hs rfl (by decide) (ltd rfl)⟩, ⟨_, rfl, .d (.refl _)⟩, ⟨_, rfl, .d (.refl _)⟩, ⟨_, rfl, .d (.refl _)⟩, ⟨_, rfl, .d (.refl _)⟩, ⟨_, rfl, .d (.refl _)⟩, trivial⟩ ⟨⟨ltd rfl, .inr ⟨by decide, _, rfl, .dat _ _⟩⟩, trivial⟩⟩
                    · refine rk_skip ?_
                      refine rk_regionD (by kernel_rfl) ?_
                      refine ok_mv rfl rfl ?_
                      refine ok_mv rfl rfl ?_
                      refine ok_mv rfl rfl ?_
                      refine ok_mv rfl rfl ?_
                      refine ok_v (.d (.int .i64 (w64 (a838.1 - 1)))) rfl rfl ?_
                      refine ok_mv rfl rfl ?_
                      refine ok_mv rfl rfl ?_
                      refine ok_v (.d (.int .i64 (w64 (a838.1 - 1)))) rfl rfl ?_
                      obtain ⟨v862, h863, h837⟩ := bindE h837
                      refine ok_ih h863 rfl rfl rfl rfl rfl rfl rfl ?_
                      refine ok_lh (.d (.agg [.int .i64 v862.at_, .int .i64 v862.list_, .int .i64 v862.by_])) h863 rfl rfl rfl rfl rfl rfl ?_
                      refine ok_mv rfl rfl ?_
                      refine ok_mv rfl rfl ?_
                      obtain ⟨v864, h865, h837⟩ := bindE h837
                      refine ok_ih h865 rfl rfl rfl rfl rfl rfl rfl ?_
                      refine ok_lh (.d (.agg [.int .i64 v864.at_, .int .i64 v864.list_, .int .i64 v864.by_])) h865 rfl rfl rfl rfl rfl rfl ?_
                      obtain ⟨v866, h867, h837⟩ := bindE h837
                      refine ok_ih h867 rfl rfl rfl rfl rfl rfl rfl ?_
                      refine ok_sh (ds := [.int .i64 v862.at_, .int .i64 v862.list_, .int .i64 v862.by_]) v862 h867 rfl rfl rfl rfl rfl rfl rfl rfl (leb rfl) rfl ?_
                      obtain ⟨v868, h869, h837⟩ := bindE h837
                      refine ok_ih h869 (by simp) rfl rfl rfl rfl rfl rfl ?_
                      refine ok_sh (ds := [.int .i64 v864.at_, .int .i64 v864.list_, .int .i64 v864.by_]) v864 h869 rfl rfl rfl rfl rfl rfl rfl rfl (leb rfl) rfl ?_
                      refine ok_nil ?_
                      refine rk_nil ?_
                      refine blk_nor ?_
                      refine rk_region ?_
                      refine ok_mv rfl rfl ?_
                      refine ok_v (.d (.int .i64 (w64 (a838.1 - 1)))) rfl rfl ?_
                      refine ok_as rfl rfl ?_
                      refine ok_nil ?_
                      refine rk_nil ?_
                      exact ⟨_, (Option.some.inj h837).symm, wkE [] [] [] rfl ⟨⟨_, rfl, wv_hsL (by simp) rfl (by decide) (ltd rfl)⟩, ⟨_, rfl, .d (.refl _)⟩, ⟨_, rfl, .d (.refl _)⟩, ⟨_, rfl, .d (.refl _)⟩, ⟨_, rfl, .d (.refl _)⟩, ⟨_, rfl, .d (.refl _)⟩, ⟨_, rfl, .d (.refl _)⟩, trivial⟩ ⟨⟨ltd rfl, .inr ⟨by decide, _, rfl, .dat _ _⟩⟩, trivial⟩⟩
                  · refine rk_exit ?_
                    refine ⟨_, (Option.some.inj h837).symm, fun hm => ?_⟩
                    subst hm
                    obtain rfl := someE h777
                    exact ⟨_, rfl, wkE [] [] [] rfl ⟨⟨_, rfl, .hs rfl (by decide) (ltd rfl)⟩, ⟨_, rfl, .d (.refl _)⟩, ⟨_, rfl, .d (.refl _)⟩, ⟨_, rfl, .d (.refl _)⟩, ⟨_, rfl, .d (.refl _)⟩, ⟨_, rfl, .d (.refl _)⟩, trivial⟩ ⟨⟨ltd rfl, .inr ⟨by decide, _, rfl, .dat _ _⟩⟩, trivial⟩⟩
                · refine rk_skip ?_
                  refine rk_nil ?_
                  obtain rfl := someE h777
                  exact ⟨_, rfl, wkE [] [] [] rfl ⟨⟨_, rfl, wv_hsL (by simp) rfl (by decide) (ltd rfl)⟩, ⟨_, rfl, .d (.refl _)⟩, ⟨_, rfl, .d (.refl _)⟩, ⟨_, rfl, .d (.refl _)⟩, ⟨_, rfl, .d (.refl _)⟩, ⟨_, rfl, .d (.refl _)⟩, trivial⟩ ⟨⟨ltd rfl, .inr ⟨by decide, _, rfl, .dat _ _⟩⟩, trivial⟩⟩
              · intro b779 hb
                subst hb
                refine rk_seq ?_
                refine rk_region ?_
                refine ok_mv rfl rfl ?_
                refine ok_mv rfl rfl ?_
                refine ok_v (.d (.int .i64 (w64 (p2 - b684)))) rfl rfl ?_
                refine ok_v (.d (.bool (decide ((w64 (p2 - b684)) ≥ 2)))) rfl rfl ?_
                refine ok_nil ?_
                refine rk_condH rfl h620 (fun _ h620 => ?_) (fun _ h620 => ?_)
                · refine rk_seq ?_
                  refine rk_region ?_
                  refine ok_mv rfl rfl ?_
                  refine ok_v (.d (.int .i64 (w64 (b684 + 1)))) rfl rfl ?_
                  refine ok_as rfl rfl ?_
                  refine ok_nil ?_
                  obtain ⟨m929, h930, h620⟩ := bindE h620
                  refine rk_block ?_
                  refine rk_loopF (slices_partialInsertionSortCmpFunc_span_end_e1_L4 p2 q1 b684) (fun (a928 : Int × List span_end) => ⟨[(0, .hs 0 3 0 a928.2.length), (1, .d (.int .i64 p1)), (2, .d (.int .i64 p2)), (3, .d (.fn q1F q1C)), (9, .d (.int .i64 b684)), (10, .d (.int .i64 a438.2.1)), (12, .d (.int .i64 a928.1))], [(0, .dat 3 (a928.2.map enc_span_end))], 1⟩) (w64 (b684 + 1), b779) m929 h930 (wkE [] [] [] rfl ⟨⟨_, rfl, .hs rfl (by decide) (ltd rfl)⟩, ⟨_, rfl, .d (.refl _)⟩, ⟨_, rfl, .d (.refl _)⟩, ⟨_, rfl, .d (.refl _)⟩, ⟨_, rfl, .d (.refl _)⟩, ⟨_, rfl, .d (.refl _)⟩, ⟨_, rfl, .d (.refl _)⟩, trivial⟩ ⟨⟨ltd rfl, .inr ⟨by decide, _, rfl, .dat _ _⟩⟩, trivial⟩) ?_
                  intro a928 y926 h927
                  unfold slices_partialInsertionSortCmpFunc_span_end_e1_L4 at h927
                  refine rk_seq ?_
                  refine rk_seq ?_
                  refine rk_region ?_
                  refine ok_mv rfl rfl ?_
                  refine ok_mv rfl rfl ?_
                  refine ok_v (.d (.bool (decide (a928.1 < p2)))) rfl rfl ?_
                  refine ok_nil ?_
                  refine rk_condH rfl h927 (fun _ h927 => ?_) (fun _ h927 => ?_)
                  · refine rk_skip ?_
                    refine rk_seq ?_
                    refine rk_block ?_
                    refine rk_seq ?_
                    refine rk_seq ?_
                    refine rk_regionD (by kernel_rfl) ?_
                    refine ok_mv rfl rfl ?_
                    refine ok_mv rfl rfl ?_
                    refine ok_mv rfl rfl ?_
                    obtain ⟨v946, h947, h927⟩ := bindE h927
                    refine ok_ih h947 rfl rfl rfl rfl rfl rfl rfl ?_
                    refine ok_lh (.d (.agg [.int .i64 v946.at_, .int .i64 v946.list_, .int .i64 v946.by_])) h947 rfl rfl rfl rfl rfl rfl ?_
                    refine ok_mv rfl rfl ?_
                    refine ok_mv rfl rfl ?_
                    refine ok_v (.d (.int .i64 (w64 (a928.1 - 1)))) rfl rfl ?_
                    obtain ⟨v948, h949, h927⟩ := bindE h927
                    refine ok_ih h949 rfl rfl rfl rfl rfl rfl rfl ?_
                    refine ok_lh (.d (.agg [.int .i64 v948.at_, .int .i64 v948.list_, .int .i64 v948.by_])) h949 rfl rfl rfl rfl rfl rfl ?_
                    obtain ⟨r950, h951, h927⟩ := bindE h927
                    refine ok_pf [.d (.agg [.int .i64 v946.at_, .int .i64 v946.list_, .int .i64 v946.by_]), .d (.agg [.int .i64 v948.at_, .int .i64 v948.list_, .int .i64 v948.by_])] (q1Ok v946 v948 r950 h951) rfl rfl rfl (.inl rfl) ?_
                    refine ok_v (.d (.bool (decide (r950 < 0)))) rfl rfl ?_
                    refine ok_v (.d (.bool (!(decide (r950 < 0))))) rfl rfl ?_
                    refine ok_nil ?_
                    refine rk_condH rfl h927 (fun _ h927 => ?_) (fun _ h927 => ?_)
                    · refine rk_exit ?_
                      refine ⟨_, (Option.some.inj h927).symm, fun hm => ?_⟩
                      subst hm
                      obtain rfl := someE h620
                      exact ⟨_, rfl, wkE [] [] [] rfl ⟨⟨_, rfl, .hs rfl (by decide) (ltd rfl)⟩, ⟨_, rfl, .d (.refl _)⟩, ⟨_, rfl, .d (.refl _)⟩, ⟨_, rfl, .d (.refl _)⟩, ⟨_, rfl, .d (.refl _)⟩, ⟨_, rfl, .d (.refl _)⟩, trivial⟩ ⟨⟨ltd rfl, .inr ⟨by decide, _, rfl, .dat _ _⟩⟩, trivial⟩⟩
                    · refine rk_skip ?_
                      refine rk_regionD (by kernel_rfl) ?_
                      refine ok_mv rfl rfl ?_
                      refine ok_mv rfl rfl ?_
                      refine ok_mv rfl rfl ?_
                      refine ok_mv rfl rfl ?_
                      refine ok_v (.d (.int .i64 (w64 (a928.1 - 1)))) rfl rfl ?_
                      refine ok_mv rfl rfl ?_
                      refine ok_mv rfl rfl ?_
                      refine ok_v (.d (.int .i64 (w64 (a928.1 - 1)))) rfl rfl ?_
                      obtain ⟨v952, h953, h927⟩ := bindE h927
                      refine ok_ih h953 rfl rfl rfl rfl rfl rfl rfl ?_
                      refine ok_lh (.d (.agg [.int .i64 v952.at_, .int .i64 v952.list_, .int .i64 v952.by_])) h953 rfl rfl rfl rfl rfl rfl ?_
                      refine ok_mv rfl rfl ?_
                      refine ok_mv rfl rfl ?_
                      obtain ⟨v954, h955, h927⟩ := bindE h927
                      refine ok_ih h955 rfl rfl rfl rfl rfl rfl rfl ?_
                      refine ok_lh (.d (.agg [.int .i64 v954.at_, .int .i64 v954.list_, .int .i64 v954.by_])) h955 rfl rfl rfl rfl rfl rfl ?_
                      obtain ⟨v956, h957, h927⟩ := bindE h927
                      refine ok_ih h957 rfl rfl rfl rfl rfl rfl rfl ?_
                      refine ok_sh (ds := [.int .i64 v952.at_, .int .i64 v952.list_, .int .i64 v952.by_]) v952 h957 rfl rfl rfl rfl rfl rfl rfl rfl (leb rfl) rfl ?_
                      obtain ⟨v958, h959, h927⟩ := bindE h927
                      refine ok_ih h959 (by simp) rfl rfl rfl rfl rfl rfl ?_
                      refine ok_sh (ds := [.int .i64 v954.at_, .int .i64 v954.list_, .int .i64 v954.by_]) v954 h959 rfl rfl rfl rfl rfl rfl rfl rfl (leb rfl) rfl ?_
                      refine ok_nil ?_
                      refine rk_nil ?_
                      refine blk_nor ?_
                      refine rk_region ?_
                      refine ok_mv rfl rfl ?_
                      refine ok_v (.d (.int .i64 (w64 (a928.1 + 1)))) rfl rfl ?_
                      refine ok_as rfl rfl ?_
                      refine ok_nil ?_
                      refine rk_nil ?_
                      exact ⟨_, (Option.some.inj h927).symm, wkE [] [] [] rfl ⟨⟨_, rfl, wv_hsL (by simp) rfl (by decide) (ltd rfl)⟩, ⟨_, rfl, .d (.refl _)⟩, ⟨_, rfl, .d (.refl _)⟩, ⟨_, rfl, .d (.refl _)⟩, ⟨_, rfl, .d (.refl _)⟩, ⟨_, rfl, .d (.refl _)⟩, ⟨_, rfl, .d (.refl _)⟩, trivial⟩ ⟨⟨ltd rfl, .inr ⟨by decide, _, rfl, .dat _ _⟩⟩, trivial⟩⟩
                  · refine rk_exit ?_
                    refine ⟨_, (Option.some.inj h927).symm, fun hm => ?_⟩
                    subst hm
                    obtain rfl := someE h620
                    exact ⟨_, rfl, wkE [] [] [] rfl ⟨⟨_, rfl, .hs rfl (by decide) (ltd rfl)⟩, ⟨_, rfl, .d (.refl _)⟩, ⟨_, rfl, .d (.refl _)⟩, ⟨_, rfl, .d (.refl _)⟩, ⟨_, rfl, .d (.refl _)⟩, ⟨_, rfl, .d (.refl _)⟩, trivial⟩ ⟨⟨ltd rfl, .inr ⟨by decide, _, rfl, .dat _ _⟩⟩, trivial⟩⟩
                · refine rk_skip ?_
                  refine rk_nil ?_
                  obtain rfl := someE h620
                  exact ⟨_, rfl, wkE [] [] [] rfl ⟨⟨_, rfl, .hs rfl (by decide) (ltd rfl)⟩, ⟨_, rfl, .d (.refl _)⟩, ⟨_, rfl, .d (.refl _)⟩, ⟨_, rfl, .d (.refl _)⟩, ⟨_, rfl, .d (.refl _)⟩, ⟨_, rfl, .d (.refl _)⟩, trivial⟩ ⟨⟨ltd rfl, .inr ⟨by decide, _, rfl, .dat _ _⟩⟩, trivial⟩⟩
      · intro b622 hb
        subst hb
        refine rk_region ?_
        refine ok_mv rfl rfl ?_
        refine ok_v (.d (.int .i64 (w64 (a438.2.1 + 1)))) rfl rfl ?_
        refine ok_as rfl rfl ?_
        refine ok_nil ?_
        refine rk_nil ?_
        exact ⟨_, (Option.some.inj h437).symm, wkE [] [] [] rfl ⟨⟨_, rfl, .hs rfl (by decide) (ltd rfl)⟩, ⟨_, rfl, .d (.refl _)⟩, ⟨_, rfl, .d (.refl _)⟩, ⟨_, rfl, .d (.refl _)⟩, ⟨_, rfl, .d (.refl _)⟩, ⟨_, rfl, .d (.refl _)⟩, trivial⟩ ⟨⟨ltd rfl, .inr ⟨by decide, _, rfl, .dat _ _⟩⟩, trivial⟩⟩
    · refine rk_exit ?_
      refine ⟨_, (Option.some.inj h437).symm, fun hm => ?_⟩
      subst hm
      exact ⟨_, rfl, wkE [] [] [] rfl trivial ⟨⟨ltd rfl, .inr ⟨by decide, _, rfl, .dat _ _⟩⟩, trivial⟩⟩
  · intro b441 hb
    subst hb
    refine rk_seq ?_
    refine rk_region ?_
    refine ok_as rfl rfl ?_
    refine ok_nil ?_
    refine rk_ret ?_
    obtain rfl := someE h0
    exact ⟨.inr rfl, _, rfl, wkE [] [] [] rfl ⟨⟨_, rfl, .d (.refl _)⟩, trivial⟩ ⟨⟨ltd rfl, .inr ⟨by decide, _, rfl, .dat _ _⟩⟩, trivial⟩⟩

theorem slices_partitionEqualCmpFunc_span_end_e1_eff (q1 : span_end → span_end → Option Int) (q1F : FuncId) (q1C : List DV) (q1Ok : ∀ (x0 : span_end) (x1 : span_end) (r : Int), q1 x0 x1 = some r → Pure Try.prog tab q1F ([.agg [.int .i64 x0.at_, .int .i64 x0.list_, .int .i64 x0.by_], .agg [.int .i64 x1.at_, .int .i64 x1.list_, .int .i64 x1.by_]] ++ q1C) (.int .i64 r)) (p0 : List span_end) (p1 : Int) (p2 : Int) (p3 : Int) (r : Int × List span_end) (h0 : slices_partitionEqualCmpFunc_span_end_e1 q1 p0 p1 p2 p3 = some r) : EvCall Try.prog tab 65 [.hs 0 3 0 p0.length, .d (.int .i64 p1), .d (.int .i64 p2), .d (.int .i64 p3), .d (.fn q1F q1C)] [(0, .dat 3 (p0.map enc_span_end))] 1 (.d (.int .i64 r.1)) [(0, .dat 3 (r.2.map enc_span_end))] 1 := by
  unfold slices_partitionEqualCmpFunc_span_end_e1 at h0
  refine eff_of_run Try.func65 rfl (by kernel_rfl) (by kernel_rfl) rfl ?_
  refine rk_seq ?_
  refine rk_region ?_
  refine ok_as rfl rfl ?_
  refine ok_nil ?_
  refine rk_seq ?_
  refine rk_regionD (by kernel_rfl) ?_
  refine ok_mv rfl rfl ?_
  refine ok_mv rfl rfl ?_
  refine ok_mv rfl rfl ?_
  refine ok_mv rfl rfl ?_
  refine ok_mv rfl rfl ?_
  refine ok_mv rfl rfl ?_
  obtain ⟨v101, h102, h0⟩ := bindE h0
  refine ok_ih h102 rfl rfl rfl rfl rfl rfl rfl ?_
  refine ok_lh (.d (.agg [.int .i64 v101.at_, .int .i64 v101.list_, .int .i64 v101.by_])) h102 rfl rfl rfl rfl rfl rfl ?_
  refine ok_mv rfl rfl ?_
  refine ok_mv rfl rfl ?_
  obtain ⟨v103, h104, h0⟩ := bindE h0
  refine ok_ih h104 rfl rfl rfl rfl rfl rfl rfl ?_
  refine ok_lh (.d (.agg [.int .i64 v103.at_, .int .i64 v103.list_, .int .i64 v103.by_])) h104 rfl rfl rfl rfl rfl rfl ?_
  obtain ⟨v105, h106, h0⟩ := bindE h0
  refine ok_ih h106 rfl rfl rfl rfl rfl rfl rfl ?_
  refine ok_sh (ds := [.int .i64 v101.at_, .int .i64 v101.list_, .int .i64 v101.by_]) v101 h106 rfl rfl rfl rfl rfl rfl rfl rfl (leb rfl) rfl ?_
  obtain ⟨v107, h108, h0⟩ := bindE h0
  refine ok_ih h108 (by simp) rfl rfl rfl rfl rfl rfl ?_
  refine ok_sh (ds := [.int .i64 v103.at_, .int .i64 v103.list_, .int .i64 v103.by_]) v103 h108 rfl rfl rfl rfl rfl rfl rfl rfl (leb rfl) rfl ?_
  refine ok_nil ?_
  refine rk_seq ?_
  refine rk_region ?_
  refine ok_mv rfl rfl ?_
  refine ok_v (.d (.int .i64 (w64 (p1 + 1)))) rfl rfl ?_
  refine ok_mv rfl rfl ?_
  refine ok_v (.d (.int .i64 (w64 (p2 - 1)))) rfl rfl ?_
  refine ok_as rfl rfl ?_
  refine ok_as rfl rfl ?_
  refine ok_nil ?_
  refine rk_seq ?_
  obtain ⟨m319, h320, h0⟩ := bindE h0
  refine rk_blockcut (fun b321 => b321 = m319) (fun (b321 : Int × List span_end) => ⟨[(11, .d (.int .i64 b321.1))], [(0, .dat 3 (b321.2.map enc_span_end))], 1⟩) (by simp) ?_ ?_
  · refine rk_loopF (slices_partitionEqualCmpFunc_span_end_e1_L1 p1 q1) (fun (a318 : Int × Int × List span_end) => ⟨[(0, .hs 0 3 0 a318.2.2.length), (1, .d (.int .i64 p1)), (4, .d (.fn q1F q1C)), (11, .d (.int .i64 a318.1)), (12, .d (.int .i64 a318.2.1))], [(0, .dat 3 (a318.2.2.map enc_span_end))], 1⟩) (w64 (p1 + 1), w64 (p2 - 1), (p0.set p1.toNat v101).set p3.toNat v103) m319 h320 (wkE [] [] [] rfl ⟨⟨_, rfl, wv_hsL (by simp) rfl (by decide) (ltd rfl)⟩, ⟨_, rfl, .d (.refl _)⟩, ⟨_, rfl, .d (.refl _)⟩, ⟨_, rfl, .d (.refl _)⟩, ⟨_, rfl, .d (.refl _)⟩, trivial⟩ ⟨⟨ltd rfl, .inr ⟨by decide, _, rfl, .dat _ _⟩⟩, trivial⟩) ?_
    intro a318 y316 h317
    unfold slices_partitionEqualCmpFunc_span_end_e1_L1 at h317
    refine rk_block ?_
    refine rk_seq ?_
    obtain ⟨m379, h380, h317⟩ := bindE h317
    refine rk_blockcut (fun b381 => b381 = m379) (fun (b381 : Int) => ⟨[(0, .hs 0 3 0 a318.2.2.length), (1, .d (.int .i64 p1)), (4, .d (.fn q1F q1C)), (11, .d (.int .i64 b381)), (12, .d (.int .i64 a318.2.1))], [(0, .dat 3 (a318.2.2.map enc_span_end))], 1⟩) (by simp) ?_ ?_
    · refine rk_loopF (slices_partitionEqualCmpFunc_span_end_e1_L2 a318 p1 q1) (fun (a378 : Int) => ⟨[(0, .hs 0 3 0 a318.2.2.length), (1, .d (.int .i64 p1)), (4, .d (.fn q1F q1C)), (11, .d (.int .i64 a378)), (12, .d (.int .i64 a318.2.1))], [(0, .dat 3 (a318.2.2.map enc_span_end))], 1⟩) a318.1 m379 h380 (wkE [] [] [] rfl ⟨⟨_, rfl, .hs rfl (by decide) (ltd rfl)⟩, ⟨_, rfl, .d (.refl _)⟩, ⟨_, rfl, .d (.refl _)⟩, ⟨_, rfl, .d (.refl _)⟩, ⟨_, rfl, .d (.refl _)⟩, trivial⟩ ⟨⟨ltd rfl, .inr ⟨by decide, _, rfl, .dat _ _⟩⟩, trivial⟩) ?_
      intro a378 y376 h377
      unfold slices_partitionEqualCmpFunc_span_end_e1_L2 at h377
      refine rk_seq ?_
      refine rk_seq ?_
      refine rk_regionD (by kernel_rfl) ?_
      refine ok_mv rfl rfl ?_
      refine ok_mv rfl rfl ?_
      refine ok_v (.d (.bool (decide (a378 ≤ a318.2.1)))) rfl rfl ?_
      obtain ⟨c388, h389, h377⟩ := bindE h377
      refine ok_cutQ 14 (fun A st => ∃ (j390 j391 j392 j393 j394 j395 j396 j397 j398 j399 j400 j401 j402 : V), st = A [(47, .d (.bool c388)), (46, j402), (45, j401), (44, j400), (43, j399), (42, j398), (41, j397), (40, j396), (39, j395), (38, j394), (37, j393), (36, j392), (35, j391), (34, j390)]) ?_ ?_
      · refine ok_mvB rfl rfl h389 (fun h389 => ?_) (fun h389 => ?_)
        · refine ok_mv rfl rfl ?_
          refine ok_mv rfl rfl ?_
          refine ok_mv rfl rfl ?_
          obtain ⟨v403, h404, h389⟩ := bindE h389
          refine ok_ih h404 rfl rfl rfl rfl rfl rfl rfl ?_
          refine ok_lh (.d (.agg [.int .i64 v403.at_, .int .i64 v403.list_, .int .i64 v403.by_])) h404 rfl rfl rfl rfl rfl rfl ?_
          refine ok_mv rfl rfl ?_
          refine ok_mv rfl rfl ?_
          obtain ⟨v405, h406, h389⟩ := bindE h389
          refine ok_ih h406 rfl rfl rfl rfl rfl rfl rfl ?_
          refine ok_lh (.d (.agg [.int .i64 v405.at_, .int .i64 v405.list_, .int .i64 v405.by_])) h406 rfl rfl rfl rfl rfl rfl ?_
          obtain ⟨r407, h408, h389⟩ := bindE h389
          refine ok_pf [.d (.agg [.int .i64 v403.at_, .int .i64 v403.list_, .int .i64 v403.by_]), .d (.agg [.int .i64 v405.at_, .int .i64 v405.list_, .int .i64 v405.by_])] (q1Ok v403 v405 r407 h408) rfl rfl rfl (.inl rfl) ?_
          refine ok_v (.d (.bool (decide (r407 < 0)))) rfl rfl ?_
          refine ok_v (.d (.bool (!(decide (r407 < 0))))) rfl rfl ?_
          refine ok_v (.d (.bool (!(decide (r407 < 0))))) rfl rfl ?_
          refine ok_nil ?_
          obtain rfl := someE h389
          exact ⟨_, _, _, _, _, _, _, _, _, _, _, _, _, rfl⟩
        · refine ok_sg rfl ?_
          refine ok_sg rfl ?_
          refine ok_sg rfl ?_
          refine ok_sg rfl ?_
          refine ok_sg rfl ?_
          refine ok_sg rfl ?_
          refine ok_sg rfl ?_
          refine ok_sg rfl ?_
          refine ok_sg rfl ?_
          refine ok_sg rfl ?_
          refine ok_sg rfl ?_
          refine ok_sg rfl ?_
          refine ok_v (.d (.bool false)) rfl rfl ?_
          refine ok_nil ?_
          obtain rfl := someE h389
          exact ⟨_, _, _, _, _, _, _, _, _, _, _, _, _, rfl⟩
      · rintro _ ⟨j390, j391, j392, j393, j394, j395, j396, j397, j398, j399, j400, j401, j402, rfl⟩
        refine ok_nil ?_
        refine rk_condH rfl h377 (fun _ h377 => ?_) (fun _ h377 => ?_)
        · refine rk_skip ?_
          refine rk_block ?_
          refine rk_region ?_
          refine ok_mv rfl rfl ?_
          refine ok_v (.d (.int .i64 (w64 (a378 + 1)))) rfl rfl ?_
          refine ok_as rfl rfl ?_
          refine ok_nil ?_
          refine rk_nil ?_
          refine blk_nor ?_
          refine rk_nil ?_
          exact ⟨_, (Option.some.inj h377).symm, wkE [] [] [] rfl ⟨⟨_, rfl, .hs rfl (by decide) (ltd rfl)⟩, ⟨_, rfl, .d (.refl _)⟩, ⟨_, rfl, .d (.refl _)⟩, ⟨_, rfl, .d (.refl _)⟩, ⟨_, rfl, .d (.refl _)⟩, trivial⟩ ⟨⟨ltd rfl, .inr ⟨by decide, _, rfl, .dat _ _⟩⟩, trivial⟩⟩
        · refine rk_exit ?_
          refine ⟨_, (Option.some.inj h377).symm, fun hm => ?_⟩
          subst hm
          exact ⟨_, rfl, wkE [] [] [] rfl ⟨⟨_, rfl, .hs rfl (by decide) (ltd rfl)⟩, ⟨_, rfl, .d (.refl _)⟩, ⟨_, rfl, .d (.refl _)⟩, ⟨_, rfl, .d (.refl _)⟩, ⟨_, rfl, .d (.refl _)⟩, trivial⟩ ⟨⟨ltd rfl, .inr ⟨by decide, _, rfl, .dat _ _⟩⟩, trivial⟩⟩
    · intro b381 hb
      subst hb
      refine rk_seq ?_
      obtain ⟨m464, h465, h317⟩ := bindE h317
      refine rk_blockcut (fun b466 => b466 = m464) (fun (b466 : Int) => ⟨[(0, .hs 0 3 0 a318.2.2.length), (1, .d (.int .i64 p1)), (4, .d (.fn q1F q1C)), (11, .d (.int .i64 b381)), (12, .d (.int .i64 b466))], [(0, .dat 3 (a318.2.2.map enc_span_end))], 1⟩) (by simp) ?_ ?_
      · refine rk_loopF (slices_partitionEqualCmpFunc_span_end_e1_L3 b381 a318 p1 q1) (fun (a463 : Int) => ⟨[(0, .hs 0 3 0 a318.2.2.length), (1, .d (.int .i64 p1)), (4, .d (.fn q1F q1C)), (11, .d (.int .i64 b381)), (12, .d (.int .i64 a463))], [(0, .dat 3 (a318.2.2.map enc_span_end))], 1⟩) a318.2.1 m464 h465 (wkE [] [] [] rfl ⟨⟨_, rfl, .hs rfl (by decide) (ltd rfl)⟩, ⟨_, rfl, .d (.refl _)⟩, ⟨_, rfl, .d (.refl _)⟩, ⟨_, rfl, .d (.refl _)⟩, ⟨_, rfl, .d (.refl _)⟩, trivial⟩ ⟨⟨ltd rfl, .inr ⟨by decide, _, rfl, .dat _ _⟩⟩, trivial⟩) ?_
        intro a463 y461 h462
        unfold slices_partitionEqualCmpFunc_span_end_e1_L3 at h462
        refine rk_seq ?_
        refine rk_seq ?_
        refine rk_regionD (by kernel_rfl) ?_
        refine ok_mv rfl rfl ?_
        refine ok_mv rfl rfl ?_
        refine ok_v (.d (.bool (decide (b381 ≤ a463)))) rfl rfl ?_
        obtain ⟨c473, h474, h462⟩ := bindE h462
        refine ok_cutQ 13 (fun A st => ∃ (j475 j476 j477 j478 j479 j480 j481 j482 j483 j484 j485 j486 : V), st = A [(65, .d (.bool c473)), (64, j486), (63, j485), (62, j484), (61, j483), (60, j482), (59, j481), (58, j480), (57, j479), (56, j478), (55, j477), (54, j476), (53, j475)]) ?_ ?_
        · refine ok_mvB rfl rfl h474 (fun h474 => ?_) (fun h474 => ?_)
          · refine ok_mv rfl rfl ?_
            refine ok_mv rfl rfl ?_
            refine ok_mv rfl rfl ?_
            obtain ⟨v487, h488, h474⟩ := bindE h474
            refine ok_ih h488 rfl rfl rfl rfl rfl rfl rfl ?_
            refine ok_lh (.d (.agg [.int .i64 v487.at_, .int .i64 v487.list_, .int .i64 v487.by_])) h488 rfl rfl rfl rfl rfl rfl ?_
            refine ok_mv rfl rfl ?_
            refine ok_mv rfl rfl ?_
            obtain ⟨v489, h490, h474⟩ := bindE h474
            refine ok_ih h490 rfl rfl rfl rfl rfl rfl rfl ?_
            refine ok_lh (.d (.agg [.int .i64 v489.at_, .int .i64 v489.list_, .int .i64 v489.by_])) h490 rfl rfl rfl rfl rfl rfl ?_
            obtain ⟨r491, h492, h474⟩ := bindE h474
            refine ok_pf [.d (.agg [.int .i64 v487.at_, .int .i64 v487.list_, .int .i64 v487.by_]), .d (.agg [.int .i64 v489.at_, .int .i64 v489.list_, .int .i64 v489.by_])] (q1Ok v487 v489 r491 h492) rfl rfl rfl (.inl rfl) ?_
            refine ok_v (.d (.bool (decide (r491 < 0)))) rfl rfl ?_
            refine ok_v (.d (.bool (decide (r491 < 0)))) rfl rfl ?_
            refine ok_nil ?_
            obtain rfl := someE h474
            exact ⟨_, _, _, _, _, _, _, _, _, _, _, _, rfl⟩
          · refine ok_sg rfl ?_
            refine ok_sg rfl ?_
            refine ok_sg rfl ?_
            refine ok_sg rfl ?_
            refine ok_sg rfl ?_
            refine ok_sg rfl ?_
            refine ok_sg rfl ?_
            refine ok_sg rfl ?_
            refine ok_sg rfl ?_
            refine ok_sg rfl ?_
            refine ok_sg rfl ?_
            refine ok_v (.d (.bool false)) rfl rfl ?_
            refine ok_nil ?_
            obtain rfl := someE h474
            exact ⟨_, _, _, _, _, _, _, _, _, _, _, _, rfl⟩
        · rintro _ ⟨j475, j476, j477, j478, j479, j480, j481, j482, j483, j484, j485, j486, rfl⟩
          refine ok_nil ?_
          refine rk_condH rfl h462 (fun _ h462 => ?_) (fun _ h462 => ?_)
          · refine rk_skip ?_
            refine rk_block ?_
            refine rk_region ?_
            refine ok_mv rfl rfl ?_
            refine ok_v (.d (.int .i64 (w64 (a463 - 1)))) rfl rfl ?_
            refine ok_as rfl rfl ?_
            refine ok_nil ?_
            refine rk_nil ?_
            refine blk_nor ?_
            refine rk_nil ?_
            exact ⟨_, (Option.some.inj h462).symm, wkE [] [] [] rfl ⟨⟨_, rfl, .hs rfl (by decide) (ltd rfl)⟩, ⟨_, rfl, .d (.refl _)⟩, ⟨_, rfl, .d (.refl _)⟩, ⟨_, rfl, .d (.refl _)⟩, ⟨_, rfl, .d (.refl _)⟩, trivial⟩ ⟨⟨ltd rfl, .inr ⟨by decide, _, rfl, .dat _ _⟩⟩, trivial⟩⟩
          · refine rk_exit ?_
            refine ⟨_, (Option.some.inj h462).symm, fun hm => ?_⟩
            subst hm
            exact ⟨_, rfl, wkE [] [] [] rfl ⟨⟨_, rfl, .hs rfl (by decide) (ltd rfl)⟩, ⟨_, rfl, .d (.refl _)⟩, ⟨_, rfl, .d (.refl _)⟩, ⟨_, rfl, .d (.refl _)⟩, ⟨_, rfl, .d (.refl _)⟩, trivial⟩ ⟨⟨ltd rfl, .inr ⟨by decide, _, rfl, .dat _ _⟩⟩, trivial⟩⟩
      · intro b466 hb
        subst hb
        refine rk_seq ?_
        refine rk_seq ?_
        refine rk_region ?_
        refine ok_mv rfl rfl ?_
        refine ok_mv rfl rfl ?_
        refine ok_v (.d (.bool (decide (b381 > b466)))) rfl rfl ?_
        refine ok_nil ?_
        refine rk_condH rfl h317 (fun _ h317 => ?_) (fun _ h317 => ?_)
        · refine rk_exit ?_
          refine ⟨_, (Option.some.inj h317).symm, fun hm => ?_⟩
          subst hm
          exact ⟨_, rfl, wkE [] [] [] rfl ⟨⟨_, rfl, .d (.refl _)⟩, trivial⟩ ⟨⟨ltd rfl, .inr ⟨by decide, _, rfl, .dat _ _⟩⟩, trivial⟩⟩
        · refine rk_skip ?_
          refine rk_seq ?_
          refine rk_regionD (by kernel_rfl) ?_
          refine ok_mv rfl rfl ?_
          refine ok_mv rfl rfl ?_
          refine ok_mv rfl rfl ?_
          refine ok_mv rfl rfl ?_
          refine ok_mv rfl rfl ?_
          refine ok_mv rfl rfl ?_
          obtain ⟨v493, h494, h317⟩ := bindE h317
          refine ok_ih h494 rfl rfl rfl rfl rfl rfl rfl ?_
          refine ok_lh (.d (.agg [.int .i64 v493.at_, .int .i64 v493.list_, .int .i64 v493.by_])) h494 rfl rfl rfl rfl rfl rfl ?_
          refine ok_mv rfl rfl ?_
          refine ok_mv rfl rfl ?_
          obtain ⟨v495, h496, h317⟩ := bindE h317
          refine ok_ih h496 rfl rfl rfl rfl rfl rfl rfl ?_
          refine ok_lh (.d (.agg [.int .i64 v495.at_, .int .i64 v495.list_, .int .i64 v495.by_])) h496 rfl rfl rfl rfl rfl rfl ?_
          obtain ⟨v497, h498, h317⟩ := bindE h317
          refine ok_ih h498 rfl rfl rfl rfl rfl rfl rfl ?_
          refine ok_sh (ds := [.int .i64 v493.at_, .int .i64 v493.list_, .int .i64 v493.by_]) v493 h498 rfl rfl rfl rfl rfl rfl rfl rfl (leb rfl) rfl ?_
          obtain ⟨v499, h500, h317⟩ := bindE h317
          refine ok_ih h500 (by simp) rfl rfl rfl rfl rfl rfl ?_
          refine ok_sh (ds := [.int .i64 v495.at_, .int .i64 v495.list_, .int .i64 v495.by_]) v495 h500 rfl rfl rfl rfl rfl rfl rfl rfl (leb rfl) rfl ?_
          refine ok_nil ?_
          refine rk_seq ?_
          refine rk_region ?_
          refine ok_mv rfl rfl ?_
          refine ok_v (.d (.int .i64 (w64 (b381 + 1)))) rfl rfl ?_
          refine ok_as rfl rfl ?_
          refine ok_nil ?_
          refine rk_region ?_
          refine ok_mv rfl rfl ?_
          refine ok_v (.d (.int .i64 (w64 (b466 - 1)))) rfl rfl ?_
          refine ok_as rfl rfl ?_
          refine ok_nil ?_
          refine rk_nil ?_
          refine blk_nor ?_
          refine rk_nil ?_
          exact ⟨_, (Option.some.inj h317).symm, wkE [] [] [] rfl ⟨⟨_, rfl, wv_hsL (by simp) rfl (by decide) (ltd rfl)⟩, ⟨_, rfl, .d (.refl _)⟩, ⟨_, rfl, .d (.refl _)⟩, ⟨_, rfl, .d (.refl _)⟩, ⟨_, rfl, .d (.refl _)⟩, trivial⟩ ⟨⟨ltd rfl, .inr ⟨by decide, _, rfl, .dat _ _⟩⟩, trivial⟩⟩
  · intro b321 hb
    subst hb
    refine rk_seq ?_
    refine rk_region ?_
    refine ok_mv rfl rfl ?_
    refine ok_as rfl rfl ?_
    refine ok_nil ?_
    refine rk_ret ?_
    obtain rfl := someE h0
    exact ⟨.inr rfl, _, rfl, wkE [] [] [] rfl ⟨⟨_, rfl, .d (.refl _)⟩, trivial⟩ ⟨⟨ltd rfl, .inr ⟨by decide, _, rfl, .dat _ _⟩⟩, trivial⟩⟩

theorem slices_partitionCmpFunc_span_end_e1_eff (q1 : span_end → span_end → Option Int) (q1F : FuncId) (q1C : List DV) (q1Ok : ∀ (x0 : span_end) (x1 : span_end) (r : Int), q1 x0 x1 = some r → Pure Try.prog tab q1F ([.agg [.int .i64 x0.at_, .int .i64 x0.list_, .int .i64 x0.by_], .agg [.int .i64 x1.at_, .int .i64 x1.list_, .int .i64 x1.by_]] ++ q1C) (.int .i64 r)) (p0 : List span_end) (p1 : Int) (p2 : Int) (p3 : Int) (r : Int × Bool × List span_end) (h0 : slices_partitionCmpFunc_span_end_e1 q1 p0 p1 p2 p3 = some r) : EvCall Try.prog tab 66 [.hs 0 3 0 p0.length, .d (.int .i64 p1), .d (.int .i64 p2), .d (.int .i64 p3), .d (.fn q1F q1C)] [(0, .dat 3 (p0.map enc_span_end))] 1 (.d (.tup [.int .i64 r.1, .bool r.2.1])) [(0, .dat 3 (r.2.2.map enc_span_end))] 1 := by
  unfold slices_partitionCmpFunc_span_end_e1 at h0
  refine eff_of_run Try.func66 rfl (by kernel_rfl) (by kernel_rfl) rfl ?_
  refine rk_seq ?_
  refine rk_region ?_
  refine ok_as rfl rfl ?_
  refine ok_as rfl rfl ?_
  refine ok_nil ?_
  refine rk_seq ?_
  refine rk_regionD (by kernel_rfl) ?_
  refine ok_mv rfl rfl ?_
  refine ok_mv rfl rfl ?_
  refine ok_mv rfl rfl ?_
  refine ok_mv rfl rfl ?_
  refine ok_mv rfl rfl ?_
  refine ok_mv rfl rfl ?_
  obtain ⟨v101, h102, h0⟩ := bindE h0
  refine ok_ih h102 rfl rfl rfl rfl rfl rfl rfl ?_
  refine ok_lh (.d (.agg [.int .i64 v101.at_, .int .i64 v101.list_, .int .i64 v101.by_])) h102 rfl rfl rfl rfl rfl rfl ?_
  refine ok_mv rfl rfl ?_
  refine ok_mv rfl rfl ?_
  obtain ⟨v103, h104, h0⟩ := bindE h0
  refine ok_ih h104 rfl rfl rfl rfl rfl rfl rfl ?_
  refine ok_lh (.d (.agg [.int .i64 v103.at_, .int .i64 v103.list_, .int .i64 v103.by_])) h104 rfl rfl rfl rfl rfl rfl ?_
  obtain ⟨v105, h106, h0⟩ := bindE h0
  refine ok_ih h106 rfl rfl rfl rfl rfl rfl rfl ?_
  refine ok_sh (ds := [.int .i64 v101.at_, .int .i64 v101.list_, .int .i64 v101.by_]) v101 h106 rfl rfl rfl rfl rfl rfl rfl rfl (leb rfl) rfl ?_
  obtain ⟨v107, h108, h0⟩ := bindE h0
  refine ok_ih h108 (by simp) rfl rfl rfl rfl rfl rfl ?_
  refine ok_sh (ds := [.int .i64 v103.at_, .int .i64 v103.list_, .int .i64 v103.by_]) v103 h108 rfl rfl rfl rfl rfl rfl rfl rfl (leb rfl) rfl ?_
  refine ok_nil ?_
  refine rk_seq ?_
  refine rk_region ?_
  refine ok_mv rfl rfl ?_
  refine ok_v (.d (.int .i64 (w64 (p1 + 1)))) rfl rfl ?_
  refine ok_mv rfl rfl ?_
  refine ok_v (.d (.int .i64 (w64 (p2 - 1)))) rfl rfl ?_
  refine ok_as rfl rfl ?_
  refine ok_as rfl rfl ?_
  refine ok_nil ?_
  refine rk_seq ?_
  obtain ⟨m164, h165, h0⟩ := bindE h0
  refine rk_blockcut (fun b166 => b166 = m164) (fun (b166 : Int) => ⟨[(0, .hs 0 3 0 ((p0.set p1.toNat v101).set p3.toNat v103).length), (1, .d (.int .i64 p1)), (4, .d (.fn q1F q1C)), (12, .d (.int .i64 b166)), (13, .d (.int .i64 (w64 (p2 - 1))))], [(0, .dat 3 (((p0.set p1.toNat v101).set p3.toNat v103).map enc_span_end))], 1⟩) (by simp) ?_ ?_
  · refine rk_loopF (slices_partitionCmpFunc_span_end_e1_L1 p2 p0 p1 v101 p3 v103 q1) (fun (a163 : Int) => ⟨[(0, .hs 0 3 0 ((p0.set p1.toNat v101).set p3.toNat v103).length), (1, .d (.int .i64 p1)), (4, .d (.fn q1F q1C)), (12, .d (.int .i64 a163)), (13, .d (.int .i64 (w64 (p2 - 1))))], [(0, .dat 3 (((p0.set p1.toNat v101).set p3.toNat v103).map enc_span_end))], 1⟩) (w64 (p1 + 1)) m164 h165 (wkE [] [] [] rfl ⟨⟨_, rfl, wv_hsL (by simp) rfl (by decide) (ltd rfl)⟩, ⟨_, rfl, .d (.refl _)⟩, ⟨_, rfl, .d (.refl _)⟩, ⟨_, rfl, .d (.refl _)⟩, ⟨_, rfl, .d (.refl _)⟩, trivial⟩ ⟨⟨ltd rfl, .inr ⟨by decide, _, rfl, .dat _ _⟩⟩, trivial⟩) ?_
    intro a163 y161 h162
    unfold slices_partitionCmpFunc_span_end_e1_L1 at h162
    refine rk_seq ?_
    refine rk_seq ?_
    refine rk_regionD (by kernel_rfl) ?_
    refine ok_mv rfl rfl ?_
    refine ok_mv rfl rfl ?_
    refine ok_v (.d (.bool (decide (a163 ≤ (w64 (p2 - 1)))))) rfl rfl ?_
    obtain ⟨c173, h174, h162⟩ := bindE h162
    refine ok_cutQ 13 (fun A st => ∃ (j175 j176 j177 j178 j179 j180 j181 j182 j183 j184 j185 j186 : V), st = A [(47, .d (.bool c173)), (46, j186), (45, j185), (44, j184), (43, j183), (42, j182), (41, j181), (40, j180), (39, j179), (38, j178), (37, j177), (36, j176), (35, j175)]) ?_ ?_
    · refine ok_mvB rfl rfl h174 (fun h174 => ?_) (fun h174 => ?_)
      · refine ok_mv rfl rfl ?_
        refine ok_mv rfl rfl ?_
        refine ok_mv rfl rfl ?_
        obtain ⟨v187, h188, h174⟩ := bindE h174
        refine ok_ih h188 rfl rfl rfl rfl rfl rfl rfl ?_
        refine ok_lh (.d (.agg [.int .i64 v187.at_, .int .i64 v187.list_, .int .i64 v187.by_])) h188 rfl rfl rfl rfl rfl rfl ?_
        refine ok_mv rfl rfl ?_
        refine ok_mv rfl rfl ?_
        obtain ⟨v189, h190, h174⟩ := bindE h174
        refine ok_ih h190 rfl rfl rfl rfl rfl rfl rfl ?_
        refine ok_lh (.d (.agg [.int .i64 v189.at_, .int .i64 v189.list_, .int .i64 v189.by_])) h190 rfl rfl rfl rfl rfl rfl ?_
        obtain ⟨r191, h192, h174⟩ := bindE h174
        refine ok_pf [.d (.agg [.int .i64 v187.at_, .int .i64 v187.list_, .int .i64 v187.by_]), .d (.agg [.int .i64 v189.at_, .int .i64 v189.list_, .int .i64 v189.by_])] (q1Ok v187 v189 r191 h192) rfl rfl rfl (.inl rfl) ?_
        refine ok_v (.d (.bool (decide (r191 < 0)))) rfl rfl ?_
        refine ok_v (.d (.bool (decide (r191 < 0)))) rfl rfl ?_
        refine ok_nil ?_
        obtain rfl := someE h174
        exact ⟨_, _, _, _, _, _, _, _, _, _, _, _, rfl⟩
      · refine ok_sg rfl ?_
        refine ok_sg rfl ?_
        refine ok_sg rfl ?_
        refine ok_sg rfl ?_
        refine ok_sg rfl ?_
        refine ok_sg rfl ?_
        refine ok_sg rfl ?_
        refine ok_sg rfl ?_
        refine ok_sg rfl ?_
        refine ok_sg rfl ?_
        refine ok_sg rfl ?_
        refine ok_v (.d (.bool false)) rfl rfl ?_
        refine ok_nil ?_
        obtain rfl := someE h174
        exact ⟨_, _, _, _, _, _, _, _, _, _, _, _, rfl⟩
    · rintro _ ⟨j175, j176, j177, j178, j179, j180, j181, j182, j183, j184, j185, j186, rfl⟩
      refine ok_nil ?_
      refine rk_condH rfl h162 (fun _ h162 => ?_) (fun _ h162 => ?_)
      · refine rk_skip ?_
        refine rk_block ?_
        refine rk_region ?_
        refine ok_mv rfl rfl ?_
        refine ok_v (.d (.int .i64 (w64 (a163 + 1)))) rfl rfl ?_
        refine ok_as rfl rfl ?_
        refine ok_nil ?_
        refine rk_nil ?_
        refine blk_nor ?_
        refine rk_nil ?_
        exact ⟨_, (Option.some.inj h162).symm, wkE [] [] [] rfl ⟨⟨_, rfl, .hs rfl (by decide) (ltd rfl)⟩, ⟨_, rfl, .d (.refl _)⟩, ⟨_, rfl, .d (.refl _)⟩, ⟨_, rfl, .d (.refl _)⟩, ⟨_, rfl, .d (.refl _)⟩, trivial⟩ ⟨⟨ltd rfl, .inr ⟨by decide, _, rfl, .dat _ _⟩⟩, trivial⟩⟩
      · refine rk_exit ?_
        refine ⟨_, (Option.some.inj h162).symm, fun hm => ?_⟩
        subst hm
        exact ⟨_, rfl, wkE [] [] [] rfl ⟨⟨_, rfl, .hs rfl (by decide) (ltd rfl)⟩, ⟨_, rfl, .d (.refl _)⟩, ⟨_, rfl, .d (.refl _)⟩, ⟨_, rfl, .d (.refl _)⟩, ⟨_, rfl, .d (.refl _)⟩, trivial⟩ ⟨⟨ltd rfl, .inr ⟨by decide, _, rfl, .dat _ _⟩⟩, trivial⟩⟩
  · intro b166 hb
    subst hb
    refine rk_seq ?_
    obtain ⟨m250, h251, h0⟩ := bindE h0
    refine rk_blockcut (fun b252 => b252 = m250) (fun (b252 : Int) => ⟨[(0, .hs 0 3 0 ((p0.set p1.toNat v101).set p3.toNat v103).length), (1, .d (.int .i64 p1)), (4, .d (.fn q1F q1C)), (12, .d (.int .i64 b166)), (13, .d (.int .i64 b252))], [(0, .dat 3 (((p0.set p1.toNat v101).set p3.toNat v103).map enc_span_end))], 1⟩) (by simp) ?_ ?_
    · refine rk_loopF (slices_partitionCmpFunc_span_end_e1_L2 b166 p0 p1 v101 p3 v103 q1) (fun (a249 : Int) => ⟨[(0, .hs 0 3 0 ((p0.set p1.toNat v101).set p3.toNat v103).length), (1, .d (.int .i64 p1)), (4, .d (.fn q1F q1C)), (12, .d (.int .i64 b166)), (13, .d (.int .i64 a249))], [(0, .dat 3 (((p0.set p1.toNat v101).set p3.toNat v103).map enc_span_end))], 1⟩) (w64 (p2 - 1)) m250 h251 (wkE [] [] [] rfl ⟨⟨_, rfl, .hs rfl (by decide) (ltd rfl)⟩, ⟨_, rfl, .d (.refl _)⟩, ⟨_, rfl, .d (.refl _)⟩, ⟨_, rfl, .d (.refl _)⟩, ⟨_, rfl, .d (.refl _)⟩, trivial⟩ ⟨⟨ltd rfl, .inr ⟨by decide, _, rfl, .dat _ _⟩⟩, trivial⟩) ?_
      intro a249 y247 h248
      unfold slices_partitionCmpFunc_span_end_e1_L2 at h248
      refine rk_seq ?_
      refine rk_seq ?_
      refine rk_regionD (by kernel_rfl) ?_
      refine ok_mv rfl rfl ?_
      refine ok_mv rfl rfl ?_
      refine ok_v (.d (.bool (decide (b166 ≤ a249)))) rfl rfl ?_
      obtain ⟨c259, h260, h248⟩ := bindE h248
      refine ok_cutQ 14 (fun A st => ∃ (j261 j262 j263 j264 j265 j266 j267 j268 j269 j270 j271 j272 j273 : V), st = A [(66, .d (.bool c259)), (65, j273), (64, j272), (63, j271), (62, j270), (61, j269), (60, j268), (59, j267), (58, j266), (57, j265), (56, j264), (55, j263), (54, j262), (53, j261)]) ?_ ?_
      · refine ok_mvB rfl rfl h260 (fun h260 => ?_) (fun h260 => ?_)
        · refine ok_mv rfl rfl ?_
          refine ok_mv rfl rfl ?_
          refine ok_mv rfl rfl ?_
          obtain ⟨v274, h275, h260⟩ := bindE h260
          refine ok_ih h275 rfl rfl rfl rfl rfl rfl rfl ?_
          refine ok_lh (.d (.agg [.int .i64 v274.at_, .int .i64 v274.list_, .int .i64 v274.by_])) h275 rfl rfl rfl rfl rfl rfl ?_
          refine ok_mv rfl rfl ?_
          refine ok_mv rfl rfl ?_
          obtain ⟨v276, h277, h260⟩ := bindE h260
          refine ok_ih h277 rfl rfl rfl rfl rfl rfl rfl ?_
          refine ok_lh (.d (.agg [.int .i64 v276.at_, .int .i64 v276.list_, .int .i64 v276.by_])) h277 rfl rfl rfl rfl rfl rfl ?_
          obtain ⟨r278, h279, h260⟩ := bindE h260
          refine ok_pf [.d (.agg [.int .i64 v274.at_, .int .i64 v274.list_, .int .i64 v274.by_]), .d (.agg [.int .i64 v276.at_, .int .i64 v276.list_, .int .i64 v276.by_])] (q1Ok v274 v276 r278 h279) rfl rfl rfl (.inl rfl) ?_
          refine ok_v (.d (.bool (decide (r278 < 0)))) rfl rfl ?_
          refine ok_v (.d (.bool (!(decide (r278 < 0))))) rfl rfl ?_
          refine ok_v (.d (.bool (!(decide (r278 < 0))))) rfl rfl ?_
          refine ok_nil ?_
          obtain rfl := someE h260
          exact ⟨_, _, _, _, _, _, _, _, _, _, _, _, _, rfl⟩
        · refine ok_sg rfl ?_
          refine ok_sg rfl ?_
          refine ok_sg rfl ?_
          refine ok_sg rfl ?_
          refine ok_sg rfl ?_
          refine ok_sg rfl ?_
          refine ok_sg rfl ?_
          refine ok_sg rfl ?_
          refine ok_sg rfl ?_
          refine ok_sg rfl ?_
          refine ok_sg rfl ?_
          refine ok_sg rfl ?_
          refine ok_v (.d (.bool false)) rfl rfl ?_
          refine ok_nil ?_
          obtain rfl := someE h260
          exact ⟨_, _, _, _, _, _, _, _, _, _, _, _, _, rfl⟩
      · rintro _ ⟨j261, j262, j263, j264, j265, j266, j267, j268, j269, j270, j271, j272, j273, rfl⟩
        refine ok_nil ?_
        refine rk_condH rfl h248 (fun _ h248 => ?_) (fun _ h248 => ?_)
        · refine rk_skip ?_
          refine rk_block ?_
          refine rk_region ?_
          refine ok_mv rfl rfl ?_
          refine ok_v (.d (.int .i64 (w64 (a249 - 1)))) rfl rfl ?_
          refine ok_as rfl rfl ?_
          refine ok_nil ?_
          refine rk_nil ?_
          refine blk_nor ?_
          refine rk_nil ?_
          exact ⟨_, (Option.some.inj h248).symm, wkE [] [] [] rfl ⟨⟨_, rfl, .hs rfl (by decide) (ltd rfl)⟩, ⟨_, rfl, .d (.refl _)⟩, ⟨_, rfl, .d (.refl _)⟩, ⟨_, rfl, .d (.refl _)⟩, ⟨_, rfl, .d (.refl _)⟩, trivial⟩ ⟨⟨ltd rfl, .inr ⟨by decide, _, rfl, .dat _ _⟩⟩, trivial⟩⟩
        · refine rk_exit ?_
          refine ⟨_, (Option.some.inj h248).symm, fun hm => ?_⟩
          subst hm
          exact ⟨_, rfl, wkE [] [] [] rfl ⟨⟨_, rfl, .hs rfl (by decide) (ltd rfl)⟩, ⟨_, rfl, .d (.refl _)⟩, ⟨_, rfl, .d (.refl _)⟩, ⟨_, rfl, .d (.refl _)⟩, ⟨_, rfl, .d (.refl _)⟩, trivial⟩ ⟨⟨ltd rfl, .inr ⟨by decide, _, rfl, .dat _ _⟩⟩, trivial⟩⟩
    · intro b252 hb
      subst hb
      refine rk_seq ?_
      refine rk_seq ?_
      refine rk_region ?_
      refine ok_mv rfl rfl ?_
      refine ok_mv rfl rfl ?_
      refine ok_v (.d (.bool (decide (b166 > b252)))) rfl rfl ?_
      refine ok_nil ?_
      refine rk_condH rfl h0 (fun _ h0 => ?_) (fun _ h0 => ?_)
      · refine rk_seq ?_
        refine rk_regionD (by kernel_rfl) ?_
        refine ok_mv rfl rfl ?_
        refine ok_mv rfl rfl ?_
        refine ok_mv rfl rfl ?_
        refine ok_mv rfl rfl ?_
        refine ok_mv rfl rfl ?_
        refine ok_mv rfl rfl ?_
        obtain ⟨v288, h289, h0⟩ := bindE h0
        refine ok_ih h289 rfl rfl rfl rfl rfl rfl rfl ?_
        refine ok_lh (.d (.agg [.int .i64 v288.at_, .int .i64 v288.list_, .int .i64 v288.by_])) h289 rfl rfl rfl rfl rfl rfl ?_
        refine ok_mv rfl rfl ?_
        refine ok_mv rfl rfl ?_
        obtain ⟨v290, h291, h0⟩ := bindE h0
        refine ok_ih h291 rfl rfl rfl rfl rfl rfl rfl ?_
        refine ok_lh (.d (.agg [.int .i64 v290.at_, .int .i64 v290.list_, .int .i64 v290.by_])) h291 rfl rfl rfl rfl rfl rfl ?_
        obtain ⟨v292, h293, h0⟩ := bindE h0
        refine ok_ih h293 rfl rfl rfl rfl rfl rfl rfl ?_
        refine ok_sh (ds := [.int .i64 v288.at_, .int .i64 v288.list_, .int .i64 v288.by_]) v288 h293 rfl rfl rfl rfl rfl rfl rfl rfl (leb rfl) rfl ?_
        obtain ⟨v294, h295, h0⟩ := bindE h0
        refine ok_ih h295 (by simp) rfl rfl rfl rfl rfl rfl ?_
        refine ok_sh (ds := [.int .i64 v290.at_, .int .i64 v290.list_, .int .i64 v290.by_]) v290 h295 rfl rfl rfl rfl rfl rfl rfl rfl (leb rfl) rfl ?_
        refine ok_nil ?_
        refine rk_seq ?_
        refine rk_region ?_
        refine ok_mv rfl rfl ?_
        refine ok_as rfl rfl ?_
        refine ok_as rfl rfl ?_
        refine ok_nil ?_
        refine rk_ret ?_
        obtain rfl := someE h0
        exact ⟨.inr rfl, _, rfl, wkE [] [] [] rfl ⟨⟨_, rfl, .d (.refl _)⟩, trivial⟩ ⟨⟨ltd rfl, .inr ⟨by decide, _, rfl, .dat _ _⟩⟩, trivial⟩⟩
      · refine rk_skip ?_
        refine rk_seq ?_
        refine rk_regionD (by kernel_rfl) ?_
        refine ok_mv rfl rfl ?_
        refine ok_mv rfl rfl ?_
        refine ok_mv rfl rfl ?_
        refine ok_mv rfl rfl ?_
        refine ok_mv rfl rfl ?_
        refine ok_mv rfl rfl ?_
        obtain ⟨v296, h297, h0⟩ := bindE h0
        refine ok_ih h297 rfl rfl rfl rfl rfl rfl rfl ?_
        refine ok_lh (.d (.agg [.int .i64 v296.at_, .int .i64 v296.list_, .int .i64 v296.by_])) h297 rfl rfl rfl rfl rfl rfl ?_
        refine ok_mv rfl rfl ?_
        refine ok_mv rfl rfl ?_
        obtain ⟨v298, h299, h0⟩ := bindE h0
        refine ok_ih h299 rfl rfl rfl rfl rfl rfl rfl ?_
        refine ok_lh (.d (.agg [.int .i64 v298.at_, .int .i64 v298.list_, .int .i64 v298.by_])) h299 rfl rfl rfl rfl rfl rfl ?_
        obtain ⟨v300, h301, h0⟩ := bindE h0
        refine ok_ih h301 rfl rfl rfl rfl rfl rfl rfl ?_
        refine ok_sh (ds := [.int .i64 v296.at_, .int .i64 v296.list_, .int .i64 v296.by_]) v296 h301 rfl rfl rfl rfl rfl rfl rfl rfl (leb rfl) rfl ?_
        obtain ⟨v302, h303, h0⟩ := bindE h0
        refine ok_ih h303 (by simp) rfl rfl rfl rfl rfl rfl ?_
        refine ok_sh (ds := [.int .i64 v298.at_, .int .i64 v298.list_, .int .i64 v298.by_]) v298 h303 rfl rfl rfl rfl rfl rfl rfl rfl (leb rfl) rfl ?_
        refine ok_nil ?_
        refine rk_seq ?_
        refine rk_region ?_
        refine ok_mv rfl rfl ?_
        refine ok_v (.d (.int .i64 (w64 (b166 + 1)))) rfl rfl ?_
        refine ok_as rfl rfl ?_
        refine ok_nil ?_
        refine rk_seq ?_
        refine rk_region ?_
        refine ok_mv rfl rfl ?_
        refine ok_v (.d (.int .i64 (w64 (b252 - 1)))) rfl rfl ?_
        refine ok_as rfl rfl ?_
        refine ok_nil ?_
        refine rk_seq ?_
        obtain ⟨m515, h516, h0⟩ := bindE h0
        refine rk_blockcut (fun b517 => b517 = m515) (fun (b517 : Int × List span_end) => ⟨[(0, .hs 0 3 0 b517.2.length), (1, .d (.int .i64 p1)), (13, .d (.int .i64 b517.1))], [(0, .dat 3 (b517.2.map enc_span_end))], 1⟩) (by simp) ?_ ?_
        · refine rk_loopF (slices_partitionCmpFunc_span_end_e1_L3 p1 q1) (fun (a514 : Int × Int × List span_end) => ⟨[(0, .hs 0 3 0 a514.2.2.length), (1, .d (.int .i64 p1)), (4, .d (.fn q1F q1C)), (12, .d (.int .i64 a514.1)), (13, .d (.int .i64 a514.2.1))], [(0, .dat 3 (a514.2.2.map enc_span_end))], 1⟩) (w64 (b166 + 1), w64 (b252 - 1), (((p0.set p1.toNat v101).set p3.toNat v103).set b166.toNat v296).set b252.toNat v298) m515 h516 (wkE [] [] [] rfl ⟨⟨_, rfl, wv_hsL (by simp) rfl (by decide) (ltd rfl)⟩, ⟨_, rfl, .d (.refl _)⟩, ⟨_, rfl, .d (.refl _)⟩, ⟨_, rfl, .d (.refl _)⟩, ⟨_, rfl, .d (.refl _)⟩, trivial⟩ ⟨⟨ltd rfl, .inr ⟨by decide, _, rfl, .dat _ _⟩⟩, trivial⟩) ?_
          intro a514 y512 h513
          unfold slices_partitionCmpFunc_span_end_e1_L3 at h513
          refine rk_block ?_
          refine rk_seq ?_
          obtain ⟨m573, h574, h513⟩ := bindE h513
          refine rk_blockcut (fun b575 => b575 = m573) (fun (b575 : Int) => ⟨[(0, .hs 0 3 0 a514.2.2.length), (1, .d (.int .i64 p1)), (4, .d (.fn q1F q1C)), (12, .d (.int .i64 b575)), (13, .d (.int .i64 a514.2.1))], [(0, .dat 3 (a514.2.2.map enc_span_end))], 1⟩) (by simp) ?_ ?_
          · refine rk_loopF (slices_partitionCmpFunc_span_end_e1_L4 a514 p1 q1) (fun (a572 : Int) => ⟨[(0, .hs 0 3 0 a514.2.2.length), (1, .d (.int .i64 p1)), (4, .d (.fn q1F q1C)), (12, .d (.int .i64 a572)), (13, .d (.int .i64 a514.2.1))], [(0, .dat 3 (a514.2.2.map enc_span_end))], 1⟩) a514.1 m573 h574 (wkE [] [] [] rfl ⟨⟨_, rfl, .hs rfl (by decide) (ltd rfl)⟩, ⟨_, rfl, .d (.refl _)⟩, ⟨_, rfl, .d (.refl _)⟩, ⟨_, rfl, .d (.refl _)⟩, ⟨_, rfl, .d (.refl _)⟩, trivial⟩ ⟨⟨ltd rfl, .inr ⟨by decide, _, rfl, .dat _ _⟩⟩, trivial⟩) ?_
            intro a572 y570 h571
            unfold slices_partitionCmpFunc_span_end_e1_L4 at h571
            refine rk_seq ?_
            refine rk_seq ?_
            refine rk_regionD (by kernel_rfl) ?_
            refine ok_mv rfl rfl ?_
            refine ok_mv rfl rfl ?_
            refine ok_v (.d (.bool (decide (a572 ≤ a514.2.1)))) rfl rfl ?_
            obtain ⟨c582, h583, h571⟩ := bindE h571
            refine ok_cutQ 13 (fun A st => ∃ (j584 j585 j586 j587 j588 j589 j590 j591 j592 j593 j594 j595 : V), st = A [(120, .d (.bool c582)), (119, j595), (118, j594), (117, j593), (116, j592), (115, j591), (114, j590), (113, j589), (112, j588), (111, j587), (110, j586), (109, j585), (108, j584)]) ?_ ?_
            · refine ok_mvB rfl rfl h583 (fun h583 => ?_) (fun h583 => ?_)
              · refine ok_mv rfl rfl ?_
                refine ok_mv rfl rfl ?_
                refine ok_mv rfl rfl ?_
                obtain ⟨v596, h597, h583⟩ := bindE h583
                refine ok_ih h597 rfl rfl rfl rfl rfl rfl rfl ?_
                refine ok_lh (.d (.agg [.int .i64 v596.at_, .int .i64 v596.list_, .int .i64 v596.by_])) h597 rfl rfl rfl rfl rfl rfl ?_
                refine ok_mv rfl rfl ?_
                refine ok_mv rfl rfl ?_
                obtain ⟨v598, h599, h583⟩ := bindE h583
                refine ok_ih h599 rfl rfl rfl rfl rfl rfl rfl ?_
                refine ok_lh (.d (.agg [.int .i64 v598.at_, .int .i64 v598.list_, .int .i64 v598.by_])) h599 rfl rfl rfl rfl rfl rfl ?_
                obtain ⟨r600, h601, h583⟩ := bindE h583
                refine ok_pf [.d (.agg [.int .i64 v596.at_, .int .i64 v596.list_, .int .i64 v596.by_]), .d (.agg [.int .i64 v598.at_, .int .i64 v598.list_, .int .i64 v598.by_])] (q1Ok v596 v598 r600 h601) rfl rfl rfl (.inl rfl) ?_
                refine ok_v (.d (.bool (decide (r600 < 0)))) rfl rfl ?_
                refine ok_v (.d (.bool (decide (r600 < 0)))) rfl rfl ?_
                refine ok_nil ?_
                obtain rfl := someE h583
                exact ⟨_, _, _, _, _, _, _, _, _, _, _, _, rfl⟩
              · refine ok_sg rfl ?_
                refine ok_sg rfl ?_
                refine ok_sg rfl ?_
                refine ok_sg rfl ?_
                refine ok_sg rfl ?_
                refine ok_sg rfl ?_
                refine ok_sg rfl ?_
                refine ok_sg rfl ?_
                refine ok_sg rfl ?_
                refine ok_sg rfl ?_
                refine ok_sg rfl ?_
                refine ok_v (.d (.bool false)) rfl rfl ?_
                refine ok_nil ?_
                obtain rfl := someE h583
                exact ⟨_, _, _, _, _, _, _, _, _, _, _, _, rfl⟩
            · rintro _ ⟨j584, j585, j586, j587, j588, j589, j590, j591, j592, j593, j594, j595, rfl⟩
              refine ok_nil ?_
              refine rk_condH rfl h571 (fun _ h571 => ?_) (fun _ h571 => ?_)
              · refine rk_skip ?_
                refine rk_block ?_
                refine rk_region ?_
                refine ok_mv rfl rfl ?_
                refine ok_v (.d (.int .i64 (w64 (a572 + 1)))) rfl rfl ?_
                refine ok_as rfl rfl ?_
                refine ok_nil ?_
                refine rk_nil ?_
                refine blk_nor ?_
                refine rk_nil ?_
                exact ⟨_, (Option.some.inj h571).symm, wkE [] [] [] rfl ⟨⟨_, rfl, .hs rfl (by decide) (ltd rfl)⟩, ⟨_, rfl, .d (.refl _)⟩, ⟨_, rfl, .d (.refl _)⟩, ⟨_, rfl, .d (.refl _)⟩, ⟨_, rfl, .d (.refl _)⟩, trivial⟩ ⟨⟨ltd rfl, .inr ⟨by decide, _, rfl, .dat _ _⟩⟩, trivial⟩⟩
              · refine rk_exit ?_
                refine ⟨_, (Option.some.inj h571).symm, fun hm => ?_⟩
                subst hm
                exact ⟨_, rfl, wkE [] [] [] rfl ⟨⟨_, rfl, .hs rfl (by decide) (ltd rfl)⟩, ⟨_, rfl, .d (.refl _)⟩, ⟨_, rfl, .d (.refl _)⟩, ⟨_, rfl, .d (.refl _)⟩, ⟨_, rfl, .d (.refl _)⟩, trivial⟩ ⟨⟨ltd rfl, .inr ⟨by decide, _, rfl, .dat _ _⟩⟩, trivial⟩⟩
          · intro b575 hb
            subst hb
            refine rk_seq ?_
            obtain ⟨m659, h660, h513⟩ := bindE h513
            refine rk_blockcut (fun b661 => b661 = m659) (fun (b661 : Int) => ⟨[(0, .hs 0 3 0 a514.2.2.length), (1, .d (.int .i64 p1)), (4, .d (.fn q1F q1C)), (12, .d (.int .i64 b575)), (13, .d (.int .i64 b661))], [(0, .dat 3 (a514.2.2.map enc_span_end))], 1⟩) (by simp) ?_ ?_
            · refine rk_loopF (slices_partitionCmpFunc_span_end_e1_L5 b575 a514 p1 q1) (fun (a658 : Int) => ⟨[(0, .hs 0 3 0 a514.2.2.length), (1, .d (.int .i64 p1)), (4, .d (.fn q1F q1C)), (12, .d (.int .i64 b575)), (13, .d (.int .i64 a658))], [(0, .dat 3 (a514.2.2.map enc_span_end))], 1⟩) a514.2.1 m659 h660 (wkE [] [] [] rfl ⟨⟨_, rfl, .hs rfl (by decide) (ltd rfl)⟩, ⟨_, rfl, .d (.refl _)⟩, ⟨_, rfl, .d (.refl _)⟩, ⟨_, rfl, .d (.refl _)⟩, ⟨_, rfl, .d (.refl _)⟩, trivial⟩ ⟨⟨ltd rfl, .inr ⟨by decide, _, rfl, .dat _ _⟩⟩, trivial⟩) ?_
              intro a658 y656 h657
              unfold slices_partitionCmpFunc_span_end_e1_L5 at h657
              refine rk_seq ?_
              refine rk_seq ?_
              refine rk_regionD (by kernel_rfl) ?_
              refine ok_mv rfl rfl ?_
              refine ok_mv rfl rfl ?_
              refine ok_v (.d (.bool (decide (b575 ≤ a658)))) rfl rfl ?_
              obtain ⟨c668, h669, h657⟩ := bindE h657
              refine ok_cutQ 14 (fun A st => ∃ (j670 j671 j672 j673 j674 j675 j676 j677 j678 j679 j680 j681 j682 : V), st = A [(139, .d (.bool c668)), (138, j682), (137, j681), (136, j680), (135, j679), (134, j678), (133, j677), (132, j676), (131, j675), (130, j674), (129, j673), (128, j672), (127, j671), (126, j670)]) ?_ ?_
              · refine ok_mvB rfl rfl h669 (fun h669 => ?_) (fun h669 => ?_)
                · refine ok_mv rfl rfl ?_
                  refine ok_mv rfl rfl ?_
                  refine ok_mv rfl rfl ?_
                  obtain ⟨v683, h684, h669⟩ := bindE h669
                  refine ok_ih h684 rfl rfl rfl rfl rfl rfl rfl ?_
                  refine ok_lh (.d (.agg [.int .i64 v683.at_, .int .i64 v683.list_, .int .i64 v683.by_])) h684 rfl rfl rfl rfl rfl rfl ?_
                  refine ok_mv rfl rfl ?_
                  refine ok_mv rfl rfl ?_
                  obtain ⟨v685, h686, h669⟩ := bindE h669
                  refine ok_ih h686 rfl rfl rfl rfl rfl rfl rfl ?_
                  refine ok_lh (.d (.agg [.int .i64 v685.at_, .int .i64 v685.list_, .int .i64 v685.by_])) h686 rfl rfl rfl rfl rfl rfl ?_
                  obtain ⟨r687, h688, h669⟩ := bindE h669
                  refine ok_pf [.d (.agg [.int .i64 v683.at_, .int .i64 v683.list_, .int .i64 v683.by_]), .d (.agg [.int .i64 v685.at_, .int .i64 v685.list_, .int .i64 v685.by_])] (q1Ok v683 v685 r687 h688) rfl rfl rfl (.inl rfl) ?_
                  refine ok_v (.d (.bool (decide (r687 < 0)))) rfl rfl ?_
                  refine ok_v (.d (.bool (!(decide (r687 < 0))))) rfl rfl ?_
                  refine ok_v (.d (.bool (!(decide (r687 < 0))))) rfl rfl ?_
                  refine ok_nil ?_
                  obtain rfl := someE h669
                  exact ⟨_, _, _, _, _, _, _, _, _, _, _, _, _, rfl⟩
                · refine ok_sg rfl ?_
                  refine ok_sg rfl ?_
                  refine ok_sg rfl ?_
                  refine ok_sg rfl ?_
                  refine ok_sg rfl ?_
                  refine ok_sg rfl ?_
                  refine ok_sg rfl ?_
                  refine ok_sg rfl ?_
                  refine ok_sg rfl ?_
                  refine ok_sg rfl ?_
                  refine ok_sg rfl ?_
                  refine ok_sg rfl ?_
                  refine ok_v (.d (.bool false)) rfl rfl ?_
                  refine ok_nil ?_
                  obtain rfl := someE h669
                  exact ⟨_, _, _, _, _, _, _, _, _, _, _, _, _, rfl⟩
              · rintro _ ⟨j670, j671, j672, j673, j674, j675, j676, j677, j678, j679, j680, j681, j682, rfl⟩
                refine ok_nil ?_
                refine rk_condH rfl h657 (fun _ h657 => ?_) (fun _ h657 => ?_)
                · refine rk_skip ?_
                  refine rk_block ?_
                  refine rk_region ?_
                  refine ok_mv rfl rfl ?_
                  refine ok_v (.d (.int .i64 (w64 (a658 - 1)))) rfl rfl ?_
                  refine ok_as rfl rfl ?_
                  refine ok_nil ?_
                  refine rk_nil ?_
                  refine blk_nor ?_
                  refine rk_nil ?_
                  exact ⟨_, (Option.some.inj h657).symm, wkE [] [] [] rfl ⟨⟨_, rfl, .hs rfl (by decide) (ltd rfl)⟩, ⟨_, rfl, .d (.refl _)⟩, ⟨_, rfl, .d (.refl _)⟩, ⟨_, rfl, .d (.refl _)⟩, ⟨_, rfl, .d (.refl _)⟩, trivial⟩ ⟨⟨ltd rfl, .inr ⟨by decide, _, rfl, .dat _ _⟩⟩, trivial⟩⟩
                · refine rk_exit ?_
                  refine ⟨_, (Option.some.inj h657).symm, fun hm => ?_⟩
                  subst hm
                  exact ⟨_, rfl, wkE [] [] [] rfl ⟨⟨_, rfl, .hs rfl (by decide) (ltd rfl)⟩, ⟨_, rfl, .d (.refl _)⟩, ⟨_, rfl, .d (.refl _)⟩, ⟨_, rfl, .d (.refl _)⟩, ⟨_, rfl, .d (.refl _)⟩, trivial⟩ ⟨⟨ltd rfl, .inr ⟨by decide, _, rfl, .dat _ _⟩⟩, trivial⟩⟩
            · intro b661 hb
              subst hb
              refine rk_seq ?_
              refine rk_seq ?_
              refine rk_region ?_
              refine ok_mv rfl rfl ?_
              refine ok_mv rfl rfl ?_
              refine ok_v (.d (.bool (decide (b575 > b661)))) rfl rfl ?_
              refine ok_nil ?_
              refine rk_condH rfl h513 (fun _ h513 => ?_) (fun _ h513 => ?_)
              · refine rk_exit ?_
                refine ⟨_, (Option.some.inj h513).symm, fun hm => ?_⟩
                subst hm
                exact ⟨_, rfl, wkE [] [] [] rfl ⟨⟨_, rfl, .hs rfl (by decide) (ltd rfl)⟩, ⟨_, rfl, .d (.refl _)⟩, ⟨_, rfl, .d (.refl _)⟩, trivial⟩ ⟨⟨ltd rfl, .inr ⟨by decide, _, rfl, .dat _ _⟩⟩, trivial⟩⟩
              · refine rk_skip ?_
                refine rk_seq ?_
                refine rk_regionD (by kernel_rfl) ?_
                refine ok_mv rfl rfl ?_
                refine ok_mv rfl rfl ?_
                refine ok_mv rfl rfl ?_
                refine ok_mv rfl rfl ?_
                refine ok_mv rfl rfl ?_
                refine ok_mv rfl rfl ?_
                obtain ⟨v689, h690, h513⟩ := bindE h513
                refine ok_ih h690 rfl rfl rfl rfl rfl rfl rfl ?_
                refine ok_lh (.d (.agg [.int .i64 v689.at_, .int .i64 v689.list_, .int .i64 v689.by_])) h690 rfl rfl rfl rfl rfl rfl ?_
                refine ok_mv rfl rfl ?_
                refine ok_mv rfl rfl ?_
                obtain ⟨v691, h692, h513⟩ := bindE h513
                refine ok_ih h692 rfl rfl rfl rfl rfl rfl rfl ?_
                refine ok_lh (.d (.agg [.int .i64 v691.at_, .int .i64 v691.list_, .int .i64 v691.by_])) h692 rfl rfl rfl rfl rfl rfl ?_
                obtain ⟨v693, h694, h513⟩ := bindE h513
                refine ok_ih h694 rfl rfl rfl rfl rfl rfl rfl ?_
                refine ok_sh (ds := [.int .i64 v689.at_, .int .i64 v689.list_, .int .i64 v689.by_]) v689 h694 rfl rfl rfl rfl rfl rfl rfl rfl (leb rfl) rfl ?_
                obtain ⟨v695, h696, h513⟩ := bindE h513
                refine ok_ih h696 (by simp) rfl rfl rfl rfl rfl rfl ?_
                refine ok_sh (ds := [.int .i64 v691.at_, .int .i64 v691.list_, .int .i64 v691.by_]) v691 h696 rfl rfl rfl rfl rfl rfl rfl rfl (leb rfl) rfl ?_
                refine ok_nil ?_
                refine rk_seq ?_
                refine rk_region ?_
                refine ok_mv rfl rfl ?_
                refine ok_v (.d (.int .i64 (w64 (b575 + 1)))) rfl rfl ?_
                refine ok_as rfl rfl ?_
                refine ok_nil ?_
                refine rk_region ?_
                refine ok_mv rfl rfl ?_
                refine ok_v (.d (.int .i64 (w64 (b661 - 1)))) rfl rfl ?_
                refine ok_as rfl rfl ?_
                refine ok_nil ?_
                refine rk_nil ?_
                refine blk_nor ?_
                refine rk_nil ?_
                exact ⟨_, (Option.some.inj h513).symm, wkE [] [] [] rfl ⟨⟨_, rfl, wv_hsL (by simp) rfl (by decide) (ltd rfl)⟩, ⟨_, rfl, .d (.refl _)⟩, ⟨_, rfl, .d (.refl _)⟩, ⟨_, rfl, .d (.refl _)⟩, ⟨_, rfl, .d (.refl _)⟩, trivial⟩ ⟨⟨ltd rfl, .inr ⟨by decide, _, rfl, .dat _ _⟩⟩, trivial⟩⟩
        · intro b517 hb
          subst hb
          refine rk_seq ?_
          refine rk_regionD (by kernel_rfl) ?_
          refine ok_mv rfl rfl ?_
          refine ok_mv rfl rfl ?_
          refine ok_mv rfl rfl ?_
          refine ok_mv rfl rfl ?_
          refine ok_mv rfl rfl ?_
          refine ok_mv rfl rfl ?_
          obtain ⟨v697, h698, h0⟩ := bindE h0
          refine ok_ih h698 rfl rfl rfl rfl rfl rfl rfl ?_
          refine ok_lh (.d (.agg [.int .i64 v697.at_, .int .i64 v697.list_, .int .i64 v697.by_])) h698 rfl rfl rfl rfl rfl rfl ?_
          refine ok_mv rfl rfl ?_
          refine ok_mv rfl rfl ?_
          obtain ⟨v699, h700, h0⟩ := bindE h0
          refine ok_ih h700 rfl rfl rfl rfl rfl rfl rfl ?_
          refine ok_lh (.d (.agg [.int .i64 v699.at_, .int .i64 v699.list_, .int .i64 v699.by_])) h700 rfl rfl rfl rfl rfl rfl ?_
          obtain ⟨v701, h702, h0⟩ := bindE h0
          refine ok_ih h702 rfl rfl rfl rfl rfl rfl rfl ?_
          refine ok_sh (ds := [.int .i64 v697.at_, .int .i64 v697.list_, .int .i64 v697.by_]) v697 h702 rfl rfl rfl rfl rfl rfl rfl rfl (leb rfl) rfl ?_
          obtain ⟨v703, h704, h0⟩ := bindE h0
          refine ok_ih h704 (by simp) rfl rfl rfl rfl rfl rfl ?_
          refine ok_sh (ds := [.int .i64 v699.at_, .int .i64 v699.list_, .int .i64 v699.by_]) v699 h704 rfl rfl rfl rfl rfl rfl rfl rfl (leb rfl) rfl ?_
          refine ok_nil ?_
          refine rk_seq ?_
          refine rk_region ?_
          refine ok_mv rfl rfl ?_
          refine ok_as rfl rfl ?_
          refine ok_as rfl rfl ?_
          refine ok_nil ?_
          refine rk_ret ?_
          obtain rfl := someE h0
          exact ⟨.inr rfl, _, rfl, wkE [] [] [] rfl ⟨⟨_, rfl, .d (.refl _)⟩, trivial⟩ ⟨⟨ltd rfl, .inr ⟨by decide, _, rfl, .dat _ _⟩⟩, trivial⟩⟩

theorem slices_pdqsortCmpFunc_span_end_e2_b_eff (rec : List span_end → Int → Int → Int → Option (List span_end)) (q1 : span_end → span_end → Option Int) (q1F : FuncId) (q1C : List DV) (q1Ok : ∀ (x0 : span_end) (x1 : span_end) (r : Int), q1 x0 x1 = some r → Pure Try.prog tab q1F ([.agg [.int .i64 x0.at_, .int .i64 x0.list_, .int .i64 x0.by_], .agg [.int .i64 x1.at_, .int .i64 x1.list_, .int .i64 x1.by_]] ++ q1C) (.int .i64 r)) (hrec : ∀ (p0 : List span_end) (p1 : Int) (p2 : Int) (p3 : Int) (r : List span_end), rec p0 p1 p2 p3 = some r → EvCall Try.prog tab 56 [.hs 0 3 0 p0.length, .d (.int .i64 p1), .d (.int .i64 p2), .d (.int .i64 p3), .d (.fn q1F q1C)] [(0, .dat 3 (p0.map enc_span_end))] 1 (.d (.tup [])) [(0, .dat 3 (r.map enc_span_end))] 1) (p0 : List span_end) (p1 : Int) (p2 : Int) (p3 : Int) (r : List span_end) (h0 : slices_pdqsortCmpFunc_span_end_e2_b rec q1 p0 p1 p2 p3 = some r) : EvCall Try.prog tab 56 [.hs 0 3 0 p0.length, .d (.int .i64 p1), .d (.int .i64 p2), .d (.int .i64 p3), .d (.fn q1F q1C)] [(0, .dat 3 (p0.map enc_span_end))] 1 (.d (.tup [])) [(0, .dat 3 (r.map enc_span_end))] 1 := by
  unfold slices_pdqsortCmpFunc_span_end_e2_b at h0
  refine eff_of_run Try.func56 rfl (by kernel_rfl) (by kernel_rfl) rfl ?_
  refine rk_seq ?_
  refine rk_region ?_
  refine ok_as rfl rfl ?_
  refine ok_nil ?_
  refine rk_seq ?_
  refine rk_region ?_
  refine ok_as rfl rfl ?_
  refine ok_nil ?_
  obtain ⟨m310, h311, h0⟩ := bindE h0
  refine rk_block ?_
  refine rk_loopF (slices_pdqsortCmpFunc_span_end_e2_L1 q1 rec) (fun (a309 : Int × Int × Int × Bool × Bool × List span_end) => ⟨[(0, .hs 0 3 0 a309.2.2.2.2.2.length), (1, .d (.int .i64 a309.1)), (2, .d (.int .i64 a309.2.1)), (3, .d (.int .i64 a309.2.2.1)), (4, .d (.fn q1F q1C)), (10, .d (.bool a309.2.2.2.1)), (11, .d (.bool a309.2.2.2.2.1))], [(0, .dat 3 (a309.2.2.2.2.2.map enc_span_end))], 1⟩) (p1, p2, p3, true, true, p0) m310 h311 (wkE [] [] [] rfl ⟨⟨_, rfl, .hs rfl (by decide) (ltd rfl)⟩, ⟨_, rfl, .d (.refl _)⟩, ⟨_, rfl, .d (.refl _)⟩, ⟨_, rfl, .d (.refl _)⟩, ⟨_, rfl, .d (.refl _)⟩, ⟨_, rfl, .d (.refl _)⟩, ⟨_, rfl, .d (.refl _)⟩, trivial⟩ ⟨⟨ltd rfl, .inr ⟨by decide, _, rfl, .dat _ _⟩⟩, trivial⟩) ?_
  intro a309 y307 h308
  unfold slices_pdqsortCmpFunc_span_end_e2_L1 at h308
  refine rk_block ?_
  refine rk_seq ?_
  refine rk_region ?_
  refine ok_mv rfl rfl ?_
  refine ok_mv rfl rfl ?_
  refine ok_v (.d (.int .i64 (w64 (a309.2.1 - a309.1)))) rfl rfl ?_
  refine ok_as rfl rfl ?_
  refine ok_nil ?_
  refine rk_seq ?_
  refine rk_seq ?_
  refine rk_region ?_
  refine ok_mv rfl rfl ?_
  refine ok_v (.d (.bool (decide ((w64 (a309.2.1 - a309.1)) ≤ 12)))) rfl rfl ?_
  refine ok_nil ?_
  refine rk_condH rfl h308 (fun _ h308 => ?_) (fun _ h308 => ?_)
  · refine rk_seq ?_
    refine rk_region ?_
    refine ok_mv rfl rfl ?_
    refine ok_mv rfl rfl ?_
    refine ok_mv rfl rfl ?_
    refine ok_mv rfl rfl ?_
    obtain ⟨e318, h319, h308⟩ := bindE h308
    obtain ⟨u320, h321, h308⟩ := bindE h308
    have h322 := lenEq_some h321
    refine ok_callF [(0, 0)] [(0, 0)] [.hs 0 3 0 a309.2.2.2.2.2.length, .d (.int .i64 a309.1), .d (.int .i64 a309.2.1), .d (.fn q1F q1C)] (.d (.tup [])) [(0, .dat 3 (e318.map enc_span_end))] [(0, .dat 3 (e318.map enc_span_end))] 1 (slices_insertionSortCmpFunc_span_end_e1_eff q1 q1F q1C q1Ok a309.2.2.2.2.2 a309.1 a309.2.1 e318 h319) rfl rfl rfl (wk_mk [(0, 0)] [] [] rfl ⟨⟨_, rfl, .hs rfl (by decide) (ltd rfl)⟩, ⟨_, rfl, .d (.refl _)⟩, ⟨_, rfl, .d (.refl _)⟩, ⟨_, rfl, .d (.refl _)⟩, trivial⟩ ⟨⟨ltd rfl, .inr ⟨by decide, _, rfl, .dat _ _⟩⟩, trivial⟩) (wk_mk [(0, 0)] [] [] rfl ⟨⟨_, rfl, .d (.refl _)⟩, trivial⟩ ⟨⟨ltd rfl, .inr ⟨by decide, _, rfl, .dat _ _⟩⟩, trivial⟩) rfl ⟨.inl rfl, trivial⟩ ?_
    refine ok_nil ?_
    refine rk_ret ?_
    refine ⟨_, (Option.some.inj h308).symm, fun hm => ?_⟩
    subst hm
    obtain rfl := someE h0
    exact ⟨.inr rfl, _, rfl, wkE [] [] [] rfl ⟨⟨_, rfl, .d (.refl _)⟩, trivial⟩ ⟨⟨ltd rfl, .inr ⟨by decide, _, rfl, .dat _ _⟩⟩, trivial⟩⟩
  · refine rk_skip ?_
    refine rk_seq ?_
    refine rk_seq ?_
    refine rk_region ?_
    refine ok_mv rfl rfl ?_
    refine ok_v (.d (.bool (a309.2.2.1 == 0))) rfl rfl ?_
    refine ok_nil ?_
    refine rk_condH rfl h308 (fun _ h308 => ?_) (fun _ h308 => ?_)
    · refine rk_seq ?_
      refine rk_region ?_
      refine ok_mv rfl rfl ?_
      refine ok_mv rfl rfl ?_
      refine ok_mv rfl rfl ?_
      refine ok_mv rfl rfl ?_
      obtain ⟨e328, h329, h308⟩ := bindE h308
      obtain ⟨u330, h331, h308⟩ := bindE h308
      have h332 := lenEq_some h331
      refine ok_callF [(0, 0)] [(0, 0)] [.hs 0 3 0 a309.2.2.2.2.2.length, .d (.int .i64 a309.1), .d (.int .i64 a309.2.1), .d (.fn q1F q1C)] (.d (.tup [])) [(0, .dat 3 (e328.map enc_span_end))] [(0, .dat 3 (e328.map enc_span_end))] 1 (slices_heapSortCmpFunc_span_end_e1_eff q1 q1F q1C q1Ok a309.2.2.2.2.2 a309.1 a309.2.1 e328 h329) rfl rfl rfl (wk_mk [(0, 0)] [] [] rfl ⟨⟨_, rfl, .hs rfl (by decide) (ltd rfl)⟩, ⟨_, rfl, .d (.refl _)⟩, ⟨_, rfl, .d (.refl _)⟩, ⟨_, rfl, .d (.refl _)⟩, trivial⟩ ⟨⟨ltd rfl, .inr ⟨by decide, _, rfl, .dat _ _⟩⟩, trivial⟩) (wk_mk [(0, 0)] [] [] rfl ⟨⟨_, rfl, .d (.refl _)⟩, trivial⟩ ⟨⟨ltd rfl, .inr ⟨by decide, _, rfl, .dat _ _⟩⟩, trivial⟩) rfl ⟨.inl rfl, trivial⟩ ?_
      refine ok_nil ?_
      refine rk_ret ?_
      refine ⟨_, (Option.some.inj h308).symm, fun hm => ?_⟩
      subst hm
      obtain rfl := someE h0
      exact ⟨.inr rfl, _, rfl, wkE [] [] [] rfl ⟨⟨_, rfl, .d (.refl _)⟩, trivial⟩ ⟨⟨ltd rfl, .inr ⟨by decide, _, rfl, .dat _ _⟩⟩, trivial⟩⟩
    · refine rk_skip ?_
      refine rk_seq ?_
      refine rk_seq ?_
      refine rk_region ?_
      refine ok_mv rfl rfl ?_
      refine ok_v (.d (.bool (!a309.2.2.2.1))) rfl rfl ?_
      refine ok_nil ?_
      obtain ⟨m339, h338, h308⟩ := bindE h308
      refine rk_cut (fun b340 => b340 = m339) (fun (b340 : Int × List span_end) => ⟨[(0, .hs 0 3 0 b340.2.length), (1, .d (.int .i64 a309.1)), (2, .d (.int .i64 a309.2.1)), (3, .d (.int .i64 b340.1)), (4, .d (.fn q1F q1C)), (10, .d (.bool a309.2.2.2.1)), (11, .d (.bool a309.2.2.2.2.1)), (12, .d (.int .i64 (w64 (a309.2.1 - a309.1))))], [(0, .dat 3 (b340.2.map enc_span_end))], 1⟩) (by simp) ?_ ?_
      · refine rk_condH rfl h338 (fun _ h338 => ?_) (fun _ h338 => ?_)
        · refine rk_seq ?_
          refine rk_region ?_
          refine ok_mv rfl rfl ?_
          refine ok_mv rfl rfl ?_
          refine ok_mv rfl rfl ?_
          refine ok_mv rfl rfl ?_
          obtain ⟨e341, h342, h338⟩ := bindE h338
          obtain ⟨u343, h344, h338⟩ := bindE h338
          have h345 := lenEq_some h344
          refine ok_callF [(0, 0)] [(0, 0)] [.hs 0 3 0 a309.2.2.2.2.2.length, .d (.int .i64 a309.1), .d (.int .i64 a309.2.1), .d (.fn q1F q1C)] (.d (.tup [])) [(0, .dat 3 (e341.map enc_span_end))] [(0, .dat 3 (e341.map enc_span_end))] 1 (slices_breakPatternsCmpFunc_span_end_e1_eff q1 q1F q1C q1Ok a309.2.2.2.2.2 a309.1 a309.2.1 e341 h342) rfl rfl rfl (wk_mk [(0, 0)] [] [] rfl ⟨⟨_, rfl, .hs rfl (by decide) (ltd rfl)⟩, ⟨_, rfl, .d (.refl _)⟩, ⟨_, rfl, .d (.refl _)⟩, ⟨_, rfl, .d (.refl _)⟩, trivial⟩ ⟨⟨ltd rfl, .inr ⟨by decide, _, rfl, .dat _ _⟩⟩, trivial⟩) (wk_mk [(0, 0)] [] [] rfl ⟨⟨_, rfl, .d (.refl _)⟩, trivial⟩ ⟨⟨ltd rfl, .inr ⟨by decide, _, rfl, .dat _ _⟩⟩, trivial⟩) rfl ⟨.inl rfl, trivial⟩ ?_
          refine ok_nil ?_
          refine rk_region ?_
          refine ok_mv rfl rfl ?_
          refine ok_v (.d (.int .i64 (w64 (a309.2.2.1 - 1)))) rfl rfl ?_
          refine ok_as rfl rfl ?_
          refine ok_nil ?_
          refine rk_nil ?_
          obtain rfl := someE h338
          exact ⟨_, rfl, wkE [] [] [] rfl ⟨⟨_, rfl, wv_hsL (by simp [h345]) rfl (by decide) (ltd rfl)⟩, ⟨_, rfl, .d (.refl _)⟩, ⟨_, rfl, .d (.refl _)⟩, ⟨_, rfl, .d (.refl _)⟩, ⟨_, rfl, .d (.refl _)⟩, ⟨_, rfl, .d (.refl _)⟩, ⟨_, rfl, .d (.refl _)⟩, ⟨_, rfl, .d (.refl _)⟩, trivial⟩ ⟨⟨ltd rfl, .inr ⟨by decide, _, rfl, .dat _ _⟩⟩, trivial⟩⟩
        · refine rk_skip ?_
          refine rk_nil ?_
          obtain rfl := someE h338
          exact ⟨_, rfl, wkE [] [] [] rfl ⟨⟨_, rfl, .hs rfl (by decide) (ltd rfl)⟩, ⟨_, rfl, .d (.refl _)⟩, ⟨_, rfl, .d (.refl _)⟩, ⟨_, rfl, .d (.refl _)⟩, ⟨_, rfl, .d (.refl _)⟩, ⟨_, rfl, .d (.refl _)⟩, ⟨_, rfl, .d (.refl _)⟩, ⟨_, rfl, .d (.refl _)⟩, trivial⟩ ⟨⟨ltd rfl, .inr ⟨by decide, _, rfl, .dat _ _⟩⟩, trivial⟩⟩
      · intro b340 hb
        subst hb
        refine rk_seq ?_
        refine rk_region ?_
        refine ok_mv rfl rfl ?_
        refine ok_mv rfl rfl ?_
        refine ok_mv rfl rfl ?_
        refine ok_mv rfl rfl ?_
        obtain ⟨r346, h347, h308⟩ := bindE h308
        refine ok_pc [.hs 0 3 0 b340.2.length, .d (.int .i64 a309.1), .d (.int .i64 a309.2.1), .d (.fn q1F q1C)] (slices_choosePivotCmpFunc_span_end_ok b340.2 a309.1 a309.2.1 q1 q1F q1C q1Ok r346 h347) rfl rfl (af_cons (td_hs rfl rfl) (af_cons rfl (af_cons rfl (af_cons rfl rfl)))) (.inr rfl) ?_
        refine ok_mv rfl rfl ?_
        refine ok_v (.d (.int .i64 r346.1)) rfl rfl ?_
        refine ok_v (.d (.int .i64 r346.2)) rfl rfl ?_
        refine ok_as rfl rfl ?_
        refine ok_as rfl rfl ?_
        refine ok_nil ?_
        refine rk_seq ?_
        refine rk_seq ?_
        refine rk_region ?_
        refine ok_mv rfl rfl ?_
        refine ok_v (.d (.bool (r346.2 == 2))) rfl rfl ?_
        refine ok_nil ?_
        obtain ⟨m354, h353, h308⟩ := bindE h308
        refine rk_cut (fun b355 => b355 = m354) (fun (b355 : Int × Int × List span_end) => ⟨[(0, .hs 0 3 0 b355.2.2.length), (1, .d (.int .i64 a309.1)), (2, .d (.int .i64 a309.2.1)), (3, .d (.int .i64 b340.1)), (4, .d (.fn q1F q1C)), (10, .d (.bool a309.2.2.2.1)), (11, .d (.bool a309.2.2.2.2.1)), (12, .d (.int .i64 (w64 (a309.2.1 - a309.1)))), (13, .d (.int .i64 b355.1)), (14, .d (.int .i64 b355.2.1))], [(0, .dat 3 (b355.2.2.map enc_span_end))], 1⟩) (by simp) ?_ ?_
        · refine rk_condH rfl h353 (fun _ h353 => ?_) (fun _ h353 => ?_)
          · refine rk_seq ?_
            refine rk_region ?_
            refine ok_mv rfl rfl ?_
            refine ok_mv rfl rfl ?_
            refine ok_mv rfl rfl ?_
            refine ok_mv rfl rfl ?_
            obtain ⟨e356, h357, h353⟩ := bindE h353
            obtain ⟨u358, h359, h353⟩ := bindE h353
            have h360 := lenEq_some h359
            refine ok_callF [(0, 0)] [(0, 0)] [.hs 0 3 0 b340.2.length, .d (.int .i64 a309.1), .d (.int .i64 a309.2.1), .d (.fn q1F q1C)] (.d (.tup [])) [(0, .dat 3 (e356.map enc_span_end))] [(0, .dat 3 (e356.map enc_span_end))] 1 (slices_reverseRangeCmpFunc_span_end_e1_eff q1 q1F q1C q1Ok b340.2 a309.1 a309.2.1 e356 h357) rfl rfl rfl (wk_mk [(0, 0)] [] [] rfl ⟨⟨_, rfl, .hs rfl (by decide) (ltd rfl)⟩, ⟨_, rfl, .d (.refl _)⟩, ⟨_, rfl, .d (.refl _)⟩, ⟨_, rfl, .d (.refl _)⟩, trivial⟩ ⟨⟨ltd rfl, .inr ⟨by decide, _, rfl, .dat _ _⟩⟩, trivial⟩) (wk_mk [(0, 0)] [] [] rfl ⟨⟨_, rfl, .d (.refl _)⟩, trivial⟩ ⟨⟨ltd rfl, .inr ⟨by decide, _, rfl, .dat _ _⟩⟩, trivial⟩) rfl ⟨.inl rfl, trivial⟩ ?_
            refine ok_nil ?_
            refine rk_seq ?_
            refine rk_region ?_
            refine ok_mv rfl rfl ?_
            refine ok_v (.d (.int .i64 (w64 (a309.2.1 - 1)))) rfl rfl ?_
            refine ok_mv rfl rfl ?_
            refine ok_mv rfl rfl ?_
            refine ok_v (.d (.int .i64 (w64 (r346.1 - a309.1)))) rfl rfl ?_
            refine ok_v (.d (.int .i64 (w64 ((w64 (a309.2.1 - 1)) - (w64 (r346.1 - a309.1)))))) rfl rfl ?_
            refine ok_as rfl rfl ?_
            refine ok_nil ?_
            refine rk_region ?_
            refine ok_as rfl rfl ?_
            refine ok_nil ?_
            refine rk_nil ?_
            obtain rfl := someE h353
            exact ⟨_, rfl, wkE [] [] [] rfl ⟨⟨_, rfl, wv_hsL (by simp [h360]) rfl (by decide) (ltd rfl)⟩, ⟨_, rfl, .d (.refl _)⟩, ⟨_, rfl, .d (.refl _)⟩, ⟨_, rfl, .d (.refl _)⟩, ⟨_, rfl, .d (.refl _)⟩, ⟨_, rfl, .d (.refl _)⟩, ⟨_, rfl, .d (.refl _)⟩, ⟨_, rfl, .d (.refl _)⟩, ⟨_, rfl, .d (.refl _)⟩, ⟨_, rfl, .d (.refl _)⟩, trivial⟩ ⟨⟨ltd rfl, .inr ⟨by decide, _, rfl, .dat _ _⟩⟩, trivial⟩⟩
          · refine rk_skip ?_
            refine rk_nil ?_
            obtain rfl := someE h353
            exact ⟨_, rfl, wkE [] [] [] rfl ⟨⟨_, rfl, .hs rfl (by decide) (ltd rfl)⟩, ⟨_, rfl, .d (.refl _)⟩, ⟨_, rfl, .d (.refl _)⟩, ⟨_, rfl, .d (.refl _)⟩, ⟨_, rfl, .d (.refl _)⟩, ⟨_, rfl, .d (.refl _)⟩, ⟨_, rfl, .d (.refl _)⟩, ⟨_, rfl, .d (.refl _)⟩, ⟨_, rfl, .d (.refl _)⟩, ⟨_, rfl, .d (.refl _)⟩, trivial⟩ ⟨⟨ltd rfl, .inr ⟨by decide, _, rfl, .dat _ _⟩⟩, trivial⟩⟩
        · intro b355 hb
          subst hb
          refine rk_seq ?_
          refine rk_seq ?_
          refine rk_region ?_
          refine ok_mv rfl rfl ?_
          obtain ⟨c361, h362, h308⟩ := bindE h308
          refine ok_cutQ 3 (fun A st => ∃ (j363 j364 : V), st = A [(71, .d (.bool c361)), (70, j364), (69, j363)]) ?_ ?_
          · refine ok_mvB rfl rfl h362 (fun h362 => ?_) (fun h362 => ?_)
            · refine ok_mv rfl rfl ?_
              refine ok_v (.d (.bool a309.2.2.2.2.1)) rfl rfl ?_
              refine ok_nil ?_
              obtain rfl := someE h362
              exact ⟨_, _, rfl⟩
            · refine ok_sg rfl ?_
              refine ok_v (.d (.bool false)) rfl rfl ?_
              refine ok_nil ?_
              obtain rfl := someE h362
              exact ⟨_, _, rfl⟩
          · rintro _ ⟨j363, j364, rfl⟩
            obtain ⟨c365, h366, h308⟩ := bindE h308
            refine ok_cutQ 4 (fun A st => ∃ (j367 j368 j369 : V), st = A [(75, .d (.bool c365)), (74, j369), (73, j368), (72, j367)]) ?_ ?_
            · refine ok_mvB rfl rfl h366 (fun h366 => ?_) (fun h366 => ?_)
              · refine ok_mv rfl rfl ?_
                refine ok_v (.d (.bool (b355.2.1 == 1))) rfl rfl ?_
                refine ok_v (.d (.bool (b355.2.1 == 1))) rfl rfl ?_
                refine ok_nil ?_
                obtain rfl := someE h366
                exact ⟨_, _, _, rfl⟩
              · refine ok_sg rfl ?_
                refine ok_sg rfl ?_
                refine ok_v (.d (.bool false)) rfl rfl ?_
                refine ok_nil ?_
                obtain rfl := someE h366
                exact ⟨_, _, _, rfl⟩
            · rintro _ ⟨j367, j368, j369, rfl⟩
              refine ok_nil ?_
              obtain ⟨m376, h375, h308⟩ := bindE h308
              refine rk_cut (fun b377 => .inl b377 = m376) (fun (b377 : List span_end) => ⟨[(0, .hs 0 3 0 b377.length), (1, .d (.int .i64 a309.1)), (2, .d (.int .i64 a309.2.1)), (3, .d (.int .i64 b340.1)), (4, .d (.fn q1F q1C)), (10, .d (.bool a309.2.2.2.1)), (11, .d (.bool a309.2.2.2.2.1)), (12, .d (.int .i64 (w64 (a309.2.1 - a309.1)))), (13, .d (.int .i64 b355.1))], [(0, .dat 3 (b377.map enc_span_end))], 1⟩) (by simp) ?_ ?_
              · refine rk_condH rfl h375 (fun _ h375 => ?_) (fun _ h375 => ?_)
                · refine rk_seq ?_
                  refine rk_region ?_
                  refine ok_mv rfl rfl ?_
                  refine ok_mv rfl rfl ?_
                  refine ok_mv rfl rfl ?_
                  refine ok_mv rfl rfl ?_
                  obtain ⟨e378, h379, h375⟩ := bindE h375
                  obtain ⟨u380, h381, h375⟩ := bindE h375
                  have h382 := lenEq_some h381
                  refine ok_callF [(0, 0)] [(0, 0)] [.hs 0 3 0 b355.2.2.length, .d (.int .i64 a309.1), .d (.int .i64 a309.2.1), .d (.fn q1F q1C)] (.d (.bool e378.1)) [(0, .dat 3 (e378.2.map enc_span_end))] [(0, .dat 3 (e378.2.map enc_span_end))] 1 (slices_partialInsertionSortCmpFunc_span_end_e1_eff q1 q1F q1C q1Ok b355.2.2 a309.1 a309.2.1 e378 h379) rfl rfl rfl (wk_mk [(0, 0)] [] [] rfl ⟨⟨_, rfl, .hs rfl (by decide) (ltd rfl)⟩, ⟨_, rfl, .d (.refl _)⟩, ⟨_, rfl, .d (.refl _)⟩, ⟨_, rfl, .d (.refl _)⟩, trivial⟩ ⟨⟨ltd rfl, .inr ⟨by decide, _, rfl, .dat _ _⟩⟩, trivial⟩) (wk_mk [(0, 0)] [] [] rfl ⟨⟨_, rfl, .d (.refl _)⟩, trivial⟩ ⟨⟨ltd rfl, .inr ⟨by decide, _, rfl, .dat _ _⟩⟩, trivial⟩) rfl ⟨.inl rfl, trivial⟩ ?_
                  refine ok_nil ?_
                  refine rk_condH rfl h375 (fun _ h375 => ?_) (fun _ h375 => ?_)
                  · refine rk_ret ?_
                    obtain rfl := someE h375
                    refine ⟨_, (Option.some.inj h308).symm, fun hm => ?_⟩
                    subst hm
                    obtain rfl := someE h0
                    exact ⟨.inr rfl, _, rfl, wkE [] [] [] rfl ⟨⟨_, rfl, .d (.refl _)⟩, trivial⟩ ⟨⟨ltd rfl, .inr ⟨by decide, _, rfl, .dat _ _⟩⟩, trivial⟩⟩
                  · refine rk_skip ?_
                    refine rk_nil ?_
                    obtain rfl := someE h375
                    exact ⟨_, rfl, wkE [] [] [] rfl ⟨⟨_, rfl, wv_hsL (by simp [h382]) rfl (by decide) (ltd rfl)⟩, ⟨_, rfl, .d (.refl _)⟩, ⟨_, rfl, .d (.refl _)⟩, ⟨_, rfl, .d (.refl _)⟩, ⟨_, rfl, .d (.refl _)⟩, ⟨_, rfl, .d (.refl _)⟩, ⟨_, rfl, .d (.refl _)⟩, ⟨_, rfl, .d (.refl _)⟩, ⟨_, rfl, .d (.refl _)⟩, trivial⟩ ⟨⟨ltd rfl, .inr ⟨by decide, _, rfl, .dat _ _⟩⟩, trivial⟩⟩
                · refine rk_skip ?_
                  refine rk_nil ?_
                  obtain rfl := someE h375
                  exact ⟨_, rfl, wkE [] [] [] rfl ⟨⟨_, rfl, .hs rfl (by decide) (ltd rfl)⟩, ⟨_, rfl, .d (.refl _)⟩, ⟨_, rfl, .d (.refl _)⟩, ⟨_, rfl, .d (.refl _)⟩, ⟨_, rfl, .d (.refl _)⟩, ⟨_, rfl, .d (.refl _)⟩, ⟨_, rfl, .d (.refl _)⟩, ⟨_, rfl, .d (.refl _)⟩, ⟨_, rfl, .d (.refl _)⟩, trivial⟩ ⟨⟨ltd rfl, .inr ⟨by decide, _, rfl, .dat _ _⟩⟩, trivial⟩⟩
              · intro b377 hb
                subst hb
                refine rk_seq ?_
                refine rk_seq ?_
                refine rk_regionD (by kernel_rfl) ?_
                refine ok_mv rfl rfl ?_
                refine ok_v (.d (.bool (decide (a309.1 > 0)))) rfl rfl ?_
                obtain ⟨c389, h390, h308⟩ := bindE h308
                refine ok_cutQ 15 (fun A st => ∃ (j391 j392 j393 j394 j395 j396 j397 j398 j399 j400 j401 j402 j403 j404 : V), st = A [(97, .d (.bool c389)), (96, j404), (95, j403), (94, j402), (93, j401), (92, j400), (91, j399), (90, j398), (89, j397), (88, j396), (87, j395), (86, j394), (85, j393), (84, j392), (83, j391)]) ?_ ?_
                · refine ok_mvB rfl rfl h390 (fun h390 => ?_) (fun h390 => ?_)
                  · refine ok_mv rfl rfl ?_
                    refine ok_mv rfl rfl ?_
                    refine ok_mv rfl rfl ?_
                    refine ok_v (.d (.int .i64 (w64 (a309.1 - 1)))) rfl rfl ?_
                    obtain ⟨v405, h406, h390⟩ := bindE h390
                    refine ok_ih h406 rfl rfl rfl rfl rfl rfl rfl ?_
                    refine ok_lh (.d (.agg [.int .i64 v405.at_, .int .i64 v405.list_, .int .i64 v405.by_])) h406 rfl rfl rfl rfl rfl rfl ?_
                    refine ok_mv rfl rfl ?_
                    refine ok_mv rfl rfl ?_
                    obtain ⟨v407, h408, h390⟩ := bindE h390
                    refine ok_ih h408 rfl rfl rfl rfl rfl rfl rfl ?_
                    refine ok_lh (.d (.agg [.int .i64 v407.at_, .int .i64 v407.list_, .int .i64 v407.by_])) h408 rfl rfl rfl rfl rfl rfl ?_
                    obtain ⟨r409, h410, h390⟩ := bindE h390
                    refine ok_pf [.d (.agg [.int .i64 v405.at_, .int .i64 v405.list_, .int .i64 v405.by_]), .d (.agg [.int .i64 v407.at_, .int .i64 v407.list_, .int .i64 v407.by_])] (q1Ok v405 v407 r409 h410) rfl rfl rfl (.inl rfl) ?_
                    refine ok_v (.d (.bool (decide (r409 < 0)))) rfl rfl ?_
                    refine ok_v (.d (.bool (!(decide (r409 < 0))))) rfl rfl ?_
                    refine ok_v (.d (.bool (!(decide (r409 < 0))))) rfl rfl ?_
                    refine ok_nil ?_
                    obtain rfl := someE h390
                    exact ⟨_, _, _, _, _, _, _, _, _, _, _, _, _, _, rfl⟩
                  · refine ok_sg rfl ?_
                    refine ok_sg rfl ?_
                    refine ok_sg rfl ?_
                    refine ok_sg rfl ?_
                    refine ok_sg rfl ?_
                    refine ok_sg rfl ?_
                    refine ok_sg rfl ?_
                    refine ok_sg rfl ?_
                    refine ok_sg rfl ?_
                    refine ok_sg rfl ?_
                    refine ok_sg rfl ?_
                    refine ok_sg rfl ?_
                    refine ok_sg rfl ?_
                    refine ok_v (.d (.bool false)) rfl rfl ?_
                    refine ok_nil ?_
                    obtain rfl := someE h390
                    exact ⟨_, _, _, _, _, _, _, _, _, _, _, _, _, _, rfl⟩
                · rintro _ ⟨j391, j392, j393, j394, j395, j396, j397, j398, j399, j400, j401, j402, j403, j404, rfl⟩
                  refine ok_nil ?_
                  refine rk_condH rfl h308 (fun _ h308 => ?_) (fun _ h308 => ?_)
                  · refine rk_seq ?_
                    refine rk_region ?_
                    refine ok_mv rfl rfl ?_
                    refine ok_mv rfl rfl ?_
                    refine ok_mv rfl rfl ?_
                    refine ok_mv rfl rfl ?_
                    refine ok_mv rfl rfl ?_
                    obtain ⟨e416, h417, h308⟩ := bindE h308
                    obtain ⟨u418, h419, h308⟩ := bindE h308
                    have h420 := lenEq_some h419
                    refine ok_callF [(0, 0)] [(0, 0)] [.hs 0 3 0 b377.length, .d (.int .i64 a309.1), .d (.int .i64 a309.2.1), .d (.int .i64 b355.1), .d (.fn q1F q1C)] (.d (.int .i64 e416.1)) [(0, .dat 3 (e416.2.map enc_span_end))] [(0, .dat 3 (e416.2.map enc_span_end))] 1 (slices_partitionEqualCmpFunc_span_end_e1_eff q1 q1F q1C q1Ok b377 a309.1 a309.2.1 b355.1 e416 h417) rfl rfl rfl (wk_mk [(0, 0)] [] [] rfl ⟨⟨_, rfl, .hs rfl (by decide) (ltd rfl)⟩, ⟨_, rfl, .d (.refl _)⟩, ⟨_, rfl, .d (.refl _)⟩, ⟨_, rfl, .d (.refl _)⟩, ⟨_, rfl, .d (.refl _)⟩, trivial⟩ ⟨⟨ltd rfl, .inr ⟨by decide, _, rfl, .dat _ _⟩⟩, trivial⟩) (wk_mk [(0, 0)] [] [] rfl ⟨⟨_, rfl, .d (.refl _)⟩, trivial⟩ ⟨⟨ltd rfl, .inr ⟨by decide, _, rfl, .dat _ _⟩⟩, trivial⟩) rfl ⟨.inl rfl, trivial⟩ ?_
                    refine ok_as rfl rfl ?_
                    refine ok_nil ?_
                    refine rk_seq ?_
                    refine rk_region ?_
                    refine ok_mv rfl rfl ?_
                    refine ok_as rfl rfl ?_
                    refine ok_nil ?_
                    refine rk_exit ?_
                    refine blk_eq ?_
                    refine rk_nil ?_
                    exact ⟨_, (Option.some.inj h308).symm, wkE [] [] [] rfl ⟨⟨_, rfl, wv_hsL (by simp [h420]) rfl (by decide) (ltd rfl)⟩, ⟨_, rfl, .d (.refl _)⟩, ⟨_, rfl, .d (.refl _)⟩, ⟨_, rfl, .d (.refl _)⟩, ⟨_, rfl, .d (.refl _)⟩, ⟨_, rfl, .d (.refl _)⟩, ⟨_, rfl, .d (.refl _)⟩, trivial⟩ ⟨⟨ltd rfl, .inr ⟨by decide, _, rfl, .dat _ _⟩⟩, trivial⟩⟩
                  · refine rk_skip ?_
                    refine rk_seq ?_
                    refine rk_region ?_
                    refine ok_mv rfl rfl ?_
                    refine ok_mv rfl rfl ?_
                    refine ok_mv rfl rfl ?_
                    refine ok_mv rfl rfl ?_
                    refine ok_mv rfl rfl ?_
                    obtain ⟨e421, h422, h308⟩ := bindE h308
                    obtain ⟨u423, h424, h308⟩ := bindE h308
                    have h425 := lenEq_some h424
                    refine ok_callF [(0, 0)] [(0, 0)] [.hs 0 3 0 b377.length, .d (.int .i64 a309.1), .d (.int .i64 a309.2.1), .d (.int .i64 b355.1), .d (.fn q1F q1C)] (.d (.tup [.int .i64 e421.1, .bool e421.2.1])) [(0, .dat 3 (e421.2.2.map enc_span_end))] [(0, .dat 3 (e421.2.2.map enc_span_end))] 1 (slices_partitionCmpFunc_span_end_e1_eff q1 q1F q1C q1Ok b377 a309.1 a309.2.1 b355.1 e421 h422) rfl rfl rfl (wk_mk [(0, 0)] [] [] rfl ⟨⟨_, rfl, .hs rfl (by decide) (ltd rfl)⟩, ⟨_, rfl, .d (.refl _)⟩, ⟨_, rfl, .d (.refl _)⟩, ⟨_, rfl, .d (.refl _)⟩, ⟨_, rfl, .d (.refl _)⟩, trivial⟩ ⟨⟨ltd rfl, .inr ⟨by decide, _, rfl, .dat _ _⟩⟩, trivial⟩) (wk_mk [(0, 0)] [] [] rfl ⟨⟨_, rfl, .d (.refl _)⟩, trivial⟩ ⟨⟨ltd rfl, .inr ⟨by decide, _, rfl, .dat _ _⟩⟩, trivial⟩) rfl ⟨.inl rfl, trivial⟩ ?_
                    refine ok_mv rfl rfl ?_
                    refine ok_v (.d (.int .i64 e421.1)) rfl rfl ?_
                    refine ok_v (.d (.bool e421.2.1)) rfl rfl ?_
                    refine ok_as rfl rfl ?_
                    refine ok_as rfl rfl ?_
                    refine ok_nil ?_
                    refine rk_seq ?_
                    refine rk_region ?_
                    refine ok_mv rfl rfl ?_
                    refine ok_as rfl rfl ?_
                    refine ok_nil ?_
                    refine rk_seq ?_
                    refine rk_region ?_
                    refine ok_mv rfl rfl ?_
                    refine ok_mv rfl rfl ?_
                    refine ok_v (.d (.int .i64 (w64 (e421.1 - a309.1)))) rfl rfl ?_
                    refine ok_mv rfl rfl ?_
                    refine ok_mv rfl rfl ?_
                    refine ok_v (.d (.int .i64 (w64 (a309.2.1 - e421.1)))) rfl rfl ?_
                    refine ok_as rfl rfl ?_
                    refine ok_as rfl rfl ?_
                    refine ok_nil ?_
                    refine rk_seq ?_
                    refine rk_region ?_
                    refine ok_mv rfl rfl ?_
                    refine ok_v (.d (.int .i64 (w64 (Int.tdiv (w64 (a309.2.1 - a309.1)) 8)))) rfl rfl ?_
                    refine ok_as rfl rfl ?_
                    refine ok_nil ?_
                    refine rk_seq ?_
                    refine rk_region ?_
                    refine ok_mv rfl rfl ?_
                    refine ok_mv rfl rfl ?_
                    refine ok_v (.d (.bool (decide ((w64 (e421.1 - a309.1)) < (w64 (a309.2.1 - e421.1)))))) rfl rfl ?_
                    refine ok_nil ?_
                    refine rk_condH rfl h308 (fun _ h308 => ?_) (fun _ h308 => ?_)
                    · refine rk_seq ?_
                      refine rk_region ?_
                      refine ok_mv rfl rfl ?_
                      refine ok_mv rfl rfl ?_
                      refine ok_v (.d (.bool (decide ((w64 (e421.1 - a309.1)) ≥ (w64 (Int.tdiv (w64 (a309.2.1 - a309.1)) 8)))))) rfl rfl ?_
                      refine ok_as rfl rfl ?_
                      refine ok_nil ?_
                      refine rk_seq ?_
                      refine rk_region ?_
                      refine ok_mv rfl rfl ?_
                      refine ok_mv rfl rfl ?_
                      refine ok_mv rfl rfl ?_
                      refine ok_mv rfl rfl ?_
                      refine ok_mv rfl rfl ?_
                      obtain ⟨e426, h427, h308⟩ := bindE h308
                      obtain ⟨u428, h429, h308⟩ := bindE h308
                      have h430 := lenEq_some h429
                      refine ok_callF [(0, 0)] [(0, 0)] [.hs 0 3 0 b377.length, .d (.int .i64 a309.1), .d (.int .i64 e421.1), .d (.int .i64 b340.1), .d (.fn q1F q1C)] (.d (.tup [])) [(0, .dat 3 (e426.map enc_span_end))] [(0, .dat 3 (e426.map enc_span_end))] 1 (hrec e421.2.2 a309.1 e421.1 b340.1 e426 h427) rfl rfl rfl (wk_mk [(0, 0)] [] [] rfl ⟨⟨_, rfl, wv_hsL (by simp [h425]) rfl (by decide) (ltd rfl)⟩, ⟨_, rfl, .d (.refl _)⟩, ⟨_, rfl, .d (.refl _)⟩, ⟨_, rfl, .d (.refl _)⟩, ⟨_, rfl, .d (.refl _)⟩, trivial⟩ ⟨⟨ltd rfl, .inr ⟨by decide, _, rfl, .dat _ _⟩⟩, trivial⟩) (wk_mk [(0, 0)] [] [] rfl ⟨⟨_, rfl, .d (.refl _)⟩, trivial⟩ ⟨⟨ltd rfl, .inr ⟨by decide, _, rfl, .dat _ _⟩⟩, trivial⟩) rfl ⟨.inl rfl, trivial⟩ ?_
                      refine ok_nil ?_
                      refine rk_region ?_
                      refine ok_mv rfl rfl ?_
                      refine ok_v (.d (.int .i64 (w64 (e421.1 + 1)))) rfl rfl ?_
                      refine ok_as rfl rfl ?_
                      refine ok_nil ?_
                      refine rk_nil ?_
                      refine blk_nor ?_
                      refine rk_nil ?_
                      exact ⟨_, (Option.some.inj h308).symm, wkE [] [] [] rfl ⟨⟨_, rfl, wv_hsL (by simp [h425, h430]) rfl (by decide) (ltd rfl)⟩, ⟨_, rfl, .d (.refl _)⟩, ⟨_, rfl, .d (.refl _)⟩, ⟨_, rfl, .d (.refl _)⟩, ⟨_, rfl, .d (.refl _)⟩, ⟨_, rfl, .d (.refl _)⟩, ⟨_, rfl, .d (.refl _)⟩, trivial⟩ ⟨⟨ltd rfl, .inr ⟨by decide, _, rfl, .dat _ _⟩⟩, trivial⟩⟩
                    · refine rk_seq ?_
                      refine rk_region ?_
                      refine ok_mv rfl rfl ?_
                      refine ok_mv rfl rfl ?_
                      refine ok_v (.d (.bool (decide ((w64 (a309.2.1 - e421.1)) ≥ (w64 (Int.tdiv (w64 (a309.2.1 - a309.1)) 8)))))) rfl rfl ?_
                      refine ok_as rfl rfl ?_
                      refine ok_nil ?_
                      refine rk_seq ?_
                      refine rk_region ?_
                      refine ok_mv rfl rfl ?_
                      refine ok_mv rfl rfl ?_
                      refine ok_v (.d (.int .i64 (w64 (e421.1 + 1)))) rfl rfl ?_
                      refine ok_mv rfl rfl ?_
                      refine ok_mv rfl rfl ?_
                      refine ok_mv rfl rfl ?_
                      obtain ⟨e431, h432, h308⟩ := bindE h308
                      obtain ⟨u433, h434, h308⟩ := bindE h308
                      have h435 := lenEq_some h434
                      refine ok_callF [(0, 0)] [(0, 0)] [.hs 0 3 0 b377.length, .d (.int .i64 (w64 (e421.1 + 1))), .d (.int .i64 a309.2.1), .d (.int .i64 b340.1), .d (.fn q1F q1C)] (.d (.tup [])) [(0, .dat 3 (e431.map enc_span_end))] [(0, .dat 3 (e431.map enc_span_end))] 1 (hrec e421.2.2 (w64 (e421.1 + 1)) a309.2.1 b340.1 e431 h432) rfl rfl rfl (wk_mk [(0, 0)] [] [] rfl ⟨⟨_, rfl, wv_hsL (by simp [h425]) rfl (by decide) (ltd rfl)⟩, ⟨_, rfl, .d (.refl _)⟩, ⟨_, rfl, .d (.refl _)⟩, ⟨_, rfl, .d (.refl _)⟩, ⟨_, rfl, .d (.refl _)⟩, trivial⟩ ⟨⟨ltd rfl, .inr ⟨by decide, _, rfl, .dat _ _⟩⟩, trivial⟩) (wk_mk [(0, 0)] [] [] rfl ⟨⟨_, rfl, .d (.refl _)⟩, trivial⟩ ⟨⟨ltd rfl, .inr ⟨by decide, _, rfl, .dat _ _⟩⟩, trivial⟩) rfl ⟨.inl rfl, trivial⟩ ?_
                      refine ok_nil ?_
                      refine rk_region ?_
                      refine ok_mv rfl rfl ?_
                      refine ok_as rfl rfl ?_
                      refine ok_nil ?_
                      refine rk_nil ?_
                      refine blk_nor ?_
                      refine rk_nil ?_
                      exact ⟨_, (Option.some.inj h308).symm, wkE [] [] [] rfl ⟨⟨_, rfl, wv_hsL (by simp [h425, h435]) rfl (by decide) (ltd rfl)⟩, ⟨_, rfl, .d (.refl _)⟩, ⟨_, rfl, .d (.refl _)⟩, ⟨_, rfl, .d (.refl _)⟩, ⟨_, rfl, .d (.refl _)⟩, ⟨_, rfl, .d (.refl _)⟩, ⟨_, rfl, .d (.refl _)⟩, trivial⟩ ⟨⟨ltd rfl, .inr ⟨by decide, _, rfl, .dat _ _⟩⟩, trivial⟩⟩

theorem slices_pdqsortCmpFunc_span_end_e2_eff (n : Nat) (q1 : span_end → span_end → Option Int) (q1F : FuncId) (q1C : List DV) (q1Ok : ∀ (x0 : span_end) (x1 : span_end) (r : Int), q1 x0 x1 = some r → Pure Try.prog tab q1F ([.agg [.int .i64 x0.at_, .int .i64 x0.list_, .int .i64 x0.by_], .agg [.int .i64 x1.at_, .int .i64 x1.list_, .int .i64 x1.by_]] ++ q1C) (.int .i64 r)) : ∀ (p0 : List span_end) (p1 : Int) (p2 : Int) (p3 : Int) (r : List span_end), slices_pdqsortCmpFunc_span_end_e2 n q1 p0 p1 p2 p3 = some r → EvCall Try.prog tab 56 [.hs 0 3 0 p0.length, .d (.int .i64 p1), .d (.int .i64 p2), .d (.int .i64 p3), .d (.fn q1F q1C)] [(0, .dat 3 (p0.map enc_span_end))] 1 (.d (.tup [])) [(0, .dat 3 (r.map enc_span_end))] 1 := by
  induction n with
  | zero => intro p0 p1 p2 p3 r h0; cases h0
  | succ n ih => intro p0 p1 p2 p3 r h0; exact slices_pdqsortCmpFunc_span_end_e2_b_eff (slices_pdqsortCmpFunc_span_end_e2 n q1) q1 q1F q1C q1Ok ih p0 p1 p2 p3 r h0

theorem slices_SortFunc_span_end_span_end_e1_eff (q1 : span_end → span_end → Option Int) (q1F : FuncId) (q1C : List DV) (q1Ok : ∀ (x0 : span_end) (x1 : span_end) (r : Int), q1 x0 x1 = some r → Pure Try.prog tab q1F ([.agg [.int .i64 x0.at_, .int .i64 x0.list_, .int .i64 x0.by_], .agg [.int .i64 x1.at_, .int .i64 x1.list_, .int .i64 x1.by_]] ++ q1C) (.int .i64 r)) (p0 : List span_end) (r : List span_end) (h0 : slices_SortFunc_span_end_span_end_e1 q1 p0 = some r) : EvCall Try.prog tab 53 [.hs 0 3 0 p0.length, .d (.fn q1F q1C)] [(0, .dat 3 (p0.map enc_span_end))] 1 (.d (.tup [])) [(0, .dat 3 (r.map enc_span_end))] 1 := by
  unfold slices_SortFunc_span_end_span_end_e1 at h0
  refine eff_of_run Try.func53 rfl (by kernel_rfl) (by kernel_rfl) rfl ?_
  refine rk_seq ?_
  refine rk_region ?_
  refine ok_mv rfl rfl ?_
  refine ok_v (.d (.int .i64 (p0.length : Int))) rfl rfl ?_
  refine ok_as rfl rfl ?_
  refine ok_nil ?_
  refine rk_region ?_
  refine ok_mv rfl rfl ?_
  refine ok_mv rfl rfl ?_
  refine ok_mv rfl rfl ?_
  refine ok_v (.d (.int .u64 (IntKind.wrap .u64 (p0.length : Int)))) rfl rfl ?_
  obtain ⟨r101, h102, h0⟩ := bindE h0
  refine ok_pc [.d (.int .u64 (IntKind.wrap .u64 (p0.length : Int)))] (math_bits_Len_ok (IntKind.wrap .u64 (p0.length : Int)) r101 h102) rfl rfl rfl (.inl rfl) ?_
  refine ok_mv rfl rfl ?_
  obtain ⟨e103, h104, h0⟩ := bindE h0
  obtain ⟨u105, h106, h0⟩ := bindE h0
  have h107 := lenEq_some h106
  obtain ⟨nh104, h104⟩ := lim_some h104
  refine ok_callF [(0, 0)] [(0, 0)] [.hs 0 3 0 p0.length, .d (.int .i64 0), .d (.int .i64 (p0.length : Int)), .d (.int .i64 r101), .d (.fn q1F q1C)] (.d (.tup [])) [(0, .dat 3 (e103.map enc_span_end))] [(0, .dat 3 (e103.map enc_span_end))] 1 (slices_pdqsortCmpFunc_span_end_e2_eff nh104 q1 q1F q1C q1Ok p0 0 (p0.length : Int) r101 e103 h104) rfl rfl rfl (wk_mk [(0, 0)] [] [] rfl ⟨⟨_, rfl, .hs rfl (by decide) (ltd rfl)⟩, ⟨_, rfl, .d (.refl _)⟩, ⟨_, rfl, .d (.refl _)⟩, ⟨_, rfl, .d (.refl _)⟩, ⟨_, rfl, .d (.refl _)⟩, trivial⟩ ⟨⟨ltd rfl, .inr ⟨by decide, _, rfl, .dat _ _⟩⟩, trivial⟩) (wk_mk [(0, 0)] [] [] rfl ⟨⟨_, rfl, .d (.refl _)⟩, trivial⟩ ⟨⟨ltd rfl, .inr ⟨by decide, _, rfl, .dat _ _⟩⟩, trivial⟩) rfl ⟨.inl rfl, trivial⟩ ?_
  refine ok_nil ?_
  refine rk_nil ?_
  obtain rfl := someE h0
  exact ⟨.inl rfl, _, rfl, wkE [] [] [] rfl ⟨⟨_, rfl, .d (.refl _)⟩, trivial⟩ ⟨⟨ltd rfl, .inr ⟨by decide, _, rfl, .dat _ _⟩⟩, trivial⟩⟩

theorem slices_Values_span_end_span_end_e1_eff (p0 : List span_end) (r : List span_end) (h0 : slices_Values_span_end_span_end_e1  p0 = some r) : EvCall Try.prog tab 55 [.hs 0 3 0 p0.length] [(0, .dat 3 (p0.map enc_span_end))] 1 (.fn 58 [.ref 1 1 0 0]) [(0, .dat 3 (r.map enc_span_end)), (1, .cel 1 [[.hs 0 3 0 r.length]])] 2 := by
  unfold slices_Values_span_end_span_end_e1 at h0
  refine eff_of_run Try.func55 rfl (by kernel_rfl) (by kernel_rfl) rfl ?_
  refine rk_seq ?_
  refine rk_region ?_
  refine ok_new (.ref 1 1 0 0) (.cel 1 [[.hs 0 3 0 p0.length]]) rfl rfl ?_
  refine ok_as rfl rfl ?_
  refine ok_nil ?_
  refine rk_seq ?_
  refine rk_region ?_
  refine ok_v (.fn 58 [.ref 1 1 0 0]) rfl rfl ?_
  refine ok_as rfl rfl ?_
  refine ok_nil ?_
  refine rk_ret ?_
  obtain rfl := someE h0
  exact ⟨.inr rfl, _, rfl, wkE [(1, 1)] [] [] rfl ⟨⟨_, rfl, (wv_fn (.cons (.ref rfl (by decide) (ltd rfl)) .nil))⟩, trivial⟩ ⟨⟨ltd rfl, .inr ⟨by decide, _, rfl, .dat _ _⟩⟩, ⟨ltd rfl, .inr ⟨by decide, _, rfl, wb_cel1 (.cons (.hs rfl (by decide) (ltd rfl)) rfl .nil)⟩⟩, trivial⟩⟩

theorem span_ends_e1_eff (p0 : List (List api_Span)) (r : List (List api_Span) × List span_end) (h0 : span_ends_e1  p0 = some r) : EvCall Try.prog tab 51 [.hs 0 1 0 p0.length] [(0, .dat 1 (p0.map enc_sl_List_api_Span))] 1 (.fn 58 [.ref 1 1 0 0]) [(0, .dat 1 (r.1.map enc_sl_List_api_Span)), (1, .cel 1 [[.hs 2 3 0 r.2.length]]), (2, .dat 3 (r.2.map enc_span_end))] 3 := by
  unfold span_ends_e1 at h0
  refine eff_of_run Try.func51 rfl (by kernel_rfl) (by kernel_rfl) rfl ?_
  refine rk_seq ?_
  refine rk_region ?_
  refine ok_as rfl rfl ?_
  refine ok_nil ?_
  refine rk_seq ?_
  refine rk_region ?_
  refine ok_as rfl rfl ?_
  refine ok_nil ?_
  refine rk_seq ?_
  refine rk_seq ?_
  refine rk_region ?_
  refine ok_mv rfl rfl ?_
  refine ok_v (.d (.int .i64 (p0.length : Int))) rfl rfl ?_
  refine ok_mv rfl rfl ?_
  refine ok_nil ?_
  obtain ⟨m143, h144, h0⟩ := bindE h0
  refine rk_blockcut (fun b145 => b145 = m143) (fun (b145 : List span_end) => ⟨[(3, .hs 1 3 0 b145.length)], [(0, .dat 1 (p0.map enc_sl_List_api_Span)), (1, .dat 3 (b145.map enc_span_end))], 2⟩) (by simp) ?_ ?_
  · refine rk_loopF (span_ends_e1_L1 p0) (fun (a142 : Int × List span_end) => ⟨[(3, .hs 1 3 0 a142.2.length), (8, .hs 0 1 0 p0.length), (9, .d (.int .i64 (p0.length : Int))), (10, .d (.int .i64 a142.1))], [(0, .dat 1 (p0.map enc_sl_List_api_Span)), (1, .dat 3 (a142.2.map enc_span_end))], 2⟩) (0, []) m143 h144 (wkE [] [] [1] rfl ⟨⟨_, rfl, .nil (by decide) (ltd rfl)⟩, ⟨_, rfl, .hs rfl (by decide) (ltd rfl)⟩, ⟨_, rfl, .d (.refl _)⟩, ⟨_, rfl, .d (.refl _)⟩, trivial⟩ ⟨⟨ltd rfl, .inr ⟨by decide, _, rfl, .dat _ _⟩⟩, ⟨ltd rfl, .inl ⟨by decide, _, by decide, rfl⟩⟩, trivial⟩) ?_
    intro a142 y140 h141
    unfold span_ends_e1_L1 at h141
    refine rk_seq ?_
    refine rk_region ?_
    refine ok_v (.d (.bool (decide (a142.1 < (p0.length : Int))))) rfl rfl ?_
    refine ok_nil ?_
    refine rk_seq ?_
    refine rk_condH rfl h141 (fun _ h141 => ?_) (fun _ h141 => ?_)
    · refine rk_skip ?_
      refine rk_seq ?_
      obtain ⟨m165, h164, h141⟩ := bindE h141
      refine rk_blockcut (fun b166 => b166 = m165) (fun (b166 : List span_end) => ⟨[(3, .hs 1 3 0 b166.length), (8, .hs 0 1 0 p0.length), (9, .d (.int .i64 (p0.length : Int))), (10, .d (.int .i64 a142.1))], [(0, .dat 1 (p0.map enc_sl_List_api_Span)), (1, .dat 3 (b166.map enc_span_end))], 2⟩) (by simp) ?_ ?_
      · refine rk_seq ?_
        refine rk_region ?_
        refine ok_mv rfl rfl ?_
        obtain ⟨v167, h168, h164⟩ := bindE h164
        refine ok_ih h168 rfl rfl rfl rfl rfl rfl rfl ?_
        refine ok_lh (.d (.sl 2 (v167.map enc_api_Span))) h168 rfl rfl rfl rfl rfl rfl ?_
        refine ok_as rfl rfl ?_
        refine ok_as rfl rfl ?_
        refine ok_nil ?_
        refine rk_seq ?_
        refine rk_region ?_
        refine ok_mv rfl rfl ?_
        refine ok_ln rfl rfl rfl rfl ?_
        refine ok_mv rfl rfl ?_
        refine ok_nil ?_
        obtain ⟨m188, h189, h164⟩ := bindE h164
        refine rk_block ?_
        refine rk_loopF (span_ends_e1_L2 v167 a142) (fun (a187 : Int × List span_end) => ⟨[(3, .hs 1 3 0 a187.2.length), (4, .d (.int .i64 a142.1)), (8, .hs 0 1 0 p0.length), (9, .d (.int .i64 (p0.length : Int))), (10, .d (.int .i64 a142.1)), (15, .d (.sl 2 (v167.map enc_api_Span))), (16, .d (.int .i64 (v167.length : Int))), (17, .d (.int .i64 a187.1))], [(0, .dat 1 (p0.map enc_sl_List_api_Span)), (1, .dat 3 (a187.2.map enc_span_end))], 2⟩) (0, a142.2) m188 h189 (wkE [(1, 1)] [] [] rfl ⟨⟨_, rfl, .hs rfl (by decide) (ltd rfl)⟩, ⟨_, rfl, .d (.refl _)⟩, ⟨_, rfl, .hs rfl (by decide) (ltd rfl)⟩, ⟨_, rfl, .d (.refl _)⟩, ⟨_, rfl, .d (.refl _)⟩, ⟨_, rfl, .d (.refl _)⟩, ⟨_, rfl, .d (.refl _)⟩, ⟨_, rfl, .d (.refl _)⟩, trivial⟩ ⟨⟨ltd rfl, .inr ⟨by decide, _, rfl, .dat _ _⟩⟩, ⟨ltd rfl, .inr ⟨by decide, _, rfl, .dat _ _⟩⟩, trivial⟩) ?_
        intro a187 y185 h186
        unfold span_ends_e1_L2 at h186
        refine rk_seq ?_
        refine rk_region ?_
        refine ok_v (.d (.bool (decide (a187.1 < (v167.length : Int))))) rfl rfl ?_
        refine ok_nil ?_
        refine rk_seq ?_
        refine rk_condH rfl h186 (fun _ h186 => ?_) (fun _ h186 => ?_)
        · refine rk_skip ?_
          refine rk_seq ?_
          refine rk_block ?_
          refine rk_seq ?_
          refine rk_region ?_
          obtain ⟨v195, h196, h186⟩ := bindE h186
          refine ok_ix (enc := enc_api_Span) h196 rfl rfl rfl rfl rfl rfl ?_
          refine ok_v (.d (.agg [.int .i64 v195.Lo, .int .i64 v195.Hi])) rfl rfl ?_
          refine ok_alloc rfl rfl ?_
          refine ok_sto 2 (.dat 2 [[.int .i64 v195.Lo, .int .i64 v195.Hi]]) rfl rfl ?_
          refine ok_nil ?_
          refine rk_region ?_
          refine ok_mv rfl rfl ?_
          refine ok_v (.ref 2 2 0 0) rfl rfl ?_
          refine ok_v (.d (.int .i64 v195.Lo)) rfl rfl ?_
          refine ok_mv rfl rfl ?_
          refine ok_v (.d (.agg [.int .i64 v195.Lo, .int .i64 a142.1, .int .i64 1])) rfl rfl ?_
          refine ok_v (.ref 2 2 0 1) rfl rfl ?_
          refine ok_v (.d (.int .i64 v195.Hi)) rfl rfl ?_
          refine ok_mv rfl rfl ?_
          refine ok_v (.d (.agg [.int .i64 v195.Hi, .int .i64 a142.1, .int .i64 (-1)])) rfl rfl ?_
          refine ok_new (.hs 3 3 0 [({ at_ := v195.Lo, list_ := a142.1, by_ := 1 } : span_end), ({ at_ := v195.Hi, list_ := a142.1, by_ := (-1) } : span_end)].length) (.dat 3 ([({ at_ := v195.Lo, list_ := a142.1, by_ := 1 } : span_end), ({ at_ := v195.Hi, list_ := a142.1, by_ := (-1) } : span_end)].map enc_span_end)) rfl rfl ?_
          obtain ⟨z197, h198, h186⟩ := bindE h186
          refine ok_ap (xs := a187.2) (ys := [({ at_ := v195.Lo, list_ := a142.1, by_ := 1 } : span_end), ({ at_ := v195.Hi, list_ := a142.1, by_ := (-1) } : span_end)]) (enc := enc_span_end) (.hs 3 3 0 [({ at_ := v195.Lo, list_ := a142.1, by_ := 1 } : span_end), ({ at_ := v195.Hi, list_ := a142.1, by_ := (-1) } : span_end)].length) h198 rfl rfl rfl rfl rfl rfl rfl (conts_hs rfl rfl) rfl rfl rfl rfl ?_
          refine ok_as rfl rfl ?_
          refine ok_nil ?_
          refine rk_nil ?_
          refine blk_nor ?_
          refine rk_region ?_
          refine ok_v (.d (.int .i64 (w64 (a187.1 + 1)))) rfl rfl ?_
          refine ok_mv rfl rfl ?_
          refine ok_nil ?_
          refine rk_nil ?_
          exact ⟨_, (Option.some.inj h186).symm, wkE [(1, 4)] [] [] rfl ⟨⟨_, rfl, .hs rfl (by decide) (ltd rfl)⟩, ⟨_, rfl, .d (.refl _)⟩, ⟨_, rfl, .hs rfl (by decide) (ltd rfl)⟩, ⟨_, rfl, .d (.refl _)⟩, ⟨_, rfl, .d (.refl _)⟩, ⟨_, rfl, .d (.refl _)⟩, ⟨_, rfl, .d (.refl _)⟩, ⟨_, rfl, .d (.refl _)⟩, trivial⟩ ⟨⟨ltd rfl, .inr ⟨by decide, _, rfl, .dat _ _⟩⟩, ⟨ltd rfl, .inr ⟨by decide, _, rfl, .dat _ _⟩⟩, trivial⟩⟩
        · refine rk_exit ?_
          refine ⟨_, (Option.some.inj h186).symm, fun hm => ?_⟩
          subst hm
          obtain rfl := someE h164
          exact ⟨_, rfl, wkE [(1, 1)] [] [] rfl ⟨⟨_, rfl, .hs rfl (by decide) (ltd rfl)⟩, ⟨_, rfl, .hs rfl (by decide) (ltd rfl)⟩, ⟨_, rfl, .d (.refl _)⟩, ⟨_, rfl, .d (.refl _)⟩, trivial⟩ ⟨⟨ltd rfl, .inr ⟨by decide, _, rfl, .dat _ _⟩⟩, ⟨ltd rfl, .inr ⟨by decide, _, rfl, .dat _ _⟩⟩, trivial⟩⟩
      · intro b166 hb
        subst hb
        refine rk_region ?_
        refine ok_v (.d (.int .i64 (w64 (a142.1 + 1)))) rfl rfl ?_
        refine ok_mv rfl rfl ?_
        refine ok_nil ?_
        refine rk_nil ?_
        exact ⟨_, (Option.some.inj h141).symm, wkE [(1, 1)] [] [] rfl ⟨⟨_, rfl, .hs rfl (by decide) (ltd rfl)⟩, ⟨_, rfl, .hs rfl (by decide) (ltd rfl)⟩, ⟨_, rfl, .d (.refl _)⟩, ⟨_, rfl, .d (.refl _)⟩, trivial⟩ ⟨⟨ltd rfl, .inr ⟨by decide, _, rfl, .dat _ _⟩⟩, ⟨ltd rfl, .inr ⟨by decide, _, rfl, .dat _ _⟩⟩, trivial⟩⟩
    · refine rk_exit ?_
      refine ⟨_, (Option.some.inj h141).symm, fun hm => ?_⟩
      subst hm
      exact ⟨_, rfl, wkE [(1, 1)] [] [] rfl ⟨⟨_, rfl, .hs rfl (by decide) (ltd rfl)⟩, trivial⟩ ⟨⟨ltd rfl, .inr ⟨by decide, _, rfl, .dat _ _⟩⟩, ⟨ltd rfl, .inr ⟨by decide, _, rfl, .dat _ _⟩⟩, trivial⟩⟩
  · intro b145 hb
    subst hb
    refine rk_seq ?_
    refine rk_region ?_
    refine ok_mv rfl rfl ?_
    obtain ⟨e199, h200, h0⟩ := bindE h0
    obtain ⟨u201, h202, h0⟩ := bindE h0
    have h203 := lenEq_some h202
    refine ok_callF [(0, 1)] [(0, 1), (1, 0)] [.hs 1 3 0 b145.length, .d (.fn 54 [])] (.d (.tup [])) [(1, .dat 3 (e199.map enc_span_end))] [(1, .dat 3 (e199.map enc_span_end)), (0, .dat 1 (p0.map enc_sl_List_api_Span))] 2 (slices_SortFunc_span_end_span_end_e1_eff (fun x0 x1 => span_ends_1 x0 x1) 54 [] (fun x0 x1 r hr => span_ends_1_ok x0 x1 r hr) b145 e199 h200) rfl rfl rfl (wk_mk [(0, 1)] [] [] rfl ⟨⟨_, rfl, .hs rfl (by decide) (ltd rfl)⟩, ⟨_, rfl, .d (.refl _)⟩, trivial⟩ ⟨⟨ltd rfl, .inr ⟨by decide, _, rfl, .dat _ _⟩⟩, trivial⟩) (wk_mk [(0, 1), (1, 0)] [] [] rfl ⟨⟨_, rfl, .d (.refl _)⟩, trivial⟩ ⟨⟨ltd rfl, .inr ⟨by decide, _, rfl, .dat _ _⟩⟩, trivial⟩) rfl ⟨.inl rfl, .inr ⟨rfl, rfl⟩, trivial⟩ ?_
    refine ok_nil ?_
    refine rk_seq ?_
    refine rk_region ?_
    refine ok_mv rfl rfl ?_
    obtain ⟨e204, h205, h0⟩ := bindE h0
    obtain ⟨u206, h207, h0⟩ := bindE h0
    have h208 := lenEq_some h207
    refine ok_callF [(0, 1)] [(0, 2), (1, 0), (2, 1)] [.hs 1 3 0 b145.length] (.fn 58 [.ref 2 1 0 0]) [(1, .dat 3 (e204.map enc_span_end)), (2, .cel 1 [[.hs 1 3 0 e204.length]])] [(1, .dat 3 (e204.map enc_span_end)), (2, .cel 1 [[.hs 1 3 0 e204.length]]), (0, .dat 1 (p0.map enc_sl_List_api_Span))] 3 (slices_Values_span_end_span_end_e1_eff e199 e204 h205) rfl rfl rfl (wk_mk [(0, 1)] [] [] rfl ⟨⟨_, rfl, wv_hsL (by simp [h203]) rfl (by decide) (ltd rfl)⟩, trivial⟩ ⟨⟨ltd rfl, .inr ⟨by decide, _, rfl, .dat _ _⟩⟩, trivial⟩) (wk_mk [(0, 2), (1, 0), (2, 1)] [] [] rfl ⟨⟨_, rfl, (wv_fn (.cons (.ref rfl (by decide) (ltd rfl)) .nil))⟩, trivial⟩ ⟨⟨ltd rfl, .inr ⟨by decide, _, rfl, .dat _ _⟩⟩, ⟨ltd rfl, .inr ⟨by decide, _, rfl, wb_cel1 (.cons (.hs rfl (by decide) (ltd rfl)) rfl .nil)⟩⟩, trivial⟩) rfl ⟨.inl rfl, .inl rfl, .inr ⟨rfl, rfl⟩, trivial⟩ ?_
    refine ok_as rfl rfl ?_
    refine ok_nil ?_
    refine rk_ret ?_
    obtain rfl := someE h0
    exact ⟨.inr rfl, _, rfl, wkE [(1, 2), (2, 1)] [] [] rfl ⟨⟨_, rfl, (wv_fn (.cons (.ref rfl (by decide) (ltd rfl)) .nil))⟩, trivial⟩ ⟨⟨ltd rfl, .inr ⟨by decide, _, rfl, .dat _ _⟩⟩, ⟨ltd rfl, .inr ⟨by decide, _, rfl, wb_cel1 (.cons (.hs rfl (by decide) (ltd rfl)) rfl .nil)⟩⟩, ⟨ltd rfl, .inr ⟨by decide, _, rfl, .dat _ _⟩⟩, trivial⟩⟩

theorem span_join_1_e1_eff (p0 : Int) (p1 : Bool) (p2 : Int) (r : Bool × Int × List api_Span) (h0 : span_join_1_e1  p0 p1 p2 = some r) : EvCall Try.prog tab 50 [.d (.int .i64 p0), .ref 0 1 0 0, .ref 1 1 0 0, .ref 2 1 0 0] [(0, .dat 1 [[.bool p1]]), (1, .dat 1 [[.int .i64 p2]]), (2, .dat 1 [[.nilsl]])] 3 (.d (.tup [])) [(0, .dat 1 [[.bool r.1]]), (1, .dat 1 [[.int .i64 r.2.1]]), (2, .cel 1 [[.hs 3 2 0 r.2.2.length]]), (3, .dat 2 (r.2.2.map enc_api_Span))] 4 := by
  unfold span_join_1_e1 at h0
  refine eff_of_run Try.func50 rfl (by kernel_rfl) (by kernel_rfl) rfl ?_
  refine rk_seq ?_
  refine rk_seq ?_
  refine rk_region ?_
  refine ok_v (.d (.bool p1)) rfl rfl ?_
  refine ok_v (.d (.bool (!p1))) rfl rfl ?_
  obtain ⟨c101, h102, h0⟩ := bindE h0
  refine ok_cutQ 5 (fun A st => ∃ (j103 j104 j105 j106 : V), st = A [(12, .d (.bool c101)), (11, j106), (10, j105), (9, j104), (8, j103)]) ?_ ?_
  · refine ok_mvB rfl rfl h102 (fun h102 => ?_) (fun h102 => ?_)
    · refine ok_sg rfl ?_
      refine ok_sg rfl ?_
      refine ok_sg rfl ?_
      refine ok_v (.d (.bool true)) rfl rfl ?_
      refine ok_nil ?_
      obtain rfl := someE h102
      exact ⟨_, _, _, _, rfl⟩
    · refine ok_v (.d (.int .i64 p2)) rfl rfl ?_
      refine ok_mv rfl rfl ?_
      refine ok_v (.d (.bool (p2 == p0))) rfl rfl ?_
      refine ok_v (.d (.bool (p2 == p0))) rfl rfl ?_
      refine ok_nil ?_
      obtain rfl := someE h102
      exact ⟨_, _, _, _, rfl⟩
  · rintro _ ⟨j103, j104, j105, j106, rfl⟩
    refine ok_nil ?_
    refine rk_condH rfl h0 (fun _ h0 => ?_) (fun _ h0 => ?_)
    · refine rk_ret ?_
      obtain rfl := someE h0
      exact ⟨.inr rfl, _, rfl, wkE [] [] [3] rfl ⟨⟨_, rfl, .d (.refl _)⟩, trivial⟩ ⟨⟨ltd rfl, .inr ⟨by decide, _, rfl, .dat _ _⟩⟩, ⟨ltd rfl, .inr ⟨by decide, _, rfl, .dat _ _⟩⟩, ⟨ltd rfl, .inr ⟨by decide, _, rfl, wb_datcel1 (.cons (.nil (by decide) (ltd rfl)) rfl .nil)⟩⟩, ⟨ltd rfl, .inl ⟨by decide, _, by decide, rfl⟩⟩, trivial⟩⟩
    · refine rk_skip ?_
      refine rk_seq ?_
      refine rk_region ?_
      refine ok_v (.d (.nilsl)) rfl rfl ?_
      refine ok_v (.d (.int .i64 0)) rfl rfl ?_
      refine ok_as rfl rfl ?_
      refine ok_nil ?_
      refine rk_seq ?_
      refine rk_regionD (by kernel_rfl) ?_
      refine ok_mv rfl rfl ?_
      refine ok_v (.d (.bool (decide (0 > 0)))) rfl rfl ?_
      obtain ⟨c107, h108, h0⟩ := bindE h0
      refine ok_cutQ 10 (fun A st => ∃ (j109 j110 j111 j112 j113 j114 j115 j116 j117 : V), st = A [(26, .d (.bool c107)), (25, j117), (24, j116), (23, j115), (22, j114), (21, j113), (20, j112), (19, j111), (18, j110), (17, j109)]) ?_ ?_
      · refine ok_mvB rfl rfl h108 (fun h108 => ?_) (fun h108 => ?_)
        · refine ok_v (.d (.nilsl)) rfl rfl ?_
          refine ok_mv rfl rfl ?_
          refine ok_v (.d (.int .i64 (w64 (0 - 1)))) rfl rfl ?_
          cases h108
        · refine ok_sg rfl ?_
          refine ok_sg rfl ?_
          refine ok_sg rfl ?_
          refine ok_sg rfl ?_
          refine ok_sg rfl ?_
          refine ok_sg rfl ?_
          refine ok_sg rfl ?_
          refine ok_sg rfl ?_
          refine ok_v (.d (.bool false)) rfl rfl ?_
          refine ok_nil ?_
          obtain rfl := someE h108
          exact ⟨_, _, _, _, _, _, _, _, _, rfl⟩
      · rintro _ ⟨j109, j110, j111, j112, j113, j114, j115, j116, j117, rfl⟩
        refine ok_nil ?_
        refine rk_condH rfl h0 (fun _ h0 => ?_) (fun _ h0 => ?_)
        · refine rk_region ?_
          refine ok_v (.d (.nilsl)) rfl rfl ?_
          refine ok_mv rfl rfl ?_
          refine ok_v (.d (.int .i64 (w64 (0 - 1)))) rfl rfl ?_
          refine ok_mv rfl rfl ?_
          cases h0
        · refine rk_region ?_
          refine ok_v (.d (.nilsl)) rfl rfl ?_
          refine ok_v (.d (.int .i64 p2)) rfl rfl ?_
          refine ok_mv rfl rfl ?_
          refine ok_v (.d (.agg [.int .i64 p2, .int .i64 p0])) rfl rfl ?_
          refine ok_new (.hs 3 2 0 [({ Lo := p2, Hi := p0 } : api_Span)].length) (.dat 2 ([({ Lo := p2, Hi := p0 } : api_Span)].map enc_api_Span)) rfl rfl ?_
          obtain ⟨z118, h119, h0⟩ := bindE h0
          refine ok_ap0 (ys := [({ Lo := p2, Hi := p0 } : api_Span)]) (enc := enc_api_Span) (.hs 3 2 0 [({ Lo := p2, Hi := p0 } : api_Span)].length) h119 (by simp) rfl rfl rfl rfl rfl (conts_hs rfl rfl) rfl rfl rfl ?_
          refine ok_sto 2 (.cel 1 [[.hs 4 2 0 z118.length]]) rfl rfl ?_
          refine ok_nil ?_
          refine rk_nil ?_
          obtain rfl := someE h0
          exact ⟨.inl rfl, _, rfl, wkE [(3, 4)] [] [] rfl ⟨⟨_, rfl, .d (.refl _)⟩, trivial⟩ ⟨⟨ltd rfl, .inr ⟨by decide, _, rfl, .dat _ _⟩⟩, ⟨ltd rfl, .inr ⟨by decide, _, rfl, .dat _ _⟩⟩, ⟨ltd rfl, .inr ⟨by decide, _, rfl, wb_cel1 (.cons (.hs rfl (by decide) (ltd rfl)) rfl .nil)⟩⟩, ⟨ltd rfl, .inr ⟨by decide, _, rfl, .dat _ _⟩⟩, trivial⟩⟩

theorem span_join_1_e2_eff (p0 : Int) (p1 : Bool) (p2 : Int) (p3 : List api_Span) (r : Bool × Int × List api_Span) (h0 : span_join_1_e2  p0 p1 p2 p3 = some r) : EvCall Try.prog tab 50 [.d (.int .i64 p0), .ref 0 1 0 0, .ref 1 1 0 0, .ref 2 1 0 0] [(0, .dat 1 [[.bool p1]]), (1, .dat 1 [[.int .i64 p2]]), (2, .cel 1 [[.hs 3 2 0 p3.length]]), (3, .dat 2 (p3.map enc_api_Span))] 4 (.d (.tup [])) [(0, .dat 1 [[.bool r.1]]), (1, .dat 1 [[.int .i64 r.2.1]]), (2, .cel 1 [[.hs 4 2 0 r.2.2.length]]), (4, .dat 2 (r.2.2.map enc_api_Span))] 5 := by
  unfold span_join_1_e2 at h0
  refine eff_of_run Try.func50 rfl (by kernel_rfl) (by kernel_rfl) rfl ?_
  refine rk_seq ?_
  refine rk_seq ?_
  refine rk_region ?_
  refine ok_v (.d (.bool p1)) rfl rfl ?_
  refine ok_v (.d (.bool (!p1))) rfl rfl ?_
  obtain ⟨c101, h102, h0⟩ := bindE h0
  refine ok_cutQ 5 (fun A st => ∃ (j103 j104 j105 j106 : V), st = A [(12, .d (.bool c101)), (11, j106), (10, j105), (9, j104), (8, j103)]) ?_ ?_
  · refine ok_mvB rfl rfl h102 (fun h102 => ?_) (fun h102 => ?_)
    · refine ok_sg rfl ?_
      refine ok_sg rfl ?_
      refine ok_sg rfl ?_
      refine ok_v (.d (.bool true)) rfl rfl ?_
      refine ok_nil ?_
      obtain rfl := someE h102
      exact ⟨_, _, _, _, rfl⟩
    · refine ok_v (.d (.int .i64 p2)) rfl rfl ?_
      refine ok_mv rfl rfl ?_
      refine ok_v (.d (.bool (p2 == p0))) rfl rfl ?_
      refine ok_v (.d (.bool (p2 == p0))) rfl rfl ?_
      refine ok_nil ?_
      obtain rfl := someE h102
      exact ⟨_, _, _, _, rfl⟩
  · rintro _ ⟨j103, j104, j105, j106, rfl⟩
    refine ok_nil ?_
    refine rk_condH rfl h0 (fun _ h0 => ?_) (fun _ h0 => ?_)
    · refine rk_ret ?_
      obtain rfl := someE h0
      exact ⟨.inr rfl, _, rfl, wkE [(4, 3)] [] [] rfl ⟨⟨_, rfl, .d (.refl _)⟩, trivial⟩ ⟨⟨ltd rfl, .inr ⟨by decide, _, rfl, .dat _ _⟩⟩, ⟨ltd rfl, .inr ⟨by decide, _, rfl, .dat _ _⟩⟩, ⟨ltd rfl, .inr ⟨by decide, _, rfl, wb_cel1 (.cons (.hs rfl (by decide) (ltd rfl)) rfl .nil)⟩⟩, ⟨ltd rfl, .inr ⟨by decide, _, rfl, .dat _ _⟩⟩, trivial⟩⟩
    · refine rk_skip ?_
      refine rk_seq ?_
      refine rk_region ?_
      refine ok_v (.hs 3 2 0 p3.length) rfl rfl ?_
      refine ok_v (.d (.int .i64 (p3.length : Int))) rfl rfl ?_
      refine ok_as rfl rfl ?_
      refine ok_nil ?_
      refine rk_seq ?_
      refine rk_regionD (by kernel_rfl) ?_
      refine ok_mv rfl rfl ?_
      refine ok_v (.d (.bool (decide ((p3.length : Int) > 0)))) rfl rfl ?_
      obtain ⟨c109, h110, h0⟩ := bindE h0
      refine ok_cutQ 10 (fun A st => ∃ (j111 j112 j113 j114 j115 j116 j117 j118 j119 : V), st = A [(26, .d (.bool c109)), (25, j119), (24, j118), (23, j117), (22, j116), (21, j115), (20, j114), (19, j113), (18, j112), (17, j111)]) ?_ ?_
      · refine ok_mvB rfl rfl h110 (fun h110 => ?_) (fun h110 => ?_)
        · refine ok_v (.hs 3 2 0 p3.length) rfl rfl ?_
          refine ok_mv rfl rfl ?_
          refine ok_v (.d (.int .i64 (w64 ((p3.length : Int) - 1)))) rfl rfl ?_
          obtain ⟨v120, h121, h110⟩ := bindE h110
          refine ok_ih h121 rfl rfl rfl rfl rfl rfl rfl ?_
          refine ok_v (.ref 3 2 (w64 ((p3.length : Int) - 1)).toNat 1) rfl rfl ?_
          refine ok_lh (.d (.int .i64 v120.Hi)) h121 rfl rfl rfl rfl rfl rfl ?_
          refine ok_v (.d (.int .i64 p2)) rfl rfl ?_
          refine ok_v (.d (.bool (v120.Hi == p2))) rfl rfl ?_
          refine ok_v (.d (.bool (v120.Hi == p2))) rfl rfl ?_
          refine ok_nil ?_
          obtain rfl := someE h110
          exact ⟨_, _, _, _, _, _, _, _, _, rfl⟩
        · refine ok_sg rfl ?_
          refine ok_sg rfl ?_
          refine ok_sg rfl ?_
          refine ok_sg rfl ?_
          refine ok_sg rfl ?_
          refine ok_sg rfl ?_
          refine ok_sg rfl ?_
          refine ok_sg rfl ?_
          refine ok_v (.d (.bool false)) rfl rfl ?_
          refine ok_nil ?_
          obtain rfl := someE h110
          exact ⟨_, _, _, _, _, _, _, _, _, rfl⟩
      · rintro _ ⟨j111, j112, j113, j114, j115, j116, j117, j118, j119, rfl⟩
        refine ok_nil ?_
        refine rk_condH rfl h0 (fun _ h0 => ?_) (fun _ h0 => ?_)
        · refine rk_region ?_
          refine ok_v (.hs 3 2 0 p3.length) rfl rfl ?_
          refine ok_mv rfl rfl ?_
          refine ok_v (.d (.int .i64 (w64 ((p3.length : Int) - 1)))) rfl rfl ?_
          refine ok_mv rfl rfl ?_
          obtain ⟨v122, h123, h0⟩ := bindE h0
          refine ok_ih h123 rfl rfl rfl rfl rfl rfl rfl ?_
          refine ok_v (.ref 3 2 (w64 ((p3.length : Int) - 1)).toNat 1) rfl rfl ?_
          refine ok_sh (ds := [.int .i64 p0]) ({ Lo := v122.Lo, Hi := p0 } : api_Span) h123 rfl rfl rfl rfl rfl rfl rfl rfl (leb rfl) rfl ?_
          refine ok_nil ?_
          refine rk_nil ?_
          obtain rfl := someE h0
          exact ⟨.inl rfl, _, rfl, wkE [(4, 3)] [] [] rfl ⟨⟨_, rfl, .d (.refl _)⟩, trivial⟩ ⟨⟨ltd rfl, .inr ⟨by decide, _, rfl, .dat _ _⟩⟩, ⟨ltd rfl, .inr ⟨by decide, _, rfl, .dat _ _⟩⟩, ⟨ltd rfl, .inr ⟨by decide, _, rfl, wb_cel1 (.cons (wv_hsL (by simp) rfl (by decide) (ltd rfl)) rfl .nil)⟩⟩, ⟨ltd rfl, .inr ⟨by decide, _, rfl, .dat _ _⟩⟩, trivial⟩⟩
        · refine rk_region ?_
          refine ok_v (.hs 3 2 0 p3.length) rfl rfl ?_
          refine ok_v (.d (.int .i64 p2)) rfl rfl ?_
          refine ok_mv rfl rfl ?_
          refine ok_v (.d (.agg [.int .i64 p2, .int .i64 p0])) rfl rfl ?_
          refine ok_new (.hs 4 2 0 [({ Lo := p2, Hi := p0 } : api_Span)].length) (.dat 2 ([({ Lo := p2, Hi := p0 } : api_Span)].map enc_api_Span)) rfl rfl ?_
          obtain ⟨z124, h125, h0⟩ := bindE h0
          refine ok_ap (xs := p3) (ys := [({ Lo := p2, Hi := p0 } : api_Span)]) (enc := enc_api_Span) (.hs 4 2 0 [({ Lo := p2, Hi := p0 } : api_Span)].length) h125 rfl rfl rfl rfl rfl rfl rfl (conts_hs rfl rfl) rfl rfl rfl rfl ?_
          refine ok_sto 2 (.cel 1 [[.hs 5 2 0 z124.length]]) rfl rfl ?_
          refine ok_nil ?_
          refine rk_nil ?_
          obtain rfl := someE h0
          exact ⟨.inl rfl, _, rfl, wkE [(4, 5)] [] [] rfl ⟨⟨_, rfl, .d (.refl _)⟩, trivial⟩ ⟨⟨ltd rfl, .inr ⟨by decide, _, rfl, .dat _ _⟩⟩, ⟨ltd rfl, .inr ⟨by decide, _, rfl, .dat _ _⟩⟩, ⟨ltd rfl, .inr ⟨by decide, _, rfl, wb_cel1 (.cons (.hs rfl (by decide) (ltd rfl)) rfl .nil)⟩⟩, ⟨ltd rfl, .inr ⟨by decide, _, rfl, .dat _ _⟩⟩, trivial⟩⟩

theorem span_join_ok (p0 : List api_Span) (p1 : List api_Span) (p2 : Bool → Bool → Option Bool) (p2F : FuncId) (p2C : List DV) (p2Ok : ∀ (x0 : Bool) (x1 : Bool) (r : Bool), p2 x0 x1 = some r → Pure Try.prog tab p2F ([.bool x0, .bool x1] ++ p2C) (.bool r)) (r : List api_Span) (h0 : span_join p0 p1 p2 = some r) : Pure Try.prog tab 43 [.sl 2 (p0.map enc_api_Span), .sl 2 (p1.map enc_api_Span), .fn p2F p2C] (.sl 2 (r.map enc_api_Span)) := by
  unfold span_join at h0
  refine pure_of_run Try.func43 rfl (by kernel_rfl) (by kernel_rfl) rfl ?_
  refine rk_seq ?_
  refine rk_region ?_
  refine ok_new (.ref 0 1 0 0) (.dat 1 [[.fn p2F p2C]]) rfl rfl ?_
  refine ok_as rfl rfl ?_
  refine ok_nil ?_
  refine rk_seq ?_
  refine rk_region ?_
  refine ok_alloc rfl rfl ?_
  refine ok_nil ?_
  refine rk_seq ?_
  refine rk_region ?_
  refine ok_alloc rfl rfl ?_
  refine ok_nil ?_
  refine rk_seq ?_
  refine rk_region ?_
  refine ok_alloc rfl rfl ?_
  refine ok_alloc rfl rfl ?_
  refine ok_sto 3 (.dat 1 [[.int .i64 0]]) rfl rfl ?_
  refine ok_sto 4 (.dat 1 [[.bool false]]) rfl rfl ?_
  refine ok_nil ?_
  refine rk_seq ?_
  refine rk_region ?_
  refine ok_v (.fn 50 [.ref 4 1 0 0, .ref 3 1 0 0, .ref 2 1 0 0]) rfl rfl ?_
  refine ok_alloc rfl rfl ?_
  refine ok_sto 5 (.cel 1 [[.fn 50 [.ref 4 1 0 0, .ref 3 1 0 0, .ref 2 1 0 0]]]) rfl rfl ?_
  refine ok_nil ?_
  refine rk_seq ?_
  refine rk_seq ?_
  refine rk_region ?_
  refine ok_mv rfl rfl ?_
  refine ok_mv rfl rfl ?_
  refine ok_new (.hs 6 1 0 [p0, p1].length) (.dat 1 ([p0, p1].map enc_sl_List_api_Span)) rfl rfl ?_
  obtain ⟨e1, h2, h0⟩ := bindE h0
  obtain ⟨u3, h4, h0⟩ := bindE h0
  have h5 := lenEq_some h4
  refine ok_callF [(0, 6)] [(0, 3), (1, 3), (2, 3), (3, 3), (4, 3), (5, 3), (6, 0), (7, 1), (8, 2)] [.hs 6 1 0 [p0, p1].length] (.fn 58 [.ref 7 1 0 0]) [(6, .dat 1 (e1.1.map enc_sl_List_api_Span)), (7, .cel 1 [[.hs 8 3 0 e1.2.length]]), (8, .dat 3 (e1.2.map enc_span_end))] [(6, .dat 1 (e1.1.map enc_sl_List_api_Span)), (7, .cel 1 [[.hs 8 3 0 e1.2.length]]), (8, .dat 3 (e1.2.map enc_span_end)), (0, .dat 1 [[.fn p2F p2C]]), (1, .dat 2 [[0, 0].flatMap (eI .i64)]), (2, .dat 1 [[.nilsl]]), (3, .dat 1 [[.int .i64 0]]), (4, .dat 1 [[.bool false]]), (5, .cel 1 [[.fn 50 [.ref 4 1 0 0, .ref 3 1 0 0, .ref 2 1 0 0]]])] 9 (span_ends_e1_eff [p0, p1] e1 h2) rfl rfl rfl (wk_mk [(0, 6)] [] [] rfl ⟨⟨_, rfl, .hs rfl (by decide) (ltd rfl)⟩, trivial⟩ ⟨⟨ltd rfl, .inr ⟨by decide, _, rfl, .dat _ _⟩⟩, trivial⟩) (wk_mk [(0, 3), (1, 3), (2, 3), (3, 3), (4, 3), (5, 3), (6, 0), (7, 1), (8, 2)] [] [] rfl ⟨⟨_, rfl, (wv_fn (.cons (.ref rfl (by decide) (ltd rfl)) .nil))⟩, trivial⟩ ⟨⟨ltd rfl, .inr ⟨by decide, _, rfl, .dat _ _⟩⟩, ⟨ltd rfl, .inr ⟨by decide, _, rfl, wb_cel1 (.cons (.hs rfl (by decide) (ltd rfl)) rfl .nil)⟩⟩, ⟨ltd rfl, .inr ⟨by decide, _, rfl, .dat _ _⟩⟩, trivial⟩) rfl ⟨.inl rfl, .inl rfl, .inl rfl, .inr ⟨rfl, rfl⟩, .inr ⟨rfl, rfl⟩, .inr ⟨rfl, rfl⟩, .inr ⟨rfl, rfl⟩, .inr ⟨rfl, rfl⟩, .inr ⟨rfl, rfl⟩, trivial⟩ ?_
  refine ok_nil ?_
  refine rk_block ?_
  obtain ⟨m152, h151, h0⟩ := bindE h0
  refine rk_cut0 (fun b153 => b153 = m152) (fun (b153 : List api_Span) => ⟨[(8, .ref 0 1 0 0)], [(0, .cel 1 [[.hs 1 2 0 b153.length]]), (1, .dat 2 (b153.map enc_api_Span))], 2⟩) ?_ ?_
  · refine rk_wk (st' := ⟨[(5, .ref 0 1 0 0), (6, .d (.nilsl)), (7, .ref 1 2 0 0), (8, .ref 2 1 0 0), (9, .ref 3 1 0 0), (10, .ref 4 1 0 0), (11, .ref 5 1 0 0), (17, .fn 58 [.ref 6 1 0 0])], [(0, .dat 1 [[.fn p2F p2C]]), (1, .dat 2 [[0, 0].flatMap (eI .i64)]), (2, .dat 1 [[.nilsl]]), (3, .dat 1 [[.int .i64 0]]), (4, .dat 1 [[.bool false]]), (5, .cel 1 [[.fn 50 [.ref 4 1 0 0, .ref 3 1 0 0, .ref 2 1 0 0]]]), (6, .cel 1 [[.hs 7 3 0 e1.2.length]]), (7, .dat 3 (e1.2.map enc_span_end))], 8⟩) (wkE [(0, 0), (1, 1), (2, 2), (3, 3), (4, 4), (5, 5), (6, 7), (7, 8)] [] [] rfl ⟨⟨_, rfl, .ref rfl (by decide) (ltd rfl)⟩, ⟨_, rfl, .d (.refl _)⟩, ⟨_, rfl, .ref rfl (by decide) (ltd rfl)⟩, ⟨_, rfl, .ref rfl (by decide) (ltd rfl)⟩, ⟨_, rfl, .ref rfl (by decide) (ltd rfl)⟩, ⟨_, rfl, .ref rfl (by decide) (ltd rfl)⟩, ⟨_, rfl, .ref rfl (by decide) (ltd rfl)⟩, ⟨_, rfl, (wv_fn (.cons (.ref rfl (by decide) (ltd rfl)) .nil))⟩, trivial⟩ ⟨⟨ltd rfl, .inr ⟨by decide, _, rfl, .dat _ _⟩⟩, ⟨ltd rfl, .inr ⟨by decide, _, rfl, .dat _ _⟩⟩, ⟨ltd rfl, .inr ⟨by decide, _, rfl, .dat _ _⟩⟩, ⟨ltd rfl, .inr ⟨by decide, _, rfl, .dat _ _⟩⟩, ⟨ltd rfl, .inr ⟨by decide, _, rfl, .dat _ _⟩⟩, ⟨ltd rfl, .inr ⟨by decide, _, rfl, wb_cel1 (.cons ((wv_fn (.cons (.ref rfl (by decide) (ltd rfl)) (.cons (.ref rfl (by decide) (ltd rfl)) (.cons (.ref rfl (by decide) (ltd rfl)) .nil))))) rfl .nil)⟩⟩, ⟨ltd rfl, .inr ⟨by decide, _, rfl, wb_cel1 (.cons (.hs rfl (by decide) (ltd rfl)) rfl .nil)⟩⟩, ⟨ltd rfl, .inr ⟨by decide, _, rfl, .dat _ _⟩⟩, trivial⟩) ?_ (by simp)
    refine rk_rangeF [.ref 6 1 0 0] (.inl rfl) Try.func58 rfl (by kernel_rfl) (by kernel_rfl) rfl ?_
    intro A154 B155 hA154 hB155
    refine rk_seq ?_
    refine rk_region ?_
    refine ok_v (.hs 7 3 0 e1.2.length) rfl rfl ?_
    refine ok_v (.d (.int .i64 (e1.2.length : Int))) rfl rfl ?_
    refine ok_mv rfl rfl ?_
    refine ok_nil ?_
    obtain ⟨m229, h230, h151⟩ := bindE h151
    refine rk_block ?_
    refine rk_loopF (span_join_L1 e1 p2) (fun (a228 : Int × List Int × Int × Bool × List api_Span) => ⟨[(0, .yld 8), (5, .hs 7 3 0 e1.2.length), (6, .d (.int .i64 (e1.2.length : Int))), (7, .d (.int .i64 a228.1))], [(0, .dat 1 [[.fn p2F p2C]]), (1, .dat 2 [a228.2.1.flatMap (eI .i64)]), (2, .cel 1 [[.hs 9 2 0 a228.2.2.2.2.length]]), (3, .dat 1 [[.int .i64 a228.2.2.1]]), (4, .dat 1 [[.bool a228.2.2.2.1]]), (5, .cel 1 [[.fn 50 [.ref 4 1 0 0, .ref 3 1 0 0, .ref 2 1 0 0]]]), (6, .cel 1 [[.hs 7 3 0 e1.2.length]]), (7, .dat 3 (e1.2.map enc_span_end)), (8, .loop [(5, .ref 0 1 0 0), (6, .d (.nilsl)), (7, .ref 1 2 0 0), (8, .ref 2 1 0 0), (9, .ref 3 1 0 0), (10, .ref 4 1 0 0), (11, .ref 5 1 0 0), (17, .fn 58 [.ref 6 1 0 0])] [18] A154 B155 .ready none), (9, .dat 2 (a228.2.2.2.2.map enc_api_Span))], 10⟩) (0, [0, 0], 0, false, []) m229 h230 (wkE [] [] [9] rfl ⟨⟨_, rfl, .yld rfl (by decide) (ltd rfl)⟩, ⟨_, rfl, .hs rfl (by decide) (ltd rfl)⟩, ⟨_, rfl, .d (.refl _)⟩, ⟨_, rfl, .d (.refl _)⟩, trivial⟩ ⟨⟨ltd rfl, .inr ⟨by decide, _, rfl, .dat _ _⟩⟩, ⟨ltd rfl, .inr ⟨by decide, _, rfl, .dat _ _⟩⟩, ⟨ltd rfl, .inr ⟨by decide, _, rfl, wb_datcel1 (.cons (.nil (by decide) (ltd rfl)) rfl .nil)⟩⟩, ⟨ltd rfl, .inr ⟨by decide, _, rfl, .dat _ _⟩⟩, ⟨ltd rfl, .inr ⟨by decide, _, rfl, .dat _ _⟩⟩, ⟨ltd rfl, .inr ⟨by decide, _, rfl, wb_cel1 (.cons ((wv_fn (.cons (.ref rfl (by decide) (ltd rfl)) (.cons (.ref rfl (by decide) (ltd rfl)) (.cons (.ref rfl (by decide) (ltd rfl)) .nil))))) rfl .nil)⟩⟩, ⟨ltd rfl, .inr ⟨by decide, _, rfl, wb_cel1 (.cons (.hs rfl (by decide) (ltd rfl)) rfl .nil)⟩⟩, ⟨ltd rfl, .inr ⟨by decide, _, rfl, .dat _ _⟩⟩, ⟨ltd rfl, .inr ⟨by decide, _, rfl, wb_loopS (.cons rfl (.ref rfl (by decide) (ltd rfl)) (.cons rfl (.d (.refl _)) (.cons rfl (.ref rfl (by decide) (ltd rfl)) (.cons rfl (.ref rfl (by decide) (ltd rfl)) (.cons rfl (.ref rfl (by decide) (ltd rfl)) (.cons rfl (.ref rfl (by decide) (ltd rfl)) (.cons rfl (.ref rfl (by decide) (ltd rfl)) (.cons rfl ((wv_fn (.cons (.ref rfl (by decide) (ltd rfl)) .nil))) .nil))))))))⟩⟩, ⟨ltd rfl, .inl ⟨by decide, _, by decide, rfl⟩⟩, trivial⟩) ?_
    intro a228 y226 h227
    unfold span_join_L1 at h227
    refine rk_seq ?_
    refine rk_region ?_
    refine ok_v (.d (.bool (decide (a228.1 < (e1.2.length : Int))))) rfl rfl ?_
    refine ok_nil ?_
    refine rk_seq ?_
    refine rk_condH rfl h227 (fun _ h227 => ?_) (fun _ h227 => ?_)
    · refine rk_skip ?_
      refine rk_seq ?_
      refine rk_block ?_
      refine rk_seq ?_
      refine rk_region ?_
      obtain ⟨v249, h250, h227⟩ := bindE h227
      refine ok_ih h250 rfl rfl rfl rfl rfl rfl rfl ?_
      refine ok_lh (.d (.agg [.int .i64 v249.at_, .int .i64 v249.list_, .int .i64 v249.by_])) h250 rfl rfl rfl rfl rfl rfl ?_
      refine ok_alloc rfl rfl ?_
      refine ok_sto 10 (.dat 3 [[.int .i64 v249.at_, .int .i64 v249.list_, .int .i64 v249.by_]]) rfl rfl ?_
      refine ok_nil ?_
      refine rk_seq ?_
      refine rk_region ?_
      refine ok_mv rfl rfl ?_
      refine ok_v (.d (.agg [.int .i64 v249.at_, .int .i64 v249.list_, .int .i64 v249.by_])) rfl rfl ?_
      obtain ⟨m264, h263, h227⟩ := bindE h227
      refine ok_yieldC (fun b265 => b265 = m264) (fun (b265 : List Int × Bool × List api_Span) => ⟨[(0, .yld 8), (5, .hs 7 3 0 e1.2.length), (6, .d (.int .i64 (e1.2.length : Int))), (7, .d (.int .i64 a228.1)), (13, .d (.bool true))], [(0, .dat 1 [[.fn p2F p2C]]), (1, .dat 2 [b265.1.flatMap (eI .i64)]), (2, .cel 1 [[.hs 9 2 0 b265.2.2.length]]), (3, .dat 1 [[.int .i64 v249.at_]]), (4, .dat 1 [[.bool b265.2.1]]), (5, .cel 1 [[.fn 50 [.ref 4 1 0 0, .ref 3 1 0 0, .ref 2 1 0 0]]]), (6, .cel 1 [[.hs 7 3 0 e1.2.length]]), (7, .dat 3 (e1.2.map enc_span_end)), (8, .loop [(5, .ref 0 1 0 0), (6, .d (.nilsl)), (7, .ref 1 2 0 0), (8, .ref 2 1 0 0), (9, .ref 3 1 0 0), (10, .ref 4 1 0 0), (11, .ref 5 1 0 0), (17, .fn 58 [.ref 6 1 0 0])] [18] A154 B155 .ready none), (9, .dat 2 (b265.2.2.map enc_api_Span))], 10⟩) hA154 hB155 rfl rfl rfl rfl rfl rfl ?_ ?_
      · refine rk_region ?_
        refine ok_alloc rfl rfl ?_
        refine ok_sto 11 (.dat 3 [[.int .i64 v249.at_, .int .i64 v249.list_, .int .i64 v249.by_]]) rfl rfl ?_
        refine ok_nil ?_
        refine rk_nil ?_
        refine ⟨rfl, _, rfl, ?_⟩
        refine rk_block ?_
        refine rk_seq ?_
        refine rk_region ?_
        refine ok_v (.fn 50 [.ref 4 1 0 0, .ref 3 1 0 0, .ref 2 1 0 0]) rfl rfl ?_
        refine ok_v (.ref 11 3 0 0) rfl rfl ?_
        refine ok_v (.d (.int .i64 v249.at_)) rfl rfl ?_
        obtain ⟨e266, h267, h263⟩ := bindE h263
        refine ok_callF [(0, 4), (1, 3), (2, 2), (3, 9)] [(0, 5), (1, 5), (2, 2), (3, 1), (4, 0), (5, 5), (6, 5), (7, 5), (8, 5), (9, 3), (10, 5), (11, 5), (12, 4)] [.d (.int .i64 v249.at_), .ref 4 1 0 0, .ref 3 1 0 0, .ref 2 1 0 0] (.d (.tup [])) [(2, .cel 1 [[.hs 12 2 0 e266.2.2.length]]), (3, .dat 1 [[.int .i64 e266.2.1]]), (4, .dat 1 [[.bool e266.1]]), (12, .dat 2 (e266.2.2.map enc_api_Span))] [(2, .cel 1 [[.hs 12 2 0 e266.2.2.length]]), (3, .dat 1 [[.int .i64 e266.2.1]]), (4, .dat 1 [[.bool e266.1]]), (12, .dat 2 (e266.2.2.map enc_api_Span)), (0, .dat 1 [[.fn p2F p2C]]), (1, .dat 2 [a228.2.1.flatMap (eI .i64)]), (5, .cel 1 [[.fn 50 [.ref 4 1 0 0, .ref 3 1 0 0, .ref 2 1 0 0]]]), (6, .cel 1 [[.hs 7 3 0 e1.2.length]]), (7, .dat 3 (e1.2.map enc_span_end)), (8, .loop [(5, .ref 0 1 0 0), (6, .d (.nilsl)), (7, .ref 1 2 0 0), (8, .ref 2 1 0 0), (9, .ref 3 1 0 0), (10, .ref 4 1 0 0), (11, .ref 5 1 0 0), (17, .fn 58 [.ref 6 1 0 0])] [18] A154 B155 .busy none), (10, .dat 3 [[.int .i64 v249.at_, .int .i64 v249.list_, .int .i64 v249.by_]]), (11, .dat 3 [[.int .i64 v249.at_, .int .i64 v249.list_, .int .i64 v249.by_]])] 13 (span_join_1_e2_eff v249.at_ a228.2.2.2.1 a228.2.2.1 a228.2.2.2.2 e266 h267) rfl rfl rfl (wk_mk [(0, 4), (1, 3), (2, 2), (3, 9)] [] [] rfl ⟨⟨_, rfl, .d (.refl _)⟩, ⟨_, rfl, .ref rfl (by decide) (ltd rfl)⟩, ⟨_, rfl, .ref rfl (by decide) (ltd rfl)⟩, ⟨_, rfl, .ref rfl (by decide) (ltd rfl)⟩, trivial⟩ ⟨⟨ltd rfl, .inr ⟨by decide, _, rfl, .dat _ _⟩⟩, ⟨ltd rfl, .inr ⟨by decide, _, rfl, .dat _ _⟩⟩, ⟨ltd rfl, .inr ⟨by decide, _, rfl, wb_cel1 (.cons (.hs rfl (by decide) (ltd rfl)) rfl .nil)⟩⟩, ⟨ltd rfl, .inr ⟨by decide, _, rfl, .dat _ _⟩⟩, trivial⟩) (wk_mk [(0, 5), (1, 5), (2, 2), (3, 1), (4, 0), (5, 5), (6, 5), (7, 5), (8, 5), (9, 3), (10, 5), (11, 5), (12, 4)] [] [] rfl ⟨⟨_, rfl, .d (.refl _)⟩, trivial⟩ ⟨⟨ltd rfl, .inr ⟨by decide, _, rfl, wb_cel1 (.cons (.hs rfl (by decide) (ltd rfl)) rfl .nil)⟩⟩, ⟨ltd rfl, .inr ⟨by decide, _, rfl, .dat _ _⟩⟩, ⟨ltd rfl, .inr ⟨by decide, _, rfl, .dat _ _⟩⟩, ⟨ltd rfl, .inr ⟨by decide, _, rfl, .dat _ _⟩⟩, trivial⟩) rfl ⟨.inl rfl, .inl rfl, .inl rfl, .inl rfl, .inr ⟨rfl, rfl⟩, .inr ⟨rfl, rfl⟩, .inr ⟨rfl, rfl⟩, .inr ⟨rfl, rfl⟩, .inr ⟨rfl, rfl⟩, .inr ⟨rfl, rfl⟩, .inr ⟨rfl, rfl⟩, .inr ⟨rfl, rfl⟩, trivial⟩ ?_
        refine ok_nil ?_
        refine rk_seq ?_
        refine rk_regionD (by kernel_rfl) ?_
        refine ok_v (.ref 11 3 0 1) rfl rfl ?_
        refine ok_v (.d (.int .i64 v249.list_)) rfl rfl ?_
        obtain ⟨v268, h269, h263⟩ := bindE h263
        refine ok_iaA h269 rfl rfl rfl rfl rfl ?_
        refine ok_ldA (enc := (eI .i64)) (.d (.int .i64 v268)) h269 (fun _ => rfl) rfl rfl rfl rfl rfl rfl ?_
        refine ok_v (.ref 11 3 0 2) rfl rfl ?_
        refine ok_v (.d (.int .i64 v249.by_)) rfl rfl ?_
        refine ok_v (.d (.int .i64 (w64 (v268 + v249.by_)))) rfl rfl ?_
        obtain ⟨v270, h271, h263⟩ := bindE h263
        refine ok_iaA h271 rfl rfl rfl rfl rfl ?_
        refine ok_stA (enc := (eI .i64)) (w64 (v268 + v249.by_)) h271 (fun _ => rfl) rfl rfl rfl rfl rfl rfl rfl rfl ?_
        refine ok_nil ?_
        refine rk_regionD (by kernel_rfl) ?_
        refine ok_v (.ref 11 3 0 0) rfl rfl ?_
        refine ok_v (.d (.int .i64 v249.at_)) rfl rfl ?_
        refine ok_v (.d (.fn p2F p2C)) rfl rfl ?_
        obtain ⟨v272, h273, h263⟩ := bindE h263
        refine ok_iaA h273 rfl rfl rfl rfl rfl ?_
        refine ok_ldA (enc := (eI .i64)) (.d (.int .i64 v272)) h273 (fun _ => rfl) rfl rfl rfl rfl rfl rfl ?_
        refine ok_v (.d (.bool (decide (v272 > 0)))) rfl rfl ?_
        obtain ⟨v274, h275, h263⟩ := bindE h263
        refine ok_iaA h275 rfl rfl rfl rfl rfl ?_
        refine ok_ldA (enc := (eI .i64)) (.d (.int .i64 v274)) h275 (fun _ => rfl) rfl rfl rfl rfl rfl rfl ?_
        refine ok_v (.d (.bool (decide (v274 > 0)))) rfl rfl ?_
        obtain ⟨r276, h277, h263⟩ := bindE h263
        refine ok_pf [.d (.bool (decide (v272 > 0))), .d (.bool (decide (v274 > 0)))] (p2Ok (decide (v272 > 0)) (decide (v274 > 0)) r276 h277) rfl rfl rfl (.inl rfl) ?_
        refine ok_sto 3 (.dat 1 [[.int .i64 v249.at_]]) rfl rfl ?_
        refine ok_sto 4 (.dat 1 [[.bool r276]]) rfl rfl ?_
        refine ok_nil ?_
        refine rk_nil ?_
        refine blk_nor ?_
        refine rk_nil ?_
        refine ⟨_, rfl, ?_⟩
        obtain rfl := someE h263
        exact ⟨_, rfl, wkE [(9, 12)] [] [] rfl ⟨⟨_, rfl, .yld rfl (by decide) (ltd rfl)⟩, ⟨_, rfl, .hs rfl (by decide) (ltd rfl)⟩, ⟨_, rfl, .d (.refl _)⟩, ⟨_, rfl, .d (.refl _)⟩, ⟨_, rfl, .d (.refl _)⟩, trivial⟩ ⟨⟨ltd rfl, .inr ⟨by decide, _, rfl, .dat _ _⟩⟩, ⟨ltd rfl, .inr ⟨by decide, _, rfl, .dat _ _⟩⟩, ⟨ltd rfl, .inr ⟨by decide, _, rfl, wb_cel1 (.cons (.hs rfl (by decide) (ltd rfl)) rfl .nil)⟩⟩, ⟨ltd rfl, .inr ⟨by decide, _, rfl, .dat _ _⟩⟩, ⟨ltd rfl, .inr ⟨by decide, _, rfl, .dat _ _⟩⟩, ⟨ltd rfl, .inr ⟨by decide, _, rfl, wb_cel1 (.cons ((wv_fn (.cons (.ref rfl (by decide) (ltd rfl)) (.cons (.ref rfl (by decide) (ltd rfl)) (.cons (.ref rfl (by decide) (ltd rfl)) .nil))))) rfl .nil)⟩⟩, ⟨ltd rfl, .inr ⟨by decide, _, rfl, wb_cel1 (.cons (.hs rfl (by decide) (ltd rfl)) rfl .nil)⟩⟩, ⟨ltd rfl, .inr ⟨by decide, _, rfl, .dat _ _⟩⟩, ⟨ltd rfl, .inr ⟨by decide, _, rfl, wb_loopS (.cons rfl (.ref rfl (by decide) (ltd rfl)) (.cons rfl (.d (.refl _)) (.cons rfl (.ref rfl (by decide) (ltd rfl)) (.cons rfl (.ref rfl (by decide) (ltd rfl)) (.cons rfl (.ref rfl (by decide) (ltd rfl)) (.cons rfl (.ref rfl (by decide) (ltd rfl)) (.cons rfl (.ref rfl (by decide) (ltd rfl)) (.cons rfl ((wv_fn (.cons (.ref rfl (by decide) (ltd rfl)) .nil))) .nil))))))))⟩⟩, ⟨ltd rfl, .inr ⟨by decide, _, rfl, .dat _ _⟩⟩, trivial⟩⟩
      · intro b265 hb
        subst hb
        refine ok_v (.d (.bool (!true))) rfl rfl ?_
        refine ok_nil ?_
        refine rk_condH rfl h227 (fun _ h227 => ?_) (fun _ h227 => ?_)
        · refine rk_ret ?_
          refine ⟨_, (Option.some.inj h227).symm, fun hm => ?_⟩
          subst hm
          refine ⟨.inr rfl, _, rfl, _, _, .nor, rfl, by decide, ?_⟩
          refine after_nor ?_
          refine rk_nil ?_
          obtain rfl := someE h151
          exact ⟨_, rfl, wkE [(0, 2), (1, 9)] [] [] rfl ⟨⟨_, rfl, .ref rfl (by decide) (ltd rfl)⟩, trivial⟩ ⟨⟨ltd rfl, .inr ⟨by decide, _, rfl, wb_cel1 (.cons (.hs rfl (by decide) (ltd rfl)) rfl .nil)⟩⟩, ⟨ltd rfl, .inr ⟨by decide, _, rfl, .dat _ _⟩⟩, trivial⟩⟩
        · refine rk_skip ?_
          refine rk_nil ?_
          refine blk_nor ?_
          refine rk_region ?_
          refine ok_v (.d (.int .i64 (w64 (a228.1 + 1)))) rfl rfl ?_
          refine ok_mv rfl rfl ?_
          refine ok_nil ?_
          refine rk_nil ?_
          exact ⟨_, (Option.some.inj h227).symm, wkE [(9, 9)] [] [] rfl ⟨⟨_, rfl, .yld rfl (by decide) (ltd rfl)⟩, ⟨_, rfl, .hs rfl (by decide) (ltd rfl)⟩, ⟨_, rfl, .d (.refl _)⟩, ⟨_, rfl, .d (.refl _)⟩, trivial⟩ ⟨⟨ltd rfl, .inr ⟨by decide, _, rfl, .dat _ _⟩⟩, ⟨ltd rfl, .inr ⟨by decide, _, rfl, .dat _ _⟩⟩, ⟨ltd rfl, .inr ⟨by decide, _, rfl, wb_cel1 (.cons (.hs rfl (by decide) (ltd rfl)) rfl .nil)⟩⟩, ⟨ltd rfl, .inr ⟨by decide, _, rfl, .dat _ _⟩⟩, ⟨ltd rfl, .inr ⟨by decide, _, rfl, .dat _ _⟩⟩, ⟨ltd rfl, .inr ⟨by decide, _, rfl, wb_cel1 (.cons ((wv_fn (.cons (.ref rfl (by decide) (ltd rfl)) (.cons (.ref rfl (by decide) (ltd rfl)) (.cons (.ref rfl (by decide) (ltd rfl)) .nil))))) rfl .nil)⟩⟩, ⟨ltd rfl, .inr ⟨by decide, _, rfl, wb_cel1 (.cons (.hs rfl (by decide) (ltd rfl)) rfl .nil)⟩⟩, ⟨ltd rfl, .inr ⟨by decide, _, rfl, .dat _ _⟩⟩, ⟨ltd rfl, .inr ⟨by decide, _, rfl, wb_loopS (.cons rfl (.ref rfl (by decide) (ltd rfl)) (.cons rfl (.d (.refl _)) (.cons rfl (.ref rfl (by decide) (ltd rfl)) (.cons rfl (.ref rfl (by decide) (ltd rfl)) (.cons rfl (.ref rfl (by decide) (ltd rfl)) (.cons rfl (.ref rfl (by decide) (ltd rfl)) (.cons rfl (.ref rfl (by decide) (ltd rfl)) (.cons rfl ((wv_fn (.cons (.ref rfl (by decide) (ltd rfl)) .nil))) .nil))))))))⟩⟩, ⟨ltd rfl, .inr ⟨by decide, _, rfl, .dat _ _⟩⟩, trivial⟩⟩
    · refine rk_exit ?_
      refine ⟨_, (Option.some.inj h227).symm, fun hm => ?_⟩
      subst hm
      refine ⟨.inl rfl, _, rfl, _, _, .nor, rfl, by decide, ?_⟩
      refine after_nor ?_
      refine rk_nil ?_
      obtain rfl := someE h151
      exact ⟨_, rfl, wkE [(0, 2), (1, 9)] [] [] rfl ⟨⟨_, rfl, .ref rfl (by decide) (ltd rfl)⟩, trivial⟩ ⟨⟨ltd rfl, .inr ⟨by decide, _, rfl, wb_cel1 (.cons (.hs rfl (by decide) (ltd rfl)) rfl .nil)⟩⟩, ⟨ltd rfl, .inr ⟨by decide, _, rfl, .dat _ _⟩⟩, trivial⟩⟩
  · intro b153 st hb hw
    subst hb
    refine rk_wk hw ?_ (by simp)
    refine rk_seq ?_
    refine rk_region ?_
    refine ok_v (.hs 1 2 0 b153.length) rfl rfl ?_
    refine ok_as rfl rfl ?_
    refine ok_nil ?_
    refine rk_ret ?_
    obtain rfl := someE h0
    exact finD (.inr rfl) (v := .hs 1 2 0 b153.length) rfl (td_hs rfl rfl) (.refl _)

theorem span_Make_2_ok (p0 : Bool) (p1 : Bool) (r : Bool) (h0 : span_Make_2 p0 p1 = some r) : Pure Try.prog tab 44 [.bool p0, .bool p1] (.bool r) := by
  unfold span_Make_2 at h0
  refine pure_of_run Try.func44 rfl (by kernel_rfl) (by kernel_rfl) rfl ?_
  refine rk_seq ?_
  refine rk_region ?_
  refine ok_as rfl rfl ?_
  refine ok_nil ?_
  refine rk_seq ?_
  refine rk_region ?_
  refine ok_mv rfl rfl ?_
  refine ok_as rfl rfl ?_
  refine ok_nil ?_
  refine rk_ret ?_
  obtain rfl := someE h0
  exact finD (.inr rfl) (v := .d (.bool p0)) rfl rfl (.refl _)

theorem span_Make_ok (p0 : List api_Span) (r : List api_Span × Int) (h0 : span_Make p0 = some r) : Pure Try.prog tab 23 [.sl 2 (p0.map enc_api_Span)] (.tup [.sl 2 (r.1.map enc_api_Span), .int .i64 r.2]) := by
  unfold span_Make at h0
  refine pure_of_run Try.func23 rfl (by kernel_rfl) (by kernel_rfl) rfl ?_
  refine rk_seq ?_
  refine rk_region ?_
  refine ok_as rfl rfl ?_
  refine ok_as rfl rfl ?_
  refine ok_nil ?_
  refine rk_seq ?_
  refine rk_seq ?_
  refine rk_region ?_
  refine ok_mv rfl rfl ?_
  refine ok_ln rfl rfl rfl rfl ?_
  refine ok_v (.d (.bool (decide ((p0.length : Int) > 400)))) rfl rfl ?_
  refine ok_nil ?_
  refine rk_condH rfl h0 (fun _ h0 => ?_) (fun _ h0 => ?_)
  · refine rk_seq ?_
    refine rk_region ?_
    refine ok_as rfl rfl ?_
    refine ok_as rfl rfl ?_
    refine ok_nil ?_
    refine rk_ret ?_
    obtain rfl := someE h0
    exact finD (.inr rfl) (v := .d (.tup [.nilsl, .int .i64 4])) rfl rfl (dle_tup (.cons (.nil _) (.cons (.refl _) .nil)))
  · refine rk_skip ?_
    refine rk_seq ?_
    refine rk_seq ?_
    refine rk_region ?_
    refine ok_mv rfl rfl ?_
    obtain ⟨r1, h2, h0⟩ := bindE h0
    refine ok_pc [.d (.sl 2 (p0.map enc_api_Span)), .d (.fn 42 [])] (slices_ContainsFunc_api_Span_api_Span_ok p0 (fun x0 => span_Make_1 x0) 42 [] (fun x0 r hr => span_Make_1_ok x0 r hr) r1 h2) rfl rfl rfl (.inl rfl) ?_
    refine ok_nil ?_
    refine rk_condH rfl h0 (fun _ h0 => ?_) (fun _ h0 => ?_)
    · refine rk_seq ?_
      refine rk_region ?_
      refine ok_as rfl rfl ?_
      refine ok_as rfl rfl ?_
      refine ok_nil ?_
      refine rk_ret ?_
      obtain rfl := someE h0
      exact finD (.inr rfl) (v := .d (.tup [.nilsl, .int .i64 8])) rfl rfl (dle_tup (.cons (.nil _) (.cons (.refl _) .nil)))
    · refine rk_skip ?_
      refine rk_seq ?_
      refine rk_region ?_
      refine ok_mv rfl rfl ?_
      obtain ⟨r3, h4, h0⟩ := bindE h0
      refine ok_pc [.d (.sl 2 (p0.map enc_api_Span)), .d (.nilsl), .d (.fn 44 [])] (pure_le (.cons (.refl _) (.cons (.nil _) (.cons (.refl _) .nil))) (span_join_ok p0 [] (fun x0 x1 => span_Make_2 x0 x1) 44 [] (fun x0 x1 r hr => span_Make_2_ok x0 x1 r hr) r3 h4)) rfl rfl rfl (.inl rfl) ?_
      refine ok_as rfl rfl ?_
      refine ok_as rfl rfl ?_
      refine ok_nil ?_
      refine rk_ret ?_
      obtain rfl := someE h0
      exact finD (.inr rfl) (v := .d (.tup [.sl 2 (r3.map enc_api_Span), .int .i64 0])) rfl rfl (.refl _)

theorem span_Check_ok (p0 : List api_Span) (r : Int) (h0 : span_Check p0 = some r) : Pure Try.prog tab 27 [.sl 2 (p0.map enc_api_Span)] (.int .i64 r) := by
  unfold span_Check at h0
  refine pure_of_run Try.func27 rfl (by kernel_rfl) (by kernel_rfl) rfl ?_
  refine rk_seq ?_
  refine rk_region ?_
  refine ok_as rfl rfl ?_
  refine ok_nil ?_
  refine rk_seq ?_
  refine rk_seq ?_
  refine rk_region ?_
  refine ok_mv rfl rfl ?_
  refine ok_ln rfl rfl rfl rfl ?_
  refine ok_v (.d (.bool (decide ((p0.length : Int) > 400)))) rfl rfl ?_
  refine ok_nil ?_
  refine rk_condH rfl h0 (fun _ h0 => ?_) (fun _ h0 => ?_)
  · refine rk_seq ?_
    refine rk_region ?_
    refine ok_as rfl rfl ?_
    refine ok_nil ?_
    refine rk_ret ?_
    obtain rfl := someE h0
    exact finD (.inr rfl) (v := .d (.int .i64 4)) rfl rfl (.refl _)
  · refine rk_skip ?_
    refine rk_seq ?_
    refine rk_seq ?_
    refine rk_region ?_
    refine ok_mv rfl rfl ?_
    refine ok_ln rfl rfl rfl rfl ?_
    refine ok_mv rfl rfl ?_
    refine ok_nil ?_
    obtain ⟨m212, h213, h0⟩ := bindE h0
    refine rk_blockcut (fun b214 => .inl b214 = m212) (fun (b214 : Unit) => ⟨[], [], 0⟩) (by simp) ?_ ?_
    · refine rk_loopF (span_Check_L1 p0) (fun (a211 : Int) => ⟨[(0, .d (.sl 2 (p0.map enc_api_Span))), (8, .d (.sl 2 (p0.map enc_api_Span))), (9, .d (.int .i64 (p0.length : Int))), (10, .d (.int .i64 a211))], [], 0⟩) 0 m212 h213 (wkE [] [] [] rfl ⟨⟨_, rfl, .d (.refl _)⟩, ⟨_, rfl, .d (.refl _)⟩, ⟨_, rfl, .d (.refl _)⟩, ⟨_, rfl, .d (.refl _)⟩, trivial⟩ trivial) ?_
      intro a211 y209 h210
      unfold span_Check_L1 at h210
      refine rk_seq ?_
      refine rk_region ?_
      refine ok_v (.d (.bool (decide (a211 < (p0.length : Int))))) rfl rfl ?_
      refine ok_nil ?_
      refine rk_seq ?_
      refine rk_condH rfl h210 (fun _ h210 => ?_) (fun _ h210 => ?_)
      · refine rk_skip ?_
        refine rk_seq ?_
        refine rk_block ?_
        refine rk_seq ?_
        refine rk_region ?_
        refine ok_mv rfl rfl ?_
        obtain ⟨v267, h268, h210⟩ := bindE h210
        refine ok_ix (enc := enc_api_Span) h268 rfl rfl rfl rfl rfl rfl ?_
        refine ok_v (.d (.agg [.int .i64 v267.Lo, .int .i64 v267.Hi])) rfl rfl ?_
        refine ok_alloc rfl rfl ?_
        refine ok_as rfl rfl ?_
        refine ok_sto 0 (.dat 2 [[.int .i64 v267.Lo, .int .i64 v267.Hi]]) rfl rfl ?_
        refine ok_nil ?_
        refine rk_seq ?_
        refine rk_regionD (by kernel_rfl) ?_
        refine ok_v (.d (.agg [.int .i64 v267.Lo, .int .i64 v267.Hi])) rfl rfl ?_
        obtain ⟨r269, h270, h210⟩ := bindE h210
        refine ok_pc [.d (.agg [.int .i64 v267.Lo, .int .i64 v267.Hi])] (span_valid_ok v267 r269 h270) rfl rfl rfl (.inl rfl) ?_
        refine ok_v (.d (.bool (!r269))) rfl rfl ?_
        obtain ⟨c287, h288, h210⟩ := bindE h210
        refine ok_cutQ 15 (fun A st => ∃ (j289 j290 j291 j292 j293 j294 j295 j296 j297 j298 j299 j300 j301 j302 : V), st = A [(32, .d (.bool c287)), (31, j302), (30, j301), (29, j300), (28, j299), (27, j298), (26, j297), (25, j296), (24, j295), (23, j294), (22, j293), (21, j292), (20, j291), (19, j290), (18, j289)]) ?_ ?_
        · refine ok_mvB rfl rfl h288 (fun h288 => ?_) (fun h288 => ?_)
          · refine ok_sg rfl ?_
            refine ok_sg rfl ?_
            refine ok_sg rfl ?_
            refine ok_sg rfl ?_
            refine ok_sg rfl ?_
            refine ok_sg rfl ?_
            refine ok_sg rfl ?_
            refine ok_sg rfl ?_
            refine ok_sg rfl ?_
            refine ok_sg rfl ?_
            refine ok_sg rfl ?_
            refine ok_sg rfl ?_
            refine ok_sg rfl ?_
            refine ok_v (.d (.bool true)) rfl rfl ?_
            refine ok_nil ?_
            obtain rfl := someE h288
            exact ⟨_, _, _, _, _, _, _, _, _, _, _, _, _, _, rfl⟩
          · refine ok_mv rfl rfl ?_
            refine ok_v (.d (.bool (decide (a211 > 0)))) rfl rfl ?_
            obtain ⟨c305, h306, h288⟩ := bindE h288
            refine ok_cutQ 11 (fun A st => ∃ (j307 j308 j309 j310 j311 j312 j313 j314 j315 j316 : V), st = A [(31, .d (.bool c305)), (30, j316), (29, j315), (28, j314), (27, j313), (26, j312), (25, j311), (24, j310), (23, j309), (22, j308), (21, j307)]) ?_ ?_
            · refine ok_mvB rfl rfl h306 (fun h306 => ?_) (fun h306 => ?_)
              · refine ok_mv rfl rfl ?_
                refine ok_mv rfl rfl ?_
                refine ok_v (.d (.int .i64 (w64 (a211 - 1)))) rfl rfl ?_
                obtain ⟨v317, h318, h306⟩ := bindE h306
                refine ok_ix (enc := enc_api_Span) h318 rfl rfl rfl rfl rfl rfl ?_
                refine ok_v (.dref [.int .i64 v317.Lo, .int .i64 v317.Hi] 1) rfl rfl ?_
                refine ok_v (.d (.int .i64 v317.Hi)) rfl rfl ?_
                refine ok_v (.ref 0 2 0 0) rfl rfl ?_
                refine ok_v (.d (.int .i64 v267.Lo)) rfl rfl ?_
                refine ok_v (.d (.bool (decide (v317.Hi ≥ v267.Lo)))) rfl rfl ?_
                refine ok_v (.d (.bool (decide (v317.Hi ≥ v267.Lo)))) rfl rfl ?_
                refine ok_nil ?_
                obtain rfl := someE h306
                exact ⟨_, _, _, _, _, _, _, _, _, _, rfl⟩
              · refine ok_sg rfl ?_
                refine ok_sg rfl ?_
                refine ok_sg rfl ?_
                refine ok_sg rfl ?_
                refine ok_sg rfl ?_
                refine ok_sg rfl ?_
                refine ok_sg rfl ?_
                refine ok_sg rfl ?_
                refine ok_sg rfl ?_
                refine ok_v (.d (.bool false)) rfl rfl ?_
                refine ok_nil ?_
                obtain rfl := someE h306
                exact ⟨_, _, _, _, _, _, _, _, _, _, rfl⟩
            · rintro _ ⟨j307, j308, j309, j310, j311, j312, j313, j314, j315, j316, rfl⟩
              refine ok_v (.d (.bool c305)) rfl rfl ?_
              refine ok_nil ?_
              obtain rfl := someE h288
              exact ⟨_, _, _, _, _, _, _, _, _, _, _, _, _, _, rfl⟩
        · rintro _ ⟨j289, j290, j291, j292, j293, j294, j295, j296, j297, j298, j299, j300, j301, j302, rfl⟩
          refine ok_nil ?_
          refine rk_condH rfl h210 (fun _ h210 => ?_) (fun _ h210 => ?_)
          · refine rk_seq ?_
            refine rk_region ?_
            refine ok_as rfl rfl ?_
            refine ok_nil ?_
            refine rk_ret ?_
            refine ⟨_, (Option.some.inj h210).symm, fun hm => ?_⟩
            subst hm
            obtain rfl := someE h0
            exact finD (.inr rfl) (v := .d (.int .i64 8)) rfl rfl (.refl _)
          · refine rk_skip ?_
            refine rk_nil ?_
            refine blk_nor ?_
            refine rk_region ?_
            refine ok_v (.d (.int .i64 (w64 (a211 + 1)))) rfl rfl ?_
            refine ok_mv rfl rfl ?_
            refine ok_nil ?_
            refine rk_nil ?_
            exact ⟨_, (Option.some.inj h210).symm, wkE [] [] [] rfl ⟨⟨_, rfl, .d (.refl _)⟩, ⟨_, rfl, .d (.refl _)⟩, ⟨_, rfl, .d (.refl _)⟩, ⟨_, rfl, .d (.refl _)⟩, trivial⟩ trivial⟩
      · refine rk_exit ?_
        refine ⟨_, (Option.some.inj h210).symm, fun hm => ?_⟩
        subst hm
        exact ⟨_, rfl, wkE [] [] [] rfl trivial trivial⟩
    · intro b214 hb
      subst hb
      refine rk_seq ?_
      refine rk_region ?_
      refine ok_as rfl rfl ?_
      refine ok_nil ?_
      refine rk_ret ?_
      obtain rfl := someE h0
      exact finD (.inr rfl) (v := .d (.int .i64 0)) rfl rfl (.refl _)

theorem span_checked_ok (p0 : List api_Span) (p1 : List api_Span) (p2 : Bool → Bool → Option Bool) (p2F : FuncId) (p2C : List DV) (p2Ok : ∀ (x0 : Bool) (x1 : Bool) (r : Bool), p2 x0 x1 = some r → Pure Try.prog tab p2F ([.bool x0, .bool x1] ++ p2C) (.bool r)) (r : List api_Span × Int) (h0 : span_checked p0 p1 p2 = some r) : Pure Try.prog tab 37 [.sl 2 (p0.map enc_api_Span), .sl 2 (p1.map enc_api_Span), .fn p2F p2C] (.tup [.sl 2 (r.1.map enc_api_Span), .int .i64 r.2]) := by
  unfold span_checked at h0
  refine pure_of_run Try.func37 rfl (by kernel_rfl) (by kernel_rfl) rfl ?_
  refine rk_seq ?_
  refine rk_region ?_
  refine ok_as rfl rfl ?_
  refine ok_as rfl rfl ?_
  refine ok_nil ?_
  refine rk_seq ?_
  refine rk_seq ?_
  refine rk_region ?_
  refine ok_mv rfl rfl ?_
  obtain ⟨r1, h2, h0⟩ := bindE h0
  refine ok_pc [.d (.sl 2 (p0.map enc_api_Span))] (span_Check_ok p0 r1 h2) rfl rfl rfl (.inl rfl) ?_
  refine ok_as rfl rfl ?_
  refine ok_nil ?_
  refine rk_seq ?_
  refine rk_region ?_
  refine ok_mv rfl rfl ?_
  refine ok_v (.d (.bool (r1 != 0))) rfl rfl ?_
  refine ok_nil ?_
  refine rk_condH rfl h0 (fun _ h0 => ?_) (fun _ h0 => ?_)
  · refine rk_seq ?_
    refine rk_region ?_
    refine ok_mv rfl rfl ?_
    refine ok_as rfl rfl ?_
    refine ok_as rfl rfl ?_
    refine ok_nil ?_
    refine rk_ret ?_
    obtain rfl := someE h0
    exact finD (.inr rfl) (v := .d (.tup [.nilsl, .int .i64 r1])) rfl rfl (dle_tup (.cons (.nil _) (.cons (.refl _) .nil)))
  · refine rk_skip ?_
    refine rk_seq ?_
    refine rk_seq ?_
    refine rk_region ?_
    refine ok_mv rfl rfl ?_
    obtain ⟨r3, h4, h0⟩ := bindE h0
    refine ok_pc [.d (.sl 2 (p1.map enc_api_Span))] (span_Check_ok p1 r3 h4) rfl rfl rfl (.inl rfl) ?_
    refine ok_as rfl rfl ?_
    refine ok_nil ?_
    refine rk_seq ?_
    refine rk_region ?_
    refine ok_mv rfl rfl ?_
    refine ok_v (.d (.bool (r3 != 0))) rfl rfl ?_
    refine ok_nil ?_
    refine rk_condH rfl h0 (fun _ h0 => ?_) (fun _ h0 => ?_)
    · refine rk_seq ?_
      refine rk_region ?_
      refine ok_mv rfl rfl ?_
      refine ok_as rfl rfl ?_
      refine ok_as rfl rfl ?_
      refine ok_nil ?_
      refine rk_ret ?_
      obtain rfl := someE h0
      exact finD (.inr rfl) (v := .d (.tup [.nilsl, .int .i64 r3])) rfl rfl (dle_tup (.cons (.nil _) (.cons (.refl _) .nil)))
    · refine rk_skip ?_
      refine rk_seq ?_
      refine rk_region ?_
      refine ok_mv rfl rfl ?_
      refine ok_mv rfl rfl ?_
      refine ok_mv rfl rfl ?_
      obtain ⟨r5, h6, h0⟩ := bindE h0
      refine ok_pc [.d (.sl 2 (p0.map enc_api_Span)), .d (.sl 2 (p1.map enc_api_Span)), .d (.fn p2F p2C)] (span_join_ok p0 p1 p2 p2F p2C p2Ok r5 h6) rfl rfl rfl (.inl rfl) ?_
      refine ok_as rfl rfl ?_
      refine ok_nil ?_
      refine rk_seq ?_
      refine rk_seq ?_
      refine rk_region ?_
      refine ok_mv rfl rfl ?_
      refine ok_ln rfl rfl rfl rfl ?_
      refine ok_v (.d (.bool (decide ((r5.length : Int) > 400)))) rfl rfl ?_
      refine ok_nil ?_
      refine rk_condH rfl h0 (fun _ h0 => ?_) (fun _ h0 => ?_)
      · refine rk_seq ?_
        refine rk_region ?_
        refine ok_as rfl rfl ?_
        refine ok_as rfl rfl ?_
        refine ok_nil ?_
        refine rk_ret ?_
        obtain rfl := someE h0
        exact finD (.inr rfl) (v := .d (.tup [.nilsl, .int .i64 4])) rfl rfl (dle_tup (.cons (.nil _) (.cons (.refl _) .nil)))
      · refine rk_skip ?_
        refine rk_seq ?_
        refine rk_region ?_
        refine ok_mv rfl rfl ?_
        refine ok_as rfl rfl ?_
        refine ok_as rfl rfl ?_
        refine ok_nil ?_
        refine rk_ret ?_
        obtain rfl := someE h0
        exact finD (.inr rfl) (v := .d (.tup [.sl 2 (r5.map enc_api_Span), .int .i64 0])) rfl rfl (.refl _)

theorem span_Union_1_ok (p0 : Bool) (p1 : Bool) (r : Bool) (h0 : span_Union_1 p0 p1 = some r) : Pure Try.prog tab 38 [.bool p0, .bool p1] (.bool r) := by
  unfold span_Union_1 at h0
  refine pure_of_run Try.func38 rfl (by kernel_rfl) (by kernel_rfl) rfl ?_
  refine rk_seq ?_
  refine rk_region ?_
  refine ok_as rfl rfl ?_
  refine ok_nil ?_
  refine rk_seq ?_
  refine rk_region ?_
  refine ok_mv rfl rfl ?_
  obtain ⟨c1, h2, h0⟩ := bindE h0
  refine ok_cutQ 3 (fun A st => ∃ (j3 j4 : V), st = A [(8, .d (.bool c1)), (7, j4), (6, j3)]) ?_ ?_
  · refine ok_mvB rfl rfl h2 (fun h2 => ?_) (fun h2 => ?_)
    · refine ok_sg rfl ?_
      refine ok_v (.d (.bool true)) rfl rfl ?_
      refine ok_nil ?_
      obtain rfl := someE h2
      exact ⟨_, _, rfl⟩
    · refine ok_mv rfl rfl ?_
      refine ok_v (.d (.bool p1)) rfl rfl ?_
      refine ok_nil ?_
      obtain rfl := someE h2
      exact ⟨_, _, rfl⟩
  · rintro _ ⟨j3, j4, rfl⟩
    refine ok_as rfl rfl ?_
    refine ok_nil ?_
    refine rk_ret ?_
    obtain rfl := someE h0
    exact finD (.inr rfl) (v := .d (.bool c1)) rfl rfl (.refl _)

theorem span_Union_ok (p0 : List api_Span) (p1 : List api_Span) (r : List api_Span × Int) (h0 : span_Union p0 p1 = some r) : Pure Try.prog tab 18 [.sl 2 (p0.map enc_api_Span), .sl 2 (p1.map enc_api_Span)] (.tup [.sl 2 (r.1.map enc_api_Span), .int .i64 r.2]) := by
  unfold span_Union at h0
  refine pure_of_run Try.func18 rfl (by kernel_rfl) (by kernel_rfl) rfl ?_
  refine rk_seq ?_
  refine rk_region ?_
  refine ok_as rfl rfl ?_
  refine ok_as rfl rfl ?_
  refine ok_nil ?_
  refine rk_seq ?_
  refine rk_region ?_
  refine ok_mv rfl rfl ?_
  refine ok_mv rfl rfl ?_
  obtain ⟨r1, h2, h0⟩ := bindE h0
  refine ok_pc [.d (.sl 2 (p0.map enc_api_Span)), .d (.sl 2 (p1.map enc_api_Span)), .d (.fn 38 [])] (span_checked_ok p0 p1 (fun x0 x1 => span_Union_1 x0 x1) 38 [] (fun x0 x1 r hr => span_Union_1_ok x0 x1 r hr) r1 h2) rfl rfl rfl (.inl rfl) ?_
  refine ok_v (.d (.sl 2 (r1.1.map enc_api_Span))) rfl rfl ?_
  refine ok_v (.d (.int .i64 r1.2)) rfl rfl ?_
  refine ok_as rfl rfl ?_
  refine ok_as rfl rfl ?_
  refine ok_nil ?_
  refine rk_ret ?_
  obtain rfl := someE h0
  exact finD (.inr rfl) (v := .d (.tup [.sl 2 (r1.1.map enc_api_Span), .int .i64 r1.2])) rfl rfl (.refl _)

theorem l11_pair_ok (r : List api_Span) (h0 : l11_pair = some r) : Pure Try.prog tab 33 [] (.sl 2 (r.map enc_api_Span)) := by
  unfold l11_pair at h0
  refine pure_of_run Try.func33 rfl (by kernel_rfl) (by kernel_rfl) rfl ?_
  refine rk_seq ?_
  refine rk_region ?_
  refine ok_as rfl rfl ?_
  refine ok_nil ?_
  refine rk_seq ?_
  refine rk_region ?_
  refine ok_v (.d (.agg [.int .i64 0, .int .i64 2])) rfl rfl ?_
  refine ok_v (.d (.agg [.int .i64 4, .int .i64 7])) rfl rfl ?_
  refine ok_new (.hs 0 2 0 [({ Lo := 0, Hi := 2 } : api_Span), ({ Lo := 4, Hi := 7 } : api_Span)].length) (.dat 2 ([({ Lo := 0, Hi := 2 } : api_Span), ({ Lo := 4, Hi := 7 } : api_Span)].map enc_api_Span)) rfl rfl ?_
  refine ok_as rfl rfl ?_
  refine ok_nil ?_
  refine rk_ret ?_
  obtain rfl := someE h0
  exact finD (.inr rfl) (v := .hs 0 2 0 [({ Lo := 0, Hi := 2 } : api_Span), ({ Lo := 4, Hi := 7 } : api_Span)].length) rfl (td_hs rfl rfl) (.refl _)

theorem span_Move_ok (p0 : List api_Span) (p1 : Int) (r : List api_Span × Int) (h0 : span_Move p0 p1 = some r) : Pure Try.prog tab 13 [.sl 2 (p0.map enc_api_Span), .int .i64 p1] (.tup [.sl 2 (r.1.map enc_api_Span), .int .i64 r.2]) := by
  unfold span_Move at h0
  refine pure_of_run Try.func13 rfl (by kernel_rfl) (by kernel_rfl) rfl ?_
  refine rk_seq ?_
  refine rk_region ?_
  refine ok_as rfl rfl ?_
  refine ok_as rfl rfl ?_
  refine ok_nil ?_
  refine rk_seq ?_
  refine rk_seq ?_
  refine rk_region ?_
  refine ok_mv rfl rfl ?_
  obtain ⟨r1, h2, h0⟩ := bindE h0
  refine ok_pc [.d (.sl 2 (p0.map enc_api_Span))] (span_Check_ok p0 r1 h2) rfl rfl rfl (.inl rfl) ?_
  refine ok_as rfl rfl ?_
  refine ok_nil ?_
  refine rk_seq ?_
  refine rk_region ?_
  refine ok_mv rfl rfl ?_
  refine ok_v (.d (.bool (r1 != 0))) rfl rfl ?_
  refine ok_nil ?_
  refine rk_condH rfl h0 (fun _ h0 => ?_) (fun _ h0 => ?_)
  · refine rk_seq ?_
    refine rk_region ?_
    refine ok_mv rfl rfl ?_
    refine ok_as rfl rfl ?_
    refine ok_as rfl rfl ?_
    refine ok_nil ?_
    refine rk_ret ?_
    obtain rfl := someE h0
    exact finD (.inr rfl) (v := .d (.tup [.nilsl, .int .i64 r1])) rfl rfl (dle_tup (.cons (.nil _) (.cons (.refl _) .nil)))
  · refine rk_skip ?_
    refine rk_seq ?_
    refine rk_seq ?_
    refine rk_region ?_
    refine ok_mv rfl rfl ?_
    refine ok_ln rfl rfl rfl rfl ?_
    refine ok_v (.d (.bool (decide ((p0.length : Int) > 0)))) rfl rfl ?_
    obtain ⟨c8, h9, h0⟩ := bindE h0
    refine ok_cutQ 8 (fun A st => ∃ (j10 j11 j12 j13 j14 j15 j16 : V), st = A [(25, .d (.bool c8)), (24, j16), (23, j15), (22, j14), (21, j13), (20, j12), (19, j11), (18, j10)]) ?_ ?_
    · refine ok_mvB rfl rfl h9 (fun h9 => ?_) (fun h9 => ?_)
      · refine ok_mv rfl rfl ?_
        refine ok_v (.d (.bool (decide (p1 > 2000000)))) rfl rfl ?_
        obtain ⟨c17, h18, h9⟩ := bindE h9
        refine ok_cutQ 4 (fun A st => ∃ (j19 j20 j21 : V), st = A [(24, .d (.bool c17)), (23, j21), (22, j20), (21, j19)]) ?_ ?_
        · refine ok_mvB rfl rfl h18 (fun h18 => ?_) (fun h18 => ?_)
          · refine ok_sg rfl ?_
            refine ok_sg rfl ?_
            refine ok_v (.d (.bool true)) rfl rfl ?_
            refine ok_nil ?_
            obtain rfl := someE h18
            exact ⟨_, _, _, rfl⟩
          · refine ok_mv rfl rfl ?_
            refine ok_v (.d (.bool (decide (p1 < (-2000000))))) rfl rfl ?_
            refine ok_v (.d (.bool (decide (p1 < (-2000000))))) rfl rfl ?_
            refine ok_nil ?_
            obtain rfl := someE h18
            exact ⟨_, _, _, rfl⟩
        · rintro _ ⟨j19, j20, j21, rfl⟩
          refine ok_v (.d (.bool c17)) rfl rfl ?_
          refine ok_nil ?_
          obtain rfl := someE h9
          exact ⟨_, _, _, _, _, _, _, rfl⟩
      · refine ok_sg rfl ?_
        refine ok_sg rfl ?_
        refine ok_sg rfl ?_
        refine ok_sg rfl ?_
        refine ok_sg rfl ?_
        refine ok_sg rfl ?_
        refine ok_v (.d (.bool false)) rfl rfl ?_
        refine ok_nil ?_
        obtain rfl := someE h9
        exact ⟨_, _, _, _, _, _, _, rfl⟩
    · rintro _ ⟨j10, j11, j12, j13, j14, j15, j16, rfl⟩
      refine ok_nil ?_
      refine rk_condH rfl h0 (fun _ h0 => ?_) (fun _ h0 => ?_)
      · refine rk_seq ?_
        refine rk_region ?_
        refine ok_as rfl rfl ?_
        refine ok_as rfl rfl ?_
        refine ok_nil ?_
        refine rk_ret ?_
        obtain rfl := someE h0
        exact finD (.inr rfl) (v := .d (.tup [.nilsl, .int .i64 16])) rfl rfl (dle_tup (.cons (.nil _) (.cons (.refl _) .nil)))
      · refine rk_skip ?_
        refine rk_seq ?_
        refine rk_region ?_
        refine ok_as rfl rfl ?_
        refine ok_nil ?_
        refine rk_seq ?_
        refine rk_seq ?_
        refine rk_region ?_
        refine ok_mv rfl rfl ?_
        refine ok_ln rfl rfl rfl rfl ?_
        refine ok_mv rfl rfl ?_
        refine ok_nil ?_
        obtain ⟨m49, h50, h0⟩ := bindE h0
        refine rk_blockcut (fun b51 => .inl b51 = m49) (fun (b51 : List api_Span) => ⟨[(7, .hs 0 2 0 b51.length)], [(0, .dat 2 (b51.map enc_api_Span))], 1⟩) (by simp) ?_ ?_
        · refine rk_loopF (span_Move_L1 p0 p1) (fun (a48 : Int × List api_Span) => ⟨[(1, .d (.int .i64 p1)), (7, .hs 0 2 0 a48.2.length), (26, .d (.sl 2 (p0.map enc_api_Span))), (27, .d (.int .i64 (p0.length : Int))), (28, .d (.int .i64 a48.1))], [(0, .dat 2 (a48.2.map enc_api_Span))], 1⟩) (0, []) m49 h50 (wkE [] [] [0] rfl ⟨⟨_, rfl, .d (.refl _)⟩, ⟨_, rfl, .nil (by decide) (ltd rfl)⟩, ⟨_, rfl, .d (.refl _)⟩, ⟨_, rfl, .d (.refl _)⟩, ⟨_, rfl, .d (.refl _)⟩, trivial⟩ ⟨⟨ltd rfl, .inl ⟨by decide, _, by decide, rfl⟩⟩, trivial⟩) ?_
          intro a48 y46 h47
          unfold span_Move_L1 at h47
          refine rk_seq ?_
          refine rk_region ?_
          refine ok_v (.d (.bool (decide (a48.1 < (p0.length : Int))))) rfl rfl ?_
          refine ok_nil ?_
          refine rk_seq ?_
          refine rk_condH rfl h47 (fun _ h47 => ?_) (fun _ h47 => ?_)
          · refine rk_skip ?_
            refine rk_seq ?_
            refine rk_block ?_
            refine rk_seq ?_
            refine rk_region ?_
            obtain ⟨v58, h59, h47⟩ := bindE h47
            refine ok_ix (enc := enc_api_Span) h59 rfl rfl rfl rfl rfl rfl ?_
            refine ok_v (.d (.agg [.int .i64 v58.Lo, .int .i64 v58.Hi])) rfl rfl ?_
            refine ok_alloc rfl rfl ?_
            refine ok_sto 1 (.dat 2 [[.int .i64 v58.Lo, .int .i64 v58.Hi]]) rfl rfl ?_
            refine ok_nil ?_
            refine rk_seq ?_
            refine rk_region ?_
            refine ok_v (.ref 1 2 0 0) rfl rfl ?_
            refine ok_v (.d (.int .i64 v58.Lo)) rfl rfl ?_
            refine ok_mv rfl rfl ?_
            refine ok_v (.d (.int .i64 (w64 (v58.Lo + p1)))) rfl rfl ?_
            refine ok_v (.ref 1 2 0 0) rfl rfl ?_
            refine ok_sto 1 (.dat 2 [[.int .i64 (w64 (v58.Lo + p1)), .int .i64 v58.Hi]]) rfl rfl ?_
            refine ok_nil ?_
            refine rk_seq ?_
            refine rk_region ?_
            refine ok_v (.ref 1 2 0 1) rfl rfl ?_
            refine ok_v (.d (.int .i64 v58.Hi)) rfl rfl ?_
            refine ok_mv rfl rfl ?_
            refine ok_v (.d (.int .i64 (w64 (v58.Hi + p1)))) rfl rfl ?_
            refine ok_v (.ref 1 2 0 1) rfl rfl ?_
            refine ok_sto 1 (.dat 2 [[.int .i64 (w64 (v58.Lo + p1)), .int .i64 (w64 (v58.Hi + p1))]]) rfl rfl ?_
            refine ok_nil ?_
            refine rk_seq ?_
            refine rk_seq ?_
            refine rk_region ?_
            refine ok_v (.d (.agg [.int .i64 (w64 (v58.Lo + p1)), .int .i64 (w64 (v58.Hi + p1))])) rfl rfl ?_
            obtain ⟨r60, h61, h47⟩ := bindE h47
            refine ok_pc [.d (.agg [.int .i64 (w64 (v58.Lo + p1)), .int .i64 (w64 (v58.Hi + p1))])] (span_valid_ok ({ Lo := w64 (v58.Lo + p1), Hi := w64 (v58.Hi + p1) } : api_Span) r60 h61) rfl rfl rfl (.inl rfl) ?_
            refine ok_v (.d (.bool (!r60))) rfl rfl ?_
            refine ok_nil ?_
            refine rk_condH rfl h47 (fun _ h47 => ?_) (fun _ h47 => ?_)
            · refine rk_seq ?_
              refine rk_region ?_
              refine ok_as rfl rfl ?_
              refine ok_as rfl rfl ?_
              refine ok_nil ?_
              refine rk_ret ?_
              refine ⟨_, (Option.some.inj h47).symm, fun hm => ?_⟩
              subst hm
              obtain rfl := someE h0
              exact finD (.inr rfl) (v := .d (.tup [.nilsl, .int .i64 16])) rfl rfl (dle_tup (.cons (.nil _) (.cons (.refl _) .nil)))
            · refine rk_skip ?_
              refine rk_region ?_
              refine ok_mv rfl rfl ?_
              refine ok_v (.d (.agg [.int .i64 (w64 (v58.Lo + p1)), .int .i64 (w64 (v58.Hi + p1))])) rfl rfl ?_
              refine ok_new (.hs 2 2 0 [({ Lo := w64 (v58.Lo + p1), Hi := w64 (v58.Hi + p1) } : api_Span)].length) (.dat 2 ([({ Lo := w64 (v58.Lo + p1), Hi := w64 (v58.Hi + p1) } : api_Span)].map enc_api_Span)) rfl rfl ?_
              obtain ⟨z62, h63, h47⟩ := bindE h47
              refine ok_ap (xs := a48.2) (ys := [({ Lo := w64 (v58.Lo + p1), Hi := w64 (v58.Hi + p1) } : api_Span)]) (enc := enc_api_Span) (.hs 2 2 0 [({ Lo := w64 (v58.Lo + p1), Hi := w64 (v58.Hi + p1) } : api_Span)].length) h63 rfl rfl rfl rfl rfl rfl rfl (conts_hs rfl rfl) rfl rfl rfl rfl ?_
              refine ok_as rfl rfl ?_
              refine ok_nil ?_
              refine rk_nil ?_
              refine blk_nor ?_
              refine rk_region ?_
              refine ok_v (.d (.int .i64 (w64 (a48.1 + 1)))) rfl rfl ?_
              refine ok_mv rfl rfl ?_
              refine ok_nil ?_
              refine rk_nil ?_
              exact ⟨_, (Option.some.inj h47).symm, wkE [(0, 3)] [] [] rfl ⟨⟨_, rfl, .d (.refl _)⟩, ⟨_, rfl, .hs rfl (by decide) (ltd rfl)⟩, ⟨_, rfl, .d (.refl _)⟩, ⟨_, rfl, .d (.refl _)⟩, ⟨_, rfl, .d (.refl _)⟩, trivial⟩ ⟨⟨ltd rfl, .inr ⟨by decide, _, rfl, .dat _ _⟩⟩, trivial⟩⟩
          · refine rk_exit ?_
            refine ⟨_, (Option.some.inj h47).symm, fun hm => ?_⟩
            subst hm
            exact ⟨_, rfl, wkE [(0, 0)] [] [] rfl ⟨⟨_, rfl, .hs rfl (by decide) (ltd rfl)⟩, trivial⟩ ⟨⟨ltd rfl, .inr ⟨by decide, _, rfl, .dat _ _⟩⟩, trivial⟩⟩
        · intro b51 hb
          subst hb
          refine rk_seq ?_
          refine rk_region ?_
          refine ok_mv rfl rfl ?_
          refine ok_as rfl rfl ?_
          refine ok_as rfl rfl ?_
          refine ok_nil ?_
          refine rk_ret ?_
          obtain rfl := someE h0
          exact finD (.inr rfl) (v := .tup [.hs 0 2 0 b51.length, .d (.int .i64 0)]) rfl (td_tup (mm_cons (td_hs rfl rfl) (mm_cons rfl rfl))) (.refl _)

theorem span_Near_ok (p0 : List api_Span) (p1 : Int) (r : Int × Int) (h0 : span_Near p0 p1 = some r) : Pure Try.prog tab 15 [.sl 2 (p0.map enc_api_Span), .int .i64 p1] (.tup [.int .i64 r.1, .int .i64 r.2]) := by
  unfold span_Near at h0
  refine pure_of_run Try.func15 rfl (by kernel_rfl) (by kernel_rfl) rfl ?_
  refine rk_seq ?_
  refine rk_region ?_
  refine ok_as rfl rfl ?_
  refine ok_as rfl rfl ?_
  refine ok_nil ?_
  refine rk_seq ?_
  refine rk_seq ?_
  refine rk_region ?_
  refine ok_mv rfl rfl ?_
  obtain ⟨r1, h2, h0⟩ := bindE h0
  refine ok_pc [.d (.sl 2 (p0.map enc_api_Span))] (span_Check_ok p0 r1 h2) rfl rfl rfl (.inl rfl) ?_
  refine ok_as rfl rfl ?_
  refine ok_nil ?_
  refine rk_seq ?_
  refine rk_region ?_
  refine ok_mv rfl rfl ?_
  refine ok_v (.d (.bool (r1 != 0))) rfl rfl ?_
  refine ok_nil ?_
  refine rk_condH rfl h0 (fun _ h0 => ?_) (fun _ h0 => ?_)
  · refine rk_seq ?_
    refine rk_region ?_
    refine ok_mv rfl rfl ?_
    refine ok_as rfl rfl ?_
    refine ok_as rfl rfl ?_
    refine ok_nil ?_
    refine rk_ret ?_
    obtain rfl := someE h0
    exact finD (.inr rfl) (v := .d (.tup [.int .i64 0, .int .i64 r1])) rfl rfl (.refl _)
  · refine rk_skip ?_
    refine rk_seq ?_
    refine rk_seq ?_
    refine rk_region ?_
    refine ok_mv rfl rfl ?_
    refine ok_v (.d (.bool (decide (p1 < (-1000000))))) rfl rfl ?_
    obtain ⟨c3, h4, h0⟩ := bindE h0
    refine ok_cutQ 4 (fun A st => ∃ (j5 j6 j7 : V), st = A [(21, .d (.bool c3)), (20, j7), (19, j6), (18, j5)]) ?_ ?_
    · refine ok_mvB rfl rfl h4 (fun h4 => ?_) (fun h4 => ?_)
      · refine ok_sg rfl ?_
        refine ok_sg rfl ?_
        refine ok_v (.d (.bool true)) rfl rfl ?_
        refine ok_nil ?_
        obtain rfl := someE h4
        exact ⟨_, _, _, rfl⟩
      · refine ok_mv rfl rfl ?_
        refine ok_v (.d (.bool (decide (p1 > 1000000)))) rfl rfl ?_
        refine ok_v (.d (.bool (decide (p1 > 1000000)))) rfl rfl ?_
        refine ok_nil ?_
        obtain rfl := someE h4
        exact ⟨_, _, _, rfl⟩
    · rintro _ ⟨j5, j6, j7, rfl⟩
      refine ok_nil ?_
      refine rk_condH rfl h0 (fun _ h0 => ?_) (fun _ h0 => ?_)
      · refine rk_seq ?_
        refine rk_region ?_
        refine ok_as rfl rfl ?_
        refine ok_as rfl rfl ?_
        refine ok_nil ?_
        refine rk_ret ?_
        obtain rfl := someE h0
        exact finD (.inr rfl) (v := .d (.tup [.int .i64 0, .int .i64 2])) rfl rfl (.refl _)
      · refine rk_skip ?_
        refine rk_seq ?_
        refine rk_region ?_
        refine ok_as rfl rfl ?_
        refine ok_nil ?_
        refine rk_seq ?_
        refine rk_seq ?_
        refine rk_region ?_
        refine ok_mv rfl rfl ?_
        refine ok_ln rfl rfl rfl rfl ?_
        refine ok_mv rfl rfl ?_
        refine ok_nil ?_
        obtain ⟨m30, h31, h0⟩ := bindE h0
        refine rk_blockcut (fun b32 => b32 = m30) (fun (b32 : Int) => ⟨[(7, .d (.int .i64 b32))], [], 0⟩) (by simp) ?_ ?_
        · refine rk_loopF (span_Near_L1 p0 p1) (fun (a29 : Int × Int) => ⟨[(1, .d (.int .i64 p1)), (7, .d (.int .i64 a29.1)), (22, .d (.sl 2 (p0.map enc_api_Span))), (23, .d (.int .i64 (p0.length : Int))), (24, .d (.int .i64 a29.2))], [], 0⟩) ((-1), 0) m30 h31 (wkE [] [] [] rfl ⟨⟨_, rfl, .d (.refl _)⟩, ⟨_, rfl, .d (.refl _)⟩, ⟨_, rfl, .d (.refl _)⟩, ⟨_, rfl, .d (.refl _)⟩, ⟨_, rfl, .d (.refl _)⟩, trivial⟩ trivial) ?_
          intro a29 y27 h28
          unfold span_Near_L1 at h28
          refine rk_seq ?_
          refine rk_region ?_
          refine ok_v (.d (.bool (decide (a29.2 < (p0.length : Int))))) rfl rfl ?_
          refine ok_nil ?_
          refine rk_seq ?_
          refine rk_condH rfl h28 (fun _ h28 => ?_) (fun _ h28 => ?_)
          · refine rk_skip ?_
            refine rk_seq ?_
            obtain ⟨m42, h41, h28⟩ := bindE h28
            refine rk_blockcut (fun b43 => b43 = m42) (fun (b43 : Int) => ⟨[(1, .d (.int .i64 p1)), (7, .d (.int .i64 b43)), (22, .d (.sl 2 (p0.map enc_api_Span))), (23, .d (.int .i64 (p0.length : Int))), (24, .d (.int .i64 a29.2))], [], 0⟩) (by simp) ?_ ?_
            · refine rk_seq ?_
              refine rk_region ?_
              obtain ⟨v44, h45, h41⟩ := bindE h41
              refine ok_ix (enc := enc_api_Span) h45 rfl rfl rfl rfl rfl rfl ?_
              refine ok_v (.d (.agg [.int .i64 v44.Lo, .int .i64 v44.Hi])) rfl rfl ?_
              refine ok_alloc rfl rfl ?_
              refine ok_sto 0 (.dat 2 [[.int .i64 v44.Lo, .int .i64 v44.Hi]]) rfl rfl ?_
              refine ok_nil ?_
              refine rk_seq ?_
              refine rk_region ?_
              refine ok_v (.ref 0 2 0 0) rfl rfl ?_
              refine ok_v (.d (.int .i64 v44.Lo)) rfl rfl ?_
              refine ok_mv rfl rfl ?_
              refine ok_v (.d (.int .i64 (w64 (v44.Lo - p1)))) rfl rfl ?_
              refine ok_mv rfl rfl ?_
              refine ok_v (.ref 0 2 0 1) rfl rfl ?_
              refine ok_v (.d (.int .i64 v44.Hi)) rfl rfl ?_
              refine ok_v (.d (.int .i64 (w64 (p1 - v44.Hi)))) rfl rfl ?_
              refine ok_v (.d (.int .i64 (w64 ((w64 (p1 - v44.Hi)) + 1)))) rfl rfl ?_
              refine ok_max (r := max (max (w64 (v44.Lo - p1)) (w64 ((w64 (p1 - v44.Hi)) + 1))) 0) rfl rfl (by simp only [minI_max]; rfl) ?_
              refine ok_as rfl rfl ?_
              refine ok_nil ?_
              refine rk_seq ?_
              refine rk_region ?_
              refine ok_mv rfl rfl ?_
              refine ok_v (.d (.bool (decide (a29.1 < 0)))) rfl rfl ?_
              obtain ⟨c46, h47, h41⟩ := bindE h41
              refine ok_cutQ 5 (fun A st => ∃ (j48 j49 j50 j51 : V), st = A [(44, .d (.bool c46)), (43, j51), (42, j50), (41, j49), (40, j48)]) ?_ ?_
              · refine ok_mvB rfl rfl h47 (fun h47 => ?_) (fun h47 => ?_)
                · refine ok_sg rfl ?_
                  refine ok_sg rfl ?_
                  refine ok_sg rfl ?_
                  refine ok_v (.d (.bool true)) rfl rfl ?_
                  refine ok_nil ?_
                  obtain rfl := someE h47
                  exact ⟨_, _, _, _, rfl⟩
                · refine ok_mv rfl rfl ?_
                  refine ok_mv rfl rfl ?_
                  refine ok_v (.d (.bool (decide ((max (max (w64 (v44.Lo - p1)) (w64 ((w64 (p1 - v44.Hi)) + 1))) 0) < a29.1)))) rfl rfl ?_
                  refine ok_v (.d (.bool (decide ((max (max (w64 (v44.Lo - p1)) (w64 ((w64 (p1 - v44.Hi)) + 1))) 0) < a29.1)))) rfl rfl ?_
                  refine ok_nil ?_
                  obtain rfl := someE h47
                  exact ⟨_, _, _, _, rfl⟩
              · rintro _ ⟨j48, j49, j50, j51, rfl⟩
                refine ok_nil ?_
                refine rk_condH rfl h41 (fun _ h41 => ?_) (fun _ h41 => ?_)
                · refine rk_region ?_
                  refine ok_mv rfl rfl ?_
                  refine ok_as rfl rfl ?_
                  refine ok_nil ?_
                  refine rk_nil ?_
                  obtain rfl := someE h41
                  exact ⟨_, rfl, wkE [] [] [] rfl ⟨⟨_, rfl, .d (.refl _)⟩, ⟨_, rfl, .d (.refl _)⟩, ⟨_, rfl, .d (.refl _)⟩, ⟨_, rfl, .d (.refl _)⟩, ⟨_, rfl, .d (.refl _)⟩, trivial⟩ trivial⟩
                · refine rk_skip ?_
                  refine rk_nil ?_
                  obtain rfl := someE h41
                  exact ⟨_, rfl, wkE [] [] [] rfl ⟨⟨_, rfl, .d (.refl _)⟩, ⟨_, rfl, .d (.refl _)⟩, ⟨_, rfl, .d (.refl _)⟩, ⟨_, rfl, .d (.refl _)⟩, ⟨_, rfl, .d (.refl _)⟩, trivial⟩ trivial⟩
            · intro b43 hb
              subst hb
              refine rk_region ?_
              refine ok_v (.d (.int .i64 (w64 (a29.2 + 1)))) rfl rfl ?_
              refine ok_mv rfl rfl ?_
              refine ok_nil ?_
              refine rk_nil ?_
              exact ⟨_, (Option.some.inj h28).symm, wkE [] [] [] rfl ⟨⟨_, rfl, .d (.refl _)⟩, ⟨_, rfl, .d (.refl _)⟩, ⟨_, rfl, .d (.refl _)⟩, ⟨_, rfl, .d (.refl _)⟩, ⟨_, rfl, .d (.refl _)⟩, trivial⟩ trivial⟩
          · refine rk_exit ?_
            refine ⟨_, (Option.some.inj h28).symm, fun hm => ?_⟩
            subst hm
            exact ⟨_, rfl, wkE [] [] [] rfl ⟨⟨_, rfl, .d (.refl _)⟩, trivial⟩ trivial⟩
        · intro b32 hb
          subst hb
          refine rk_seq ?_
          refine rk_seq ?_
          refine rk_region ?_
          refine ok_mv rfl rfl ?_
          refine ok_v (.d (.bool (decide (b32 < 0)))) rfl rfl ?_
          refine ok_nil ?_
          refine rk_condH rfl h0 (fun _ h0 => ?_) (fun _ h0 => ?_)
          · refine rk_seq ?_
            refine rk_region ?_
            refine ok_as rfl rfl ?_
            refine ok_as rfl rfl ?_
            refine ok_nil ?_
            refine rk_ret ?_
            obtain rfl := someE h0
            exact finD (.inr rfl) (v := .d (.tup [.int .i64 0, .int .i64 6])) rfl rfl (.refl _)
          · refine rk_skip ?_
            refine rk_seq ?_
            refine rk_region ?_
            refine ok_mv rfl rfl ?_
            refine ok_as rfl rfl ?_
            refine ok_as rfl rfl ?_
            refine ok_nil ?_
            refine rk_ret ?_
            obtain rfl := someE h0
            exact finD (.inr rfl) (v := .d (.tup [.int .i64 b32, .int .i64 0])) rfl rfl (.refl _)

end Go.Proofs.Ytcpogfjlehoabaa
