/- THE WALKS, lifted by program. -/
import Derived.Test.YtcpogfjlehoabaaPspan
import Derived.Test.YtcpogfjlehoabaaTabspan
namespace Go.Proofs.Ytcpogfjlehoabaa
open Go Go.Am Go.Sh
theorem span_valid_ok (p0 : api_Span) (r : Bool) (h0 : span_valid p0 = some r) : Pure Try.prog tab 35 [.agg [.int .i64 p0.Lo, .int .i64 p0.Hi]] (.bool r) := by
  unfold span_valid at h0
  refine pure_of_run Try.func35 rfl (by kernel_rfl) (by kernel_rfl) rfl ?_
  refine rk_seq ?_
  refine rk_region ?_
  refine ok_new (.ref 0 2 0 0) (.dat 2 [[.int .i64 p0.Lo, .int .i64 p0.Hi]]) rfl rfl ?_
  refine ok_as rfl rfl ?_
  refine ok_nil ?_
  refine rk_seq ?_
  refine rk_region ?_
  refine ok_v (.ref 0 2 0 0) rfl rfl ?_
  refine ok_v (.d (.int .i64 p0.Lo)) rfl rfl ?_
  refine ok_v (.ref 0 2 0 1) rfl rfl ?_
  refine ok_v (.d (.int .i64 p0.Hi)) rfl rfl ?_
  refine ok_v (.d (.bool (decide (p0.Lo < p0.Hi)))) rfl rfl ?_
  obtain ⟨c1, h2, h0⟩ := bindE h0
  refine ok_cutQ 5 (fun A st => ∃ (j3 j4 j5 j6 : V), st = A [(12, .d (.bool c1)), (11, j6), (10, j5), (9, j4), (8, j3)]) ?_ ?_
  · refine ok_mvB rfl rfl h2 (fun h2 => ?_) (fun h2 => ?_)
    · refine ok_v (.ref 0 2 0 0) rfl rfl ?_
      refine ok_v (.d (.int .i64 p0.Lo)) rfl rfl ?_
      refine ok_v (.d (.bool (decide (p0.Lo ≥ (-1000000))))) rfl rfl ?_
      refine ok_v (.d (.bool (decide (p0.Lo ≥ (-1000000))))) rfl rfl ?_
      refine ok_nil ?_
      obtain rfl := someE h2
      exact ⟨_, _, _, _, rfl⟩
    · refine ok_sg rfl ?_
      refine ok_sg rfl ?_
      refine ok_sg rfl ?_
      refine ok_v (.d (.bool false)) rfl rfl ?_
      refine ok_nil ?_
      obtain rfl := someE h2
      exact ⟨_, _, _, _, rfl⟩
  · rintro _ ⟨j3, j4, j5, j6, rfl⟩
    obtain ⟨c7, h8, h0⟩ := bindE h0
    refine ok_cutQ 5 (fun A st => ∃ (j9 j10 j11 j12 : V), st = A [(17, .d (.bool c7)), (16, j12), (15, j11), (14, j10), (13, j9)]) ?_ ?_
    · refine ok_mvB rfl rfl h8 (fun h8 => ?_) (fun h8 => ?_)
      · refine ok_v (.ref 0 2 0 1) rfl rfl ?_
        refine ok_v (.d (.int .i64 p0.Hi)) rfl rfl ?_
        refine ok_v (.d (.bool (decide (p0.Hi ≤ 1000000)))) rfl rfl ?_
        refine ok_v (.d (.bool (decide (p0.Hi ≤ 1000000)))) rfl rfl ?_
        refine ok_nil ?_
        obtain rfl := someE h8
        exact ⟨_, _, _, _, rfl⟩
      · refine ok_sg rfl ?_
        refine ok_sg rfl ?_
        refine ok_sg rfl ?_
        refine ok_v (.d (.bool false)) rfl rfl ?_
        refine ok_nil ?_
        obtain rfl := someE h8
        exact ⟨_, _, _, _, rfl⟩
    · rintro _ ⟨j9, j10, j11, j12, rfl⟩
      refine ok_as rfl rfl ?_
      refine ok_nil ?_
      refine rk_ret ?_
      obtain rfl := someE h0
      exact finD (.inr rfl) (v := .d (.bool c7)) rfl rfl (.refl _)

theorem span_Check_ok (p0 : List api_Span) (r : Int) (h0 : span_Check p0 = some r) : Pure Try.prog tab 27 [.sl 2 (p0.map enc_api_Span)] (.int .i64 r) := by
  unfold span_Check at h0
  refine pure_of_run Try.func27 rfl (by kernel_rfl) (by kernel_rfl) rfl ?_
  refine rk_seq ?_
  refine rk_region ?_
  refine ok_as rfl rfl ?_
  refine ok_nil ?_
  refine rk_seq ?_
  refine rk_seq ?_
  refine rk_region ?_
  refine ok_mv rfl rfl ?_
  refine ok_ln rfl rfl rfl rfl ?_
  refine ok_v (.d (.bool (decide ((p0.length : Int) > 400)))) rfl rfl ?_
  refine ok_nil ?_
  refine rk_condH rfl h0 (fun _ h0 => ?_) (fun _ h0 => ?_)
  · refine rk_seq ?_
    refine rk_region ?_
    refine ok_as rfl rfl ?_
    refine ok_nil ?_
    refine rk_ret ?_
    obtain rfl := someE h0
    exact finD (.inr rfl) (v := .d (.int .i64 4)) rfl rfl (.refl _)
  · refine rk_skip ?_
    refine rk_seq ?_
    refine rk_seq ?_
    refine rk_region ?_
    refine ok_mv rfl rfl ?_
    refine ok_ln rfl rfl rfl rfl ?_
    refine ok_mv rfl rfl ?_
    refine ok_nil ?_
    obtain ⟨m212, h213, h0⟩ := bindE h0
    refine rk_blockcut (fun b214 => .inl b214 = m212) (fun (b214 : Unit) => ⟨[], [], 0⟩) (by simp) ?_ ?_
    · refine rk_loopF (span_Check_L1 p0) (fun (a211 : Int) => ⟨[(0, .d (.sl 2 (p0.map enc_api_Span))), (8, .d (.sl 2 (p0.map enc_api_Span))), (9, .d (.int .i64 (p0.length : Int))), (10, .d (.int .i64 a211))], [], 0⟩) 0 m212 h213 (wkE [] [] [] rfl ⟨⟨_, rfl, .d (.refl _)⟩, ⟨_, rfl, .d (.refl _)⟩, ⟨_, rfl, .d (.refl _)⟩, ⟨_, rfl, .d (.refl _)⟩, trivial⟩ trivial) ?_
      intro a211 y209 h210
      unfold span_Check_L1 at h210
      refine rk_seq ?_
      refine rk_region ?_
      refine ok_v (.d (.bool (decide (a211 < (p0.length : Int))))) rfl rfl ?_
      refine ok_nil ?_
      refine rk_seq ?_
      refine rk_condH rfl h210 (fun _ h210 => ?_) (fun _ h210 => ?_)
      · refine rk_skip ?_
        refine rk_seq ?_
        refine rk_block ?_
        refine rk_seq ?_
        refine rk_region ?_
        refine ok_mv rfl rfl ?_
        obtain ⟨v267, h268, h210⟩ := bindE h210
        refine ok_ix (enc := enc_api_Span) h268 rfl rfl rfl rfl rfl rfl ?_
        refine ok_v (.d (.agg [.int .i64 v267.Lo, .int .i64 v267.Hi])) rfl rfl ?_
        refine ok_alloc rfl rfl ?_
        refine ok_as rfl rfl ?_
        refine ok_sto 0 (.dat 2 [[.int .i64 v267.Lo, .int .i64 v267.Hi]]) rfl rfl ?_
        refine ok_nil ?_
        refine rk_seq ?_
        refine rk_regionD (by kernel_rfl) ?_
        refine ok_v (.d (.agg [.int .i64 v267.Lo, .int .i64 v267.Hi])) rfl rfl ?_
        obtain ⟨r269, h270, h210⟩ := bindE h210
        refine ok_pc [.d (.agg [.int .i64 v267.Lo, .int .i64 v267.Hi])] (span_valid_ok v267 r269 h270) rfl rfl rfl (.inl rfl) ?_
        refine ok_v (.d (.bool (!r269))) rfl rfl ?_
        obtain ⟨c287, h288, h210⟩ := bindE h210
        refine ok_cutQ 15 (fun A st => ∃ (j289 j290 j291 j292 j293 j294 j295 j296 j297 j298 j299 j300 j301 j302 : V), st = A [(32, .d (.bool c287)), (31, j302), (30, j301), (29, j300), (28, j299), (27, j298), (26, j297), (25, j296), (24, j295), (23, j294), (22, j293), (21, j292), (20, j291), (19, j290), (18, j289)]) ?_ ?_
        · refine ok_mvB rfl rfl h288 (fun h288 => ?_) (fun h288 => ?_)
          · refine ok_sg rfl ?_
            refine ok_sg rfl ?_
            refine ok_sg rfl ?_
            refine ok_sg rfl ?_
            refine ok_sg rfl ?_
            refine ok_sg rfl ?_
            refine ok_sg rfl ?_
            refine ok_sg rfl ?_
            refine ok_sg rfl ?_
            refine ok_sg rfl ?_
            refine ok_sg rfl ?_
            refine ok_sg rfl ?_
            refine ok_sg rfl ?_
            refine ok_v (.d (.bool true)) rfl rfl ?_
            refine ok_nil ?_
            obtain rfl := someE h288
            exact ⟨_, _, _, _, _, _, _, _, _, _, _, _, _, _, rfl⟩
          · refine ok_mv rfl rfl ?_
            refine ok_v (.d (.bool (decide (a211 > 0)))) rfl rfl ?_
            obtain ⟨c305, h306, h288⟩ := bindE h288
            refine ok_cutQ 11 (fun A st => ∃ (j307 j308 j309 j310 j311 j312 j313 j314 j315 j316 : V), st = A [(31, .d (.bool c305)), (30, j316), (29, j315), (28, j314), (27, j313), (26, j312), (25, j311), (24, j310), (23, j309), (22, j308), (21, j307)]) ?_ ?_
            · refine ok_mvB rfl rfl h306 (fun h306 => ?_) (fun h306 => ?_)
              · refine ok_mv rfl rfl ?_
                refine ok_mv rfl rfl ?_
                refine ok_v (.d (.int .i64 (w64 (a211 - 1)))) rfl rfl ?_
                obtain ⟨v317, h318, h306⟩ := bindE h306
                refine ok_ix (enc := enc_api_Span) h318 rfl rfl rfl rfl rfl rfl ?_
                refine ok_v (.dref [.int .i64 v317.Lo, .int .i64 v317.Hi] 1) rfl rfl ?_
                refine ok_v (.d (.int .i64 v317.Hi)) rfl rfl ?_
                refine ok_v (.ref 0 2 0 0) rfl rfl ?_
                refine ok_v (.d (.int .i64 v267.Lo)) rfl rfl ?_
                refine ok_v (.d (.bool (decide (v317.Hi ≥ v267.Lo)))) rfl rfl ?_
                refine ok_v (.d (.bool (decide (v317.Hi ≥ v267.Lo)))) rfl rfl ?_
                refine ok_nil ?_
                obtain rfl := someE h306
                exact ⟨_, _, _, _, _, _, _, _, _, _, rfl⟩
              · refine ok_sg rfl ?_
                refine ok_sg rfl ?_
                refine ok_sg rfl ?_
                refine ok_sg rfl ?_
                refine ok_sg rfl ?_
                refine ok_sg rfl ?_
                refine ok_sg rfl ?_
                refine ok_sg rfl ?_
                refine ok_sg rfl ?_
                refine ok_v (.d (.bool false)) rfl rfl ?_
                refine ok_nil ?_
                obtain rfl := someE h306
                exact ⟨_, _, _, _, _, _, _, _, _, _, rfl⟩
            · rintro _ ⟨j307, j308, j309, j310, j311, j312, j313, j314, j315, j316, rfl⟩
              refine ok_v (.d (.bool c305)) rfl rfl ?_
              refine ok_nil ?_
              obtain rfl := someE h288
              exact ⟨_, _, _, _, _, _, _, _, _, _, _, _, _, _, rfl⟩
        · rintro _ ⟨j289, j290, j291, j292, j293, j294, j295, j296, j297, j298, j299, j300, j301, j302, rfl⟩
          refine ok_nil ?_
          refine rk_condH rfl h210 (fun _ h210 => ?_) (fun _ h210 => ?_)
          · refine rk_seq ?_
            refine rk_region ?_
            refine ok_as rfl rfl ?_
            refine ok_nil ?_
            refine rk_ret ?_
            refine ⟨_, (Option.some.inj h210).symm, fun hm => ?_⟩
            subst hm
            obtain rfl := someE h0
            exact finD (.inr rfl) (v := .d (.int .i64 8)) rfl rfl (.refl _)
          · refine rk_skip ?_
            refine rk_nil ?_
            refine blk_nor ?_
            refine rk_region ?_
            refine ok_v (.d (.int .i64 (w64 (a211 + 1)))) rfl rfl ?_
            refine ok_mv rfl rfl ?_
            refine ok_nil ?_
            refine rk_nil ?_
            exact ⟨_, (Option.some.inj h210).symm, wkE [] [] [] rfl ⟨⟨_, rfl, .d (.refl _)⟩, ⟨_, rfl, .d (.refl _)⟩, ⟨_, rfl, .d (.refl _)⟩, ⟨_, rfl, .d (.refl _)⟩, trivial⟩ trivial⟩
      · refine rk_exit ?_
        refine ⟨_, (Option.some.inj h210).symm, fun hm => ?_⟩
        subst hm
        exact ⟨_, rfl, wkE [] [] [] rfl trivial trivial⟩
    · intro b214 hb
      subst hb
      refine rk_seq ?_
      refine rk_region ?_
      refine ok_as rfl rfl ?_
      refine ok_nil ?_
      refine rk_ret ?_
      obtain rfl := someE h0
      exact finD (.inr rfl) (v := .d (.int .i64 0)) rfl rfl (.refl _)

theorem span_Gaps_ok (p0 : List api_Span) (r : List api_Span × Int) (h0 : span_Gaps p0 = some r) : Pure Try.prog tab 11 [.sl 2 (p0.map enc_api_Span)] (.tup [.sl 2 (r.1.map enc_api_Span), .int .i64 r.2]) := by
  unfold span_Gaps at h0
  refine pure_of_run Try.func11 rfl (by kernel_rfl) (by kernel_rfl) rfl ?_
  refine rk_seq ?_
  refine rk_region ?_
  refine ok_as rfl rfl ?_
  refine ok_as rfl rfl ?_
  refine ok_nil ?_
  refine rk_seq ?_
  refine rk_seq ?_
  refine rk_region ?_
  refine ok_mv rfl rfl ?_
  obtain ⟨r1, h2, h0⟩ := bindE h0
  refine ok_pc [.d (.sl 2 (p0.map enc_api_Span))] (span_Check_ok p0 r1 h2) rfl rfl rfl (.inl rfl) ?_
  refine ok_as rfl rfl ?_
  refine ok_nil ?_
  refine rk_seq ?_
  refine rk_region ?_
  refine ok_mv rfl rfl ?_
  refine ok_v (.d (.bool (r1 != 0))) rfl rfl ?_
  refine ok_nil ?_
  refine rk_condH rfl h0 (fun _ h0 => ?_) (fun _ h0 => ?_)
  · refine rk_seq ?_
    refine rk_region ?_
    refine ok_mv rfl rfl ?_
    refine ok_as rfl rfl ?_
    refine ok_as rfl rfl ?_
    refine ok_nil ?_
    refine rk_ret ?_
    obtain rfl := someE h0
    exact finD (.inr rfl) (v := .d (.tup [.nilsl, .int .i64 r1])) rfl rfl (dle_tup (.cons (.nil _) (.cons (.refl _) .nil)))
  · refine rk_skip ?_
    refine rk_seq ?_
    refine rk_region ?_
    refine ok_as rfl rfl ?_
    refine ok_nil ?_
    refine rk_seq ?_
    refine rk_seq ?_
    refine rk_region ?_
    refine ok_as rfl rfl ?_
    refine ok_nil ?_
    obtain ⟨m30, h31, h0⟩ := bindE h0
    refine rk_blockcut (fun b32 => b32 = m30) (fun (b32 : List api_Span) => ⟨[(5, .hs 0 2 0 b32.length)], [(0, .dat 2 (b32.map enc_api_Span))], 1⟩) (by simp) ?_ ?_
    · refine rk_loopF (span_Gaps_L1 p0) (fun (a29 : Int × List api_Span) => ⟨[(0, .d (.sl 2 (p0.map enc_api_Span))), (5, .hs 0 2 0 a29.2.length), (6, .d (.int .i64 a29.1))], [(0, .dat 2 (a29.2.map enc_api_Span))], 1⟩) (1, []) m30 h31 (wkE [] [] [0] rfl ⟨⟨_, rfl, .d (.refl _)⟩, ⟨_, rfl, .nil (by decide) (ltd rfl)⟩, ⟨_, rfl, .d (.refl _)⟩, trivial⟩ ⟨⟨ltd rfl, .inl ⟨by decide, _, by decide, rfl⟩⟩, trivial⟩) ?_
      intro a29 y27 h28
      unfold span_Gaps_L1 at h28
      refine rk_seq ?_
      refine rk_seq ?_
      refine rk_region ?_
      refine ok_mv rfl rfl ?_
      refine ok_mv rfl rfl ?_
      refine ok_ln rfl rfl rfl rfl ?_
      refine ok_v (.d (.bool (decide (a29.1 < (p0.length : Int))))) rfl rfl ?_
      refine ok_nil ?_
      refine rk_condH rfl h28 (fun _ h28 => ?_) (fun _ h28 => ?_)
      · refine rk_skip ?_
        refine rk_seq ?_
        refine rk_block ?_
        refine rk_regionD (by kernel_rfl) ?_
        refine ok_mv rfl rfl ?_
        refine ok_mv rfl rfl ?_
        refine ok_mv rfl rfl ?_
        refine ok_v (.d (.int .i64 (w64 (a29.1 - 1)))) rfl rfl ?_
        obtain ⟨v39, h40, h28⟩ := bindE h28
        refine ok_ix (enc := enc_api_Span) h40 rfl rfl rfl rfl rfl rfl ?_
        refine ok_v (.dref [.int .i64 v39.Lo, .int .i64 v39.Hi] 1) rfl rfl ?_
        refine ok_v (.d (.int .i64 v39.Hi)) rfl rfl ?_
        refine ok_mv rfl rfl ?_
        refine ok_mv rfl rfl ?_
        obtain ⟨v41, h42, h28⟩ := bindE h28
        refine ok_ix (enc := enc_api_Span) h42 rfl rfl rfl rfl rfl rfl ?_
        refine ok_v (.dref [.int .i64 v41.Lo, .int .i64 v41.Hi] 0) rfl rfl ?_
        refine ok_v (.d (.int .i64 v41.Lo)) rfl rfl ?_
        refine ok_v (.d (.agg [.int .i64 v39.Hi, .int .i64 v41.Lo])) rfl rfl ?_
        refine ok_new (.hs 1 2 0 [({ Lo := v39.Hi, Hi := v41.Lo } : api_Span)].length) (.dat 2 ([({ Lo := v39.Hi, Hi := v41.Lo } : api_Span)].map enc_api_Span)) rfl rfl ?_
        obtain ⟨z43, h44, h28⟩ := bindE h28
        refine ok_ap (xs := a29.2) (ys := [({ Lo := v39.Hi, Hi := v41.Lo } : api_Span)]) (enc := enc_api_Span) (.hs 1 2 0 [({ Lo := v39.Hi, Hi := v41.Lo } : api_Span)].length) h44 rfl rfl rfl rfl rfl rfl rfl (conts_hs rfl rfl) rfl rfl rfl rfl ?_
        refine ok_as rfl rfl ?_
        refine ok_nil ?_
        refine rk_nil ?_
        refine blk_nor ?_
        refine rk_region ?_
        refine ok_mv rfl rfl ?_
        refine ok_v (.d (.int .i64 (w64 (a29.1 + 1)))) rfl rfl ?_
        refine ok_as rfl rfl ?_
        refine ok_nil ?_
        refine rk_nil ?_
        exact ⟨_, (Option.some.inj h28).symm, wkE [(0, 2)] [] [] rfl ⟨⟨_, rfl, .d (.refl _)⟩, ⟨_, rfl, .hs rfl (by decide) (ltd rfl)⟩, ⟨_, rfl, .d (.refl _)⟩, trivial⟩ ⟨⟨ltd rfl, .inr ⟨by decide, _, rfl, .dat _ _⟩⟩, trivial⟩⟩
      · refine rk_exit ?_
        refine ⟨_, (Option.some.inj h28).symm, fun hm => ?_⟩
        subst hm
        exact ⟨_, rfl, wkE [(0, 0)] [] [] rfl ⟨⟨_, rfl, .hs rfl (by decide) (ltd rfl)⟩, trivial⟩ ⟨⟨ltd rfl, .inr ⟨by decide, _, rfl, .dat _ _⟩⟩, trivial⟩⟩
    · intro b32 hb
      subst hb
      refine rk_seq ?_
      refine rk_region ?_
      refine ok_mv rfl rfl ?_
      refine ok_as rfl rfl ?_
      refine ok_as rfl rfl ?_
      refine ok_nil ?_
      refine rk_ret ?_
      obtain rfl := someE h0
      exact finD (.inr rfl) (v := .tup [.hs 0 2 0 b32.length, .d (.int .i64 0)]) rfl (td_tup (mm_cons (td_hs rfl rfl) (mm_cons rfl rfl))) (.refl _)

theorem r11_Valid_ok (p0 : api_Span) (r : Bool) (h0 : r11_Valid p0 = some r) : Pure Try.prog tab 36 [.agg [.int .i64 p0.Lo, .int .i64 p0.Hi]] (.bool r) := by
  unfold r11_Valid at h0
  refine pure_of_run Try.func36 rfl (by kernel_rfl) (by kernel_rfl) rfl ?_
  refine rk_seq ?_
  refine rk_region ?_
  refine ok_new (.ref 0 2 0 0) (.dat 2 [[.int .i64 p0.Lo, .int .i64 p0.Hi]]) rfl rfl ?_
  refine ok_as rfl rfl ?_
  refine ok_nil ?_
  refine rk_seq ?_
  refine rk_region ?_
  refine ok_v (.ref 0 2 0 0) rfl rfl ?_
  refine ok_v (.d (.int .i64 p0.Lo)) rfl rfl ?_
  refine ok_v (.ref 0 2 0 1) rfl rfl ?_
  refine ok_v (.d (.int .i64 p0.Hi)) rfl rfl ?_
  refine ok_v (.d (.bool (decide (p0.Lo < p0.Hi)))) rfl rfl ?_
  obtain ⟨c1, h2, h0⟩ := bindE h0
  refine ok_cutQ 5 (fun A st => ∃ (j3 j4 j5 j6 : V), st = A [(12, .d (.bool c1)), (11, j6), (10, j5), (9, j4), (8, j3)]) ?_ ?_
  · refine ok_mvB rfl rfl h2 (fun h2 => ?_) (fun h2 => ?_)
    · refine ok_v (.ref 0 2 0 0) rfl rfl ?_
      refine ok_v (.d (.int .i64 p0.Lo)) rfl rfl ?_
      refine ok_v (.d (.bool (decide (p0.Lo ≥ (-1000000))))) rfl rfl ?_
      refine ok_v (.d (.bool (decide (p0.Lo ≥ (-1000000))))) rfl rfl ?_
      refine ok_nil ?_
      obtain rfl := someE h2
      exact ⟨_, _, _, _, rfl⟩
    · refine ok_sg rfl ?_
      refine ok_sg rfl ?_
      refine ok_sg rfl ?_
      refine ok_v (.d (.bool false)) rfl rfl ?_
      refine ok_nil ?_
      obtain rfl := someE h2
      exact ⟨_, _, _, _, rfl⟩
  · rintro _ ⟨j3, j4, j5, j6, rfl⟩
    obtain ⟨c7, h8, h0⟩ := bindE h0
    refine ok_cutQ 5 (fun A st => ∃ (j9 j10 j11 j12 : V), st = A [(17, .d (.bool c7)), (16, j12), (15, j11), (14, j10), (13, j9)]) ?_ ?_
    · refine ok_mvB rfl rfl h8 (fun h8 => ?_) (fun h8 => ?_)
      · refine ok_v (.ref 0 2 0 1) rfl rfl ?_
        refine ok_v (.d (.int .i64 p0.Hi)) rfl rfl ?_
        refine ok_v (.d (.bool (decide (p0.Hi ≤ 1000000)))) rfl rfl ?_
        refine ok_v (.d (.bool (decide (p0.Hi ≤ 1000000)))) rfl rfl ?_
        refine ok_nil ?_
        obtain rfl := someE h8
        exact ⟨_, _, _, _, rfl⟩
      · refine ok_sg rfl ?_
        refine ok_sg rfl ?_
        refine ok_sg rfl ?_
        refine ok_v (.d (.bool false)) rfl rfl ?_
        refine ok_nil ?_
        obtain rfl := someE h8
        exact ⟨_, _, _, _, rfl⟩
    · rintro _ ⟨j9, j10, j11, j12, rfl⟩
      refine ok_as rfl rfl ?_
      refine ok_nil ?_
      refine rk_ret ?_
      obtain rfl := someE h0
      exact finD (.inr rfl) (v := .d (.bool c7)) rfl rfl (.refl _)

theorem r11_Check_ok (p0 : List api_Span) (r : Int) (h0 : r11_Check p0 = some r) : Pure Try.prog tab 28 [.sl 2 (p0.map enc_api_Span)] (.int .i64 r) := by
  unfold r11_Check at h0
  refine pure_of_run Try.func28 rfl (by kernel_rfl) (by kernel_rfl) rfl ?_
  refine rk_seq ?_
  refine rk_region ?_
  refine ok_as rfl rfl ?_
  refine ok_nil ?_
  refine rk_seq ?_
  refine rk_seq ?_
  refine rk_region ?_
  refine ok_mv rfl rfl ?_
  refine ok_ln rfl rfl rfl rfl ?_
  refine ok_v (.d (.bool (decide ((p0.length : Int) > 400)))) rfl rfl ?_
  refine ok_nil ?_
  refine rk_condH rfl h0 (fun _ h0 => ?_) (fun _ h0 => ?_)
  · refine rk_seq ?_
    refine rk_region ?_
    refine ok_as rfl rfl ?_
    refine ok_nil ?_
    refine rk_ret ?_
    obtain rfl := someE h0
    exact finD (.inr rfl) (v := .d (.int .i64 4)) rfl rfl (.refl _)
  · refine rk_skip ?_
    refine rk_seq ?_
    refine rk_seq ?_
    refine rk_region ?_
    refine ok_as rfl rfl ?_
    refine ok_nil ?_
    obtain ⟨m280, h281, h0⟩ := bindE h0
    refine rk_blockcut (fun b282 => .inl b282 = m280) (fun (b282 : Unit) => ⟨[], [], 0⟩) (by simp) ?_ ?_
    · refine rk_loopF (r11_Check_L1 p0) (fun (a279 : Int) => ⟨[(0, .d (.sl 2 (p0.map enc_api_Span))), (3, .d (.int .i64 a279))], [], 0⟩) 0 m280 h281 (wkE [] [] [] rfl ⟨⟨_, rfl, .d (.refl _)⟩, ⟨_, rfl, .d (.refl _)⟩, trivial⟩ trivial) ?_
      intro a279 y277 h278
      unfold r11_Check_L1 at h278
      refine rk_seq ?_
      refine rk_seq ?_
      refine rk_region ?_
      refine ok_mv rfl rfl ?_
      refine ok_mv rfl rfl ?_
      refine ok_ln rfl rfl rfl rfl ?_
      refine ok_v (.d (.bool (decide (a279 < (p0.length : Int))))) rfl rfl ?_
      refine ok_nil ?_
      refine rk_condH rfl h278 (fun _ h278 => ?_) (fun _ h278 => ?_)
      · refine rk_skip ?_
        refine rk_seq ?_
        refine rk_block ?_
        refine rk_seq ?_
        refine rk_regionD (by kernel_rfl) ?_
        refine ok_mv rfl rfl ?_
        refine ok_mv rfl rfl ?_
        obtain ⟨v352, h353, h278⟩ := bindE h278
        refine ok_ix (enc := enc_api_Span) h353 rfl rfl rfl rfl rfl rfl ?_
        refine ok_v (.d (.agg [.int .i64 v352.Lo, .int .i64 v352.Hi])) rfl rfl ?_
        obtain ⟨r354, h355, h278⟩ := bindE h278
        refine ok_pc [.d (.agg [.int .i64 v352.Lo, .int .i64 v352.Hi])] (r11_Valid_ok v352 r354 h355) rfl rfl rfl (.inl rfl) ?_
        refine ok_v (.d (.bool (!r354))) rfl rfl ?_
        obtain ⟨c379, h380, h278⟩ := bindE h278
        refine ok_cutQ 18 (fun A st => ∃ (j381 j382 j383 j384 j385 j386 j387 j388 j389 j390 j391 j392 j393 j394 j395 j396 j397 : V), st = A [(36, .d (.bool c379)), (35, j397), (34, j396), (33, j395), (32, j394), (31, j393), (30, j392), (29, j391), (28, j390), (27, j389), (26, j388), (25, j387), (24, j386), (23, j385), (22, j384), (21, j383), (20, j382), (19, j381)]) ?_ ?_
        · refine ok_mvB rfl rfl h380 (fun h380 => ?_) (fun h380 => ?_)
          · refine ok_sg rfl ?_
            refine ok_sg rfl ?_
            refine ok_sg rfl ?_
            refine ok_sg rfl ?_
            refine ok_sg rfl ?_
            refine ok_sg rfl ?_
            refine ok_sg rfl ?_
            refine ok_sg rfl ?_
            refine ok_sg rfl ?_
            refine ok_sg rfl ?_
            refine ok_sg rfl ?_
            refine ok_sg rfl ?_
            refine ok_sg rfl ?_
            refine ok_sg rfl ?_
            refine ok_sg rfl ?_
            refine ok_sg rfl ?_
            refine ok_v (.d (.bool true)) rfl rfl ?_
            refine ok_nil ?_
            obtain rfl := someE h380
            exact ⟨_, _, _, _, _, _, _, _, _, _, _, _, _, _, _, _, _, rfl⟩
          · refine ok_mv rfl rfl ?_
            refine ok_v (.d (.bool (decide (a279 > 0)))) rfl rfl ?_
            obtain ⟨c402, h403, h380⟩ := bindE h380
            refine ok_cutQ 14 (fun A st => ∃ (j404 j405 j406 j407 j408 j409 j410 j411 j412 j413 j414 j415 j416 : V), st = A [(35, .d (.bool c402)), (34, j416), (33, j415), (32, j414), (31, j413), (30, j412), (29, j411), (28, j410), (27, j409), (26, j408), (25, j407), (24, j406), (23, j405), (22, j404)]) ?_ ?_
            · refine ok_mvB rfl rfl h403 (fun h403 => ?_) (fun h403 => ?_)
              · refine ok_mv rfl rfl ?_
                refine ok_mv rfl rfl ?_
                refine ok_v (.d (.int .i64 (w64 (a279 - 1)))) rfl rfl ?_
                obtain ⟨v417, h418, h403⟩ := bindE h403
                refine ok_ix (enc := enc_api_Span) h418 rfl rfl rfl rfl rfl rfl ?_
                refine ok_v (.dref [.int .i64 v417.Lo, .int .i64 v417.Hi] 1) rfl rfl ?_
                refine ok_v (.d (.int .i64 v417.Hi)) rfl rfl ?_
                refine ok_mv rfl rfl ?_
                refine ok_mv rfl rfl ?_
                obtain ⟨v419, h420, h403⟩ := bindE h403
                refine ok_ix (enc := enc_api_Span) h420 rfl rfl rfl rfl rfl rfl ?_
                refine ok_v (.dref [.int .i64 v419.Lo, .int .i64 v419.Hi] 0) rfl rfl ?_
                refine ok_v (.d (.int .i64 v419.Lo)) rfl rfl ?_
                refine ok_v (.d (.bool (decide (v417.Hi ≥ v419.Lo)))) rfl rfl ?_
                refine ok_v (.d (.bool (decide (v417.Hi ≥ v419.Lo)))) rfl rfl ?_
                refine ok_nil ?_
                obtain rfl := someE h403
                exact ⟨_, _, _, _, _, _, _, _, _, _, _, _, _, rfl⟩
              · refine ok_sg rfl ?_
                refine ok_sg rfl ?_
                refine ok_sg rfl ?_
                refine ok_sg rfl ?_
                refine ok_sg rfl ?_
                refine ok_sg rfl ?_
                refine ok_sg rfl ?_
                refine ok_sg rfl ?_
                refine ok_sg rfl ?_
                refine ok_sg rfl ?_
                refine ok_sg rfl ?_
                refine ok_sg rfl ?_
                refine ok_v (.d (.bool false)) rfl rfl ?_
                refine ok_nil ?_
                obtain rfl := someE h403
                exact ⟨_, _, _, _, _, _, _, _, _, _, _, _, _, rfl⟩
            · rintro _ ⟨j404, j405, j406, j407, j408, j409, j410, j411, j412, j413, j414, j415, j416, rfl⟩
              refine ok_v (.d (.bool c402)) rfl rfl ?_
              refine ok_nil ?_
              obtain rfl := someE h380
              exact ⟨_, _, _, _, _, _, _, _, _, _, _, _, _, _, _, _, _, rfl⟩
        · rintro _ ⟨j381, j382, j383, j384, j385, j386, j387, j388, j389, j390, j391, j392, j393, j394, j395, j396, j397, rfl⟩
          refine ok_nil ?_
          refine rk_condH rfl h278 (fun _ h278 => ?_) (fun _ h278 => ?_)
          · refine rk_seq ?_
            refine rk_region ?_
            refine ok_as rfl rfl ?_
            refine ok_nil ?_
            refine rk_ret ?_
            refine ⟨_, (Option.some.inj h278).symm, fun hm => ?_⟩
            subst hm
            obtain rfl := someE h0
            exact finD (.inr rfl) (v := .d (.int .i64 8)) rfl rfl (.refl _)
          · refine rk_skip ?_
            refine rk_nil ?_
            refine blk_nor ?_
            refine rk_region ?_
            refine ok_mv rfl rfl ?_
            refine ok_v (.d (.int .i64 (w64 (a279 + 1)))) rfl rfl ?_
            refine ok_as rfl rfl ?_
            refine ok_nil ?_
            refine rk_nil ?_
            exact ⟨_, (Option.some.inj h278).symm, wkE [] [] [] rfl ⟨⟨_, rfl, .d (.refl _)⟩, ⟨_, rfl, .d (.refl _)⟩, trivial⟩ trivial⟩
      · refine rk_exit ?_
        refine ⟨_, (Option.some.inj h278).symm, fun hm => ?_⟩
        subst hm
        exact ⟨_, rfl, wkE [] [] [] rfl trivial trivial⟩
    · intro b282 hb
      subst hb
      refine rk_seq ?_
      refine rk_region ?_
      refine ok_as rfl rfl ?_
      refine ok_nil ?_
      refine rk_ret ?_
      obtain rfl := someE h0
      exact finD (.inr rfl) (v := .d (.int .i64 0)) rfl rfl (.refl _)

theorem r11_Sorted_ok (p0 : List Int) (r : List Int) (h0 : r11_Sorted p0 = some r) : Pure Try.prog tab 52 [.sl 1 (p0.map (eI .i64))] (.sl 1 (r.map (eI .i64))) := by
  unfold r11_Sorted at h0
  refine pure_of_run Try.func52 rfl (by kernel_rfl) (by kernel_rfl) rfl ?_
  refine rk_seq ?_
  refine rk_region ?_
  refine ok_as rfl rfl ?_
  refine ok_nil ?_
  refine rk_seq ?_
  refine rk_region ?_
  refine ok_as rfl rfl ?_
  refine ok_nil ?_
  refine rk_seq ?_
  refine rk_seq ?_
  refine rk_region ?_
  refine ok_as rfl rfl ?_
  refine ok_nil ?_
  obtain ⟨m114, h115, h0⟩ := bindE h0
  refine rk_blockcut (fun b116 => b116 = m114) (fun (b116 : List Int) => ⟨[(3, .hs 0 1 0 b116.length)], [(0, .dat 1 (b116.map (eI .i64)))], 1⟩) (by simp) ?_ ?_
  · refine rk_loopF (r11_Sorted_L1 p0) (fun (a113 : Int × List Int) => ⟨[(0, .d (.sl 1 (p0.map (eI .i64)))), (3, .hs 0 1 0 a113.2.length), (4, .d (.int .i64 a113.1))], [(0, .dat 1 (a113.2.map (eI .i64)))], 1⟩) (0, []) m114 h115 (wkE [] [] [0] rfl ⟨⟨_, rfl, .d (.refl _)⟩, ⟨_, rfl, .nil (by decide) (ltd rfl)⟩, ⟨_, rfl, .d (.refl _)⟩, trivial⟩ ⟨⟨ltd rfl, .inl ⟨by decide, _, by decide, rfl⟩⟩, trivial⟩) ?_
    intro a113 y111 h112
    unfold r11_Sorted_L1 at h112
    refine rk_seq ?_
    refine rk_seq ?_
    refine rk_region ?_
    refine ok_mv rfl rfl ?_
    refine ok_mv rfl rfl ?_
    refine ok_ln rfl rfl rfl rfl ?_
    refine ok_v (.d (.bool (decide (a113.1 < (p0.length : Int))))) rfl rfl ?_
    refine ok_nil ?_
    refine rk_condH rfl h112 (fun _ h112 => ?_) (fun _ h112 => ?_)
    · refine rk_skip ?_
      refine rk_seq ?_
      obtain ⟨m193, h192, h112⟩ := bindE h112
      refine rk_blockcut (fun b194 => b194 = m193) (fun (b194 : List Int) => ⟨[(0, .d (.sl 1 (p0.map (eI .i64)))), (3, .hs 0 1 0 b194.length), (4, .d (.int .i64 a113.1))], [(0, .dat 1 (b194.map (eI .i64)))], 1⟩) (by simp) ?_ ?_
      · refine rk_seq ?_
        refine rk_region ?_
        refine ok_mv rfl rfl ?_
        refine ok_v (.d (.int .i64 (a113.2.length : Int))) rfl rfl ?_
        refine ok_as rfl rfl ?_
        refine ok_nil ?_
        refine rk_seq ?_
        obtain ⟨m240, h241, h192⟩ := bindE h192
        refine rk_blockcut (fun b242 => b242 = m240) (fun (b242 : Int) => ⟨[(0, .d (.sl 1 (p0.map (eI .i64)))), (3, .hs 0 1 0 a113.2.length), (4, .d (.int .i64 a113.1)), (5, .d (.int .i64 b242))], [(0, .dat 1 (a113.2.map (eI .i64)))], 1⟩) (by simp) ?_ ?_
        · refine rk_loopF (r11_Sorted_L2 a113 p0) (fun (a239 : Int) => ⟨[(0, .d (.sl 1 (p0.map (eI .i64)))), (3, .hs 0 1 0 a113.2.length), (4, .d (.int .i64 a113.1)), (5, .d (.int .i64 a239))], [(0, .dat 1 (a113.2.map (eI .i64)))], 1⟩) (a113.2.length : Int) m240 h241 (wkE [(0, 0)] [] [] rfl ⟨⟨_, rfl, .d (.refl _)⟩, ⟨_, rfl, .hs rfl (by decide) (ltd rfl)⟩, ⟨_, rfl, .d (.refl _)⟩, ⟨_, rfl, .d (.refl _)⟩, trivial⟩ ⟨⟨ltd rfl, .inr ⟨by decide, _, rfl, .dat _ _⟩⟩, trivial⟩) ?_
          intro a239 y237 h238
          unfold r11_Sorted_L2 at h238
          refine rk_seq ?_
          refine rk_seq ?_
          refine rk_regionD (by kernel_rfl) ?_
          refine ok_mv rfl rfl ?_
          refine ok_v (.d (.bool (decide (a239 > 0)))) rfl rfl ?_
          obtain ⟨c247, h248, h238⟩ := bindE h238
          refine ok_cutQ 12 (fun A st => ∃ (j249 j250 j251 j252 j253 j254 j255 j256 j257 j258 j259 : V), st = A [(27, .d (.bool c247)), (26, j259), (25, j258), (24, j257), (23, j256), (22, j255), (21, j254), (20, j253), (19, j252), (18, j251), (17, j250), (16, j249)]) ?_ ?_
          · refine ok_mvB rfl rfl h248 (fun h248 => ?_) (fun h248 => ?_)
            · refine ok_mv rfl rfl ?_
              refine ok_mv rfl rfl ?_
              refine ok_v (.d (.int .i64 (w64 (a239 - 1)))) rfl rfl ?_
              obtain ⟨v260, h261, h248⟩ := bindE h248
              refine ok_ih h261 rfl rfl rfl rfl rfl rfl rfl ?_
              refine ok_lh (.d (.int .i64 v260)) h261 rfl rfl rfl rfl rfl rfl ?_
              refine ok_mv rfl rfl ?_
              refine ok_mv rfl rfl ?_
              obtain ⟨v262, h263, h248⟩ := bindE h248
              refine ok_ix (enc := (eI .i64)) h263 rfl rfl rfl rfl rfl rfl ?_
              refine ok_v (.d (.int .i64 v262)) rfl rfl ?_
              refine ok_v (.d (.bool (decide (v260 > v262)))) rfl rfl ?_
              refine ok_v (.d (.bool (decide (v260 > v262)))) rfl rfl ?_
              refine ok_nil ?_
              obtain rfl := someE h248
              exact ⟨_, _, _, _, _, _, _, _, _, _, _, rfl⟩
            · refine ok_sg rfl ?_
              refine ok_sg rfl ?_
              refine ok_sg rfl ?_
              refine ok_sg rfl ?_
              refine ok_sg rfl ?_
              refine ok_sg rfl ?_
              refine ok_sg rfl ?_
              refine ok_sg rfl ?_
              refine ok_sg rfl ?_
              refine ok_sg rfl ?_
              refine ok_v (.d (.bool false)) rfl rfl ?_
              refine ok_nil ?_
              obtain rfl := someE h248
              exact ⟨_, _, _, _, _, _, _, _, _, _, _, rfl⟩
          · rintro _ ⟨j249, j250, j251, j252, j253, j254, j255, j256, j257, j258, j259, rfl⟩
            refine ok_nil ?_
            refine rk_condH rfl h238 (fun _ h238 => ?_) (fun _ h238 => ?_)
            · refine rk_skip ?_
              refine rk_block ?_
              refine rk_region ?_
              refine ok_mv rfl rfl ?_
              refine ok_v (.d (.int .i64 (w64 (a239 - 1)))) rfl rfl ?_
              refine ok_as rfl rfl ?_
              refine ok_nil ?_
              refine rk_nil ?_
              refine blk_nor ?_
              refine rk_nil ?_
              exact ⟨_, (Option.some.inj h238).symm, wkE [(0, 0)] [] [] rfl ⟨⟨_, rfl, .d (.refl _)⟩, ⟨_, rfl, .hs rfl (by decide) (ltd rfl)⟩, ⟨_, rfl, .d (.refl _)⟩, ⟨_, rfl, .d (.refl _)⟩, trivial⟩ ⟨⟨ltd rfl, .inr ⟨by decide, _, rfl, .dat _ _⟩⟩, trivial⟩⟩
            · refine rk_exit ?_
              refine ⟨_, (Option.some.inj h238).symm, fun hm => ?_⟩
              subst hm
              exact ⟨_, rfl, wkE [(0, 0)] [] [] rfl ⟨⟨_, rfl, .d (.refl _)⟩, ⟨_, rfl, .hs rfl (by decide) (ltd rfl)⟩, ⟨_, rfl, .d (.refl _)⟩, ⟨_, rfl, .d (.refl _)⟩, trivial⟩ ⟨⟨ltd rfl, .inr ⟨by decide, _, rfl, .dat _ _⟩⟩, trivial⟩⟩
        · intro b242 hb
          subst hb
          refine rk_seq ?_
          refine rk_seq ?_
          refine rk_regionD (by kernel_rfl) ?_
          refine ok_mv rfl rfl ?_
          refine ok_v (.d (.bool (decide (b242 > 0)))) rfl rfl ?_
          obtain ⟨c268, h269, h192⟩ := bindE h192
          refine ok_cutQ 12 (fun A st => ∃ (j270 j271 j272 j273 j274 j275 j276 j277 j278 j279 j280 : V), st = A [(43, .d (.bool c268)), (42, j280), (41, j279), (40, j278), (39, j277), (38, j276), (37, j275), (36, j274), (35, j273), (34, j272), (33, j271), (32, j270)]) ?_ ?_
          · refine ok_mvB rfl rfl h269 (fun h269 => ?_) (fun h269 => ?_)
            · refine ok_mv rfl rfl ?_
              refine ok_mv rfl rfl ?_
              refine ok_v (.d (.int .i64 (w64 (b242 - 1)))) rfl rfl ?_
              obtain ⟨v281, h282, h269⟩ := bindE h269
              refine ok_ih h282 rfl rfl rfl rfl rfl rfl rfl ?_
              refine ok_lh (.d (.int .i64 v281)) h282 rfl rfl rfl rfl rfl rfl ?_
              refine ok_mv rfl rfl ?_
              refine ok_mv rfl rfl ?_
              obtain ⟨v283, h284, h269⟩ := bindE h269
              refine ok_ix (enc := (eI .i64)) h284 rfl rfl rfl rfl rfl rfl ?_
              refine ok_v (.d (.int .i64 v283)) rfl rfl ?_
              refine ok_v (.d (.bool (v281 == v283))) rfl rfl ?_
              refine ok_v (.d (.bool (v281 == v283))) rfl rfl ?_
              refine ok_nil ?_
              obtain rfl := someE h269
              exact ⟨_, _, _, _, _, _, _, _, _, _, _, rfl⟩
            · refine ok_sg rfl ?_
              refine ok_sg rfl ?_
              refine ok_sg rfl ?_
              refine ok_sg rfl ?_
              refine ok_sg rfl ?_
              refine ok_sg rfl ?_
              refine ok_sg rfl ?_
              refine ok_sg rfl ?_
              refine ok_sg rfl ?_
              refine ok_sg rfl ?_
              refine ok_v (.d (.bool false)) rfl rfl ?_
              refine ok_nil ?_
              obtain rfl := someE h269
              exact ⟨_, _, _, _, _, _, _, _, _, _, _, rfl⟩
          · rintro _ ⟨j270, j271, j272, j273, j274, j275, j276, j277, j278, j279, j280, rfl⟩
            refine ok_nil ?_
            refine rk_condH rfl h192 (fun _ h192 => ?_) (fun _ h192 => ?_)
            · refine rk_exit ?_
              obtain rfl := someE h192
              exact ⟨_, rfl, wkE [(0, 0)] [] [] rfl ⟨⟨_, rfl, .d (.refl _)⟩, ⟨_, rfl, .hs rfl (by decide) (ltd rfl)⟩, ⟨_, rfl, .d (.refl _)⟩, trivial⟩ ⟨⟨ltd rfl, .inr ⟨by decide, _, rfl, .dat _ _⟩⟩, trivial⟩⟩
            · refine rk_skip ?_
              refine rk_seq ?_
              refine rk_region ?_
              refine ok_mv rfl rfl ?_
              refine ok_new (.hs 1 1 0 [0].length) (.dat 1 ([0].map (eI .i64))) rfl rfl ?_
              obtain ⟨z285, h286, h192⟩ := bindE h192
              refine ok_ap (xs := a113.2) (ys := [0]) (enc := (eI .i64)) (.hs 1 1 0 [0].length) h286 rfl rfl rfl rfl rfl rfl rfl (conts_hs rfl rfl) rfl rfl rfl rfl ?_
              refine ok_as rfl rfl ?_
              refine ok_nil ?_
              refine rk_seq ?_
              refine rk_regionD (by kernel_rfl) ?_
              refine ok_mv rfl rfl ?_
              refine ok_mv rfl rfl ?_
              refine ok_v (.d (.int .i64 (w64 (b242 + 1)))) rfl rfl ?_
              obtain ⟨w287, h288, h192⟩ := bindE h192
              refine ok_slh h288 rfl rfl rfl rfl rfl (bound_v rfl) (fun _ => rfl) ?_
              refine ok_mv rfl rfl ?_
              refine ok_mv rfl rfl ?_
              obtain ⟨w289, h290, h192⟩ := bindE h192
              refine ok_slh h290 rfl rfl rfl rfl rfl (bound_v rfl) (fun _ => rfl) ?_
              refine ok_cpy (xs := z285) (ys := (z285.drop w289.1).take w289.2) (enc := (eI .i64)) (.hs 2 1 w289.1 w289.2) (sub2_some h288) rfl rfl rfl rfl rfl rfl (conts_sub (sub2_some h290) rfl) rfl rfl rfl rfl ?_
              have h291 := @cpyw_len _ z285 ((z285.drop w289.1).take w289.2) w287 (sub2_some h288)
              refine ok_nil ?_
              refine rk_region ?_
              refine ok_mv rfl rfl ?_
              refine ok_mv rfl rfl ?_
              refine ok_mv rfl rfl ?_
              refine ok_mv rfl rfl ?_
              obtain ⟨v292, h293, h192⟩ := bindE h192
              refine ok_ix (enc := (eI .i64)) h293 rfl rfl rfl rfl rfl rfl ?_
              refine ok_v (.d (.int .i64 v292)) rfl rfl ?_
              obtain ⟨v294, h295, h192⟩ := bindE h192
              refine ok_ih h295 (by simp [h291]) rfl rfl rfl rfl rfl rfl ?_
              refine ok_sh (ds := [.int .i64 v292]) v292 h295 rfl rfl rfl rfl rfl rfl rfl rfl (leb rfl) rfl ?_
              refine ok_nil ?_
              refine rk_nil ?_
              obtain rfl := someE h192
              exact ⟨_, rfl, wkE [(0, 2)] [] [] rfl ⟨⟨_, rfl, .d (.refl _)⟩, ⟨_, rfl, wv_hsL (by simp [h291]) rfl (by decide) (ltd rfl)⟩, ⟨_, rfl, .d (.refl _)⟩, trivial⟩ ⟨⟨ltd rfl, .inr ⟨by decide, _, rfl, .dat _ _⟩⟩, trivial⟩⟩
      · intro b194 hb
        subst hb
        refine rk_region ?_
        refine ok_mv rfl rfl ?_
        refine ok_v (.d (.int .i64 (w64 (a113.1 + 1)))) rfl rfl ?_
        refine ok_as rfl rfl ?_
        refine ok_nil ?_
        refine rk_nil ?_
        exact ⟨_, (Option.some.inj h112).symm, wkE [(0, 0)] [] [] rfl ⟨⟨_, rfl, .d (.refl _)⟩, ⟨_, rfl, .hs rfl (by decide) (ltd rfl)⟩, ⟨_, rfl, .d (.refl _)⟩, trivial⟩ ⟨⟨ltd rfl, .inr ⟨by decide, _, rfl, .dat _ _⟩⟩, trivial⟩⟩
    · refine rk_exit ?_
      refine ⟨_, (Option.some.inj h112).symm, fun hm => ?_⟩
      subst hm
      exact ⟨_, rfl, wkE [(0, 0)] [] [] rfl ⟨⟨_, rfl, .hs rfl (by decide) (ltd rfl)⟩, trivial⟩ ⟨⟨ltd rfl, .inr ⟨by decide, _, rfl, .dat _ _⟩⟩, trivial⟩⟩
  · intro b116 hb
    subst hb
    refine rk_seq ?_
    refine rk_region ?_
    refine ok_mv rfl rfl ?_
    refine ok_as rfl rfl ?_
    refine ok_nil ?_
    refine rk_ret ?_
    obtain rfl := someE h0
    exact finD (.inr rfl) (v := .hs 0 1 0 b116.length) rfl (td_hs rfl rfl) (.refl _)

theorem r11_Ends_ok (p0 : List api_Span) (p1 : List api_Span) (r : List Int) (h0 : r11_Ends p0 p1 = some r) : Pure Try.prog tab 46 [.sl 2 (p0.map enc_api_Span), .sl 2 (p1.map enc_api_Span)] (.sl 1 (r.map (eI .i64))) := by
  unfold r11_Ends at h0
  refine pure_of_run Try.func46 rfl (by kernel_rfl) (by kernel_rfl) rfl ?_
  refine rk_seq ?_
  refine rk_region ?_
  refine ok_as rfl rfl ?_
  refine ok_nil ?_
  refine rk_seq ?_
  refine rk_region ?_
  refine ok_as rfl rfl ?_
  refine ok_nil ?_
  refine rk_seq ?_
  refine rk_seq ?_
  refine rk_region ?_
  refine ok_as rfl rfl ?_
  refine ok_nil ?_
  obtain ⟨m28, h29, h0⟩ := bindE h0
  refine rk_blockcut (fun b30 => b30 = m28) (fun (b30 : List Int) => ⟨[(1, .d (.sl 2 (p1.map enc_api_Span))), (5, .hs 0 1 0 b30.length)], [(0, .dat 1 (b30.map (eI .i64)))], 1⟩) (by simp) ?_ ?_
  · refine rk_loopF (r11_Ends_L1 p0) (fun (a27 : Int × List Int) => ⟨[(0, .d (.sl 2 (p0.map enc_api_Span))), (1, .d (.sl 2 (p1.map enc_api_Span))), (5, .hs 0 1 0 a27.2.length), (6, .d (.int .i64 a27.1))], [(0, .dat 1 (a27.2.map (eI .i64)))], 1⟩) (0, []) m28 h29 (wkE [] [] [0] rfl ⟨⟨_, rfl, .d (.refl _)⟩, ⟨_, rfl, .d (.refl _)⟩, ⟨_, rfl, .nil (by decide) (ltd rfl)⟩, ⟨_, rfl, .d (.refl _)⟩, trivial⟩ ⟨⟨ltd rfl, .inl ⟨by decide, _, by decide, rfl⟩⟩, trivial⟩) ?_
    intro a27 y25 h26
    unfold r11_Ends_L1 at h26
    refine rk_seq ?_
    refine rk_seq ?_
    refine rk_region ?_
    refine ok_mv rfl rfl ?_
    refine ok_mv rfl rfl ?_
    refine ok_ln rfl rfl rfl rfl ?_
    refine ok_v (.d (.bool (decide (a27.1 < (p0.length : Int))))) rfl rfl ?_
    refine ok_nil ?_
    refine rk_condH rfl h26 (fun _ h26 => ?_) (fun _ h26 => ?_)
    · refine rk_skip ?_
      refine rk_seq ?_
      refine rk_block ?_
      refine rk_regionD (by kernel_rfl) ?_
      refine ok_mv rfl rfl ?_
      refine ok_mv rfl rfl ?_
      refine ok_mv rfl rfl ?_
      obtain ⟨v37, h38, h26⟩ := bindE h26
      refine ok_ix (enc := enc_api_Span) h38 rfl rfl rfl rfl rfl rfl ?_
      refine ok_v (.dref [.int .i64 v37.Lo, .int .i64 v37.Hi] 0) rfl rfl ?_
      refine ok_v (.d (.int .i64 v37.Lo)) rfl rfl ?_
      refine ok_mv rfl rfl ?_
      refine ok_mv rfl rfl ?_
      obtain ⟨v39, h40, h26⟩ := bindE h26
      refine ok_ix (enc := enc_api_Span) h40 rfl rfl rfl rfl rfl rfl ?_
      refine ok_v (.dref [.int .i64 v39.Lo, .int .i64 v39.Hi] 1) rfl rfl ?_
      refine ok_v (.d (.int .i64 v39.Hi)) rfl rfl ?_
      refine ok_new (.hs 1 1 0 [v37.Lo, v39.Hi].length) (.dat 1 ([v37.Lo, v39.Hi].map (eI .i64))) rfl rfl ?_
      obtain ⟨z41, h42, h26⟩ := bindE h26
      refine ok_ap (xs := a27.2) (ys := [v37.Lo, v39.Hi]) (enc := (eI .i64)) (.hs 1 1 0 [v37.Lo, v39.Hi].length) h42 rfl rfl rfl rfl rfl rfl rfl (conts_hs rfl rfl) rfl rfl rfl rfl ?_
      refine ok_as rfl rfl ?_
      refine ok_nil ?_
      refine rk_nil ?_
      refine blk_nor ?_
      refine rk_region ?_
      refine ok_mv rfl rfl ?_
      refine ok_v (.d (.int .i64 (w64 (a27.1 + 1)))) rfl rfl ?_
      refine ok_as rfl rfl ?_
      refine ok_nil ?_
      refine rk_nil ?_
      exact ⟨_, (Option.some.inj h26).symm, wkE [(0, 2)] [] [] rfl ⟨⟨_, rfl, .d (.refl _)⟩, ⟨_, rfl, .d (.refl _)⟩, ⟨_, rfl, .hs rfl (by decide) (ltd rfl)⟩, ⟨_, rfl, .d (.refl _)⟩, trivial⟩ ⟨⟨ltd rfl, .inr ⟨by decide, _, rfl, .dat _ _⟩⟩, trivial⟩⟩
    · refine rk_exit ?_
      refine ⟨_, (Option.some.inj h26).symm, fun hm => ?_⟩
      subst hm
      exact ⟨_, rfl, wkE [(0, 0)] [] [] rfl ⟨⟨_, rfl, .d (.refl _)⟩, ⟨_, rfl, .hs rfl (by decide) (ltd rfl)⟩, trivial⟩ ⟨⟨ltd rfl, .inr ⟨by decide, _, rfl, .dat _ _⟩⟩, trivial⟩⟩
  · intro b30 hb
    subst hb
    refine rk_seq ?_
    refine rk_seq ?_
    refine rk_region ?_
    refine ok_as rfl rfl ?_
    refine ok_nil ?_
    obtain ⟨m70, h71, h0⟩ := bindE h0
    refine rk_blockcut (fun b72 => b72 = m70) (fun (b72 : List Int) => ⟨[(5, .hs 0 1 0 b72.length)], [(0, .dat 1 (b72.map (eI .i64)))], 1⟩) (by simp) ?_ ?_
    · refine rk_loopF (r11_Ends_L2 p1) (fun (a69 : Int × List Int) => ⟨[(1, .d (.sl 2 (p1.map enc_api_Span))), (5, .hs 0 1 0 a69.2.length), (7, .d (.int .i64 a69.1))], [(0, .dat 1 (a69.2.map (eI .i64)))], 1⟩) (0, b30) m70 h71 (wkE [(0, 0)] [] [] rfl ⟨⟨_, rfl, .d (.refl _)⟩, ⟨_, rfl, .hs rfl (by decide) (ltd rfl)⟩, ⟨_, rfl, .d (.refl _)⟩, trivial⟩ ⟨⟨ltd rfl, .inr ⟨by decide, _, rfl, .dat _ _⟩⟩, trivial⟩) ?_
      intro a69 y67 h68
      unfold r11_Ends_L2 at h68
      refine rk_seq ?_
      refine rk_seq ?_
      refine rk_region ?_
      refine ok_mv rfl rfl ?_
      refine ok_mv rfl rfl ?_
      refine ok_ln rfl rfl rfl rfl ?_
      refine ok_v (.d (.bool (decide (a69.1 < (p1.length : Int))))) rfl rfl ?_
      refine ok_nil ?_
      refine rk_condH rfl h68 (fun _ h68 => ?_) (fun _ h68 => ?_)
      · refine rk_skip ?_
        refine rk_seq ?_
        refine rk_block ?_
        refine rk_regionD (by kernel_rfl) ?_
        refine ok_mv rfl rfl ?_
        refine ok_mv rfl rfl ?_
        refine ok_mv rfl rfl ?_
        obtain ⟨v79, h80, h68⟩ := bindE h68
        refine ok_ix (enc := enc_api_Span) h80 rfl rfl rfl rfl rfl rfl ?_
        refine ok_v (.dref [.int .i64 v79.Lo, .int .i64 v79.Hi] 0) rfl rfl ?_
        refine ok_v (.d (.int .i64 v79.Lo)) rfl rfl ?_
        refine ok_mv rfl rfl ?_
        refine ok_mv rfl rfl ?_
        obtain ⟨v81, h82, h68⟩ := bindE h68
        refine ok_ix (enc := enc_api_Span) h82 rfl rfl rfl rfl rfl rfl ?_
        refine ok_v (.dref [.int .i64 v81.Lo, .int .i64 v81.Hi] 1) rfl rfl ?_
        refine ok_v (.d (.int .i64 v81.Hi)) rfl rfl ?_
        refine ok_new (.hs 1 1 0 [v79.Lo, v81.Hi].length) (.dat 1 ([v79.Lo, v81.Hi].map (eI .i64))) rfl rfl ?_
        obtain ⟨z83, h84, h68⟩ := bindE h68
        refine ok_ap (xs := a69.2) (ys := [v79.Lo, v81.Hi]) (enc := (eI .i64)) (.hs 1 1 0 [v79.Lo, v81.Hi].length) h84 rfl rfl rfl rfl rfl rfl rfl (conts_hs rfl rfl) rfl rfl rfl rfl ?_
        refine ok_as rfl rfl ?_
        refine ok_nil ?_
        refine rk_nil ?_
        refine blk_nor ?_
        refine rk_region ?_
        refine ok_mv rfl rfl ?_
        refine ok_v (.d (.int .i64 (w64 (a69.1 + 1)))) rfl rfl ?_
        refine ok_as rfl rfl ?_
        refine ok_nil ?_
        refine rk_nil ?_
        exact ⟨_, (Option.some.inj h68).symm, wkE [(0, 2)] [] [] rfl ⟨⟨_, rfl, .d (.refl _)⟩, ⟨_, rfl, .hs rfl (by decide) (ltd rfl)⟩, ⟨_, rfl, .d (.refl _)⟩, trivial⟩ ⟨⟨ltd rfl, .inr ⟨by decide, _, rfl, .dat _ _⟩⟩, trivial⟩⟩
      · refine rk_exit ?_
        refine ⟨_, (Option.some.inj h68).symm, fun hm => ?_⟩
        subst hm
        exact ⟨_, rfl, wkE [(0, 0)] [] [] rfl ⟨⟨_, rfl, .hs rfl (by decide) (ltd rfl)⟩, trivial⟩ ⟨⟨ltd rfl, .inr ⟨by decide, _, rfl, .dat _ _⟩⟩, trivial⟩⟩
    · intro b72 hb
      subst hb
      refine rk_seq ?_
      refine rk_wk (st' := ⟨[(5, .d (.sl 1 (b72.map (eI .i64))))], [], 0⟩) (wkE [] [0] [] rfl ⟨⟨_, rfl, wv_frz rfl rfl (by decide)⟩, trivial⟩ trivial) ?_ (by simp)
      refine rk_region ?_
      refine ok_mv rfl rfl ?_
      obtain ⟨r85, h86, h0⟩ := bindE h0
      refine ok_pc [.d (.sl 1 (b72.map (eI .i64)))] (r11_Sorted_ok b72 r85 h86) rfl rfl rfl (.inl rfl) ?_
      refine ok_as rfl rfl ?_
      refine ok_nil ?_
      refine rk_ret ?_
      obtain rfl := someE h0
      exact finD (.inr rfl) (v := .d (.sl 1 (r85.map (eI .i64)))) rfl rfl (.refl _)

theorem r11_Has_ok (p0 : List api_Span) (p1 : Int) (r : Bool) (h0 : r11_Has p0 p1 = some r) : Pure Try.prog tab 30 [.sl 2 (p0.map enc_api_Span), .int .i64 p1] (.bool r) := by
  unfold r11_Has at h0
  refine pure_of_run Try.func30 rfl (by kernel_rfl) (by kernel_rfl) rfl ?_
  refine rk_seq ?_
  refine rk_region ?_
  refine ok_as rfl rfl ?_
  refine ok_nil ?_
  refine rk_seq ?_
  refine rk_seq ?_
  refine rk_region ?_
  refine ok_as rfl rfl ?_
  refine ok_nil ?_
  obtain ⟨m68, h69, h0⟩ := bindE h0
  refine rk_blockcut (fun b70 => .inl b70 = m68) (fun (b70 : Unit) => ⟨[], [], 0⟩) (by simp) ?_ ?_
  · refine rk_loopF (r11_Has_L1 p0 p1) (fun (a67 : Int) => ⟨[(0, .d (.sl 2 (p0.map enc_api_Span))), (1, .d (.int .i64 p1)), (5, .d (.int .i64 a67))], [], 0⟩) 0 m68 h69 (wkE [] [] [] rfl ⟨⟨_, rfl, .d (.refl _)⟩, ⟨_, rfl, .d (.refl _)⟩, ⟨_, rfl, .d (.refl _)⟩, trivial⟩ trivial) ?_
    intro a67 y65 h66
    unfold r11_Has_L1 at h66
    refine rk_seq ?_
    refine rk_seq ?_
    refine rk_region ?_
    refine ok_mv rfl rfl ?_
    refine ok_mv rfl rfl ?_
    refine ok_ln rfl rfl rfl rfl ?_
    refine ok_v (.d (.bool (decide (a67 < (p0.length : Int))))) rfl rfl ?_
    refine ok_nil ?_
    refine rk_condH rfl h66 (fun _ h66 => ?_) (fun _ h66 => ?_)
    · refine rk_skip ?_
      refine rk_seq ?_
      refine rk_block ?_
      refine rk_seq ?_
      refine rk_region ?_
      refine ok_mv rfl rfl ?_
      refine ok_mv rfl rfl ?_
      obtain ⟨v87, h88, h66⟩ := bindE h66
      refine ok_ix (enc := enc_api_Span) h88 rfl rfl rfl rfl rfl rfl ?_
      refine ok_v (.dref [.int .i64 v87.Lo, .int .i64 v87.Hi] 0) rfl rfl ?_
      refine ok_v (.d (.int .i64 v87.Lo)) rfl rfl ?_
      refine ok_mv rfl rfl ?_
      refine ok_v (.d (.bool (decide (v87.Lo ≤ p1)))) rfl rfl ?_
      obtain ⟨c91, h92, h66⟩ := bindE h66
      refine ok_cutQ 9 (fun A st => ∃ (j93 j94 j95 j96 j97 j98 j99 j100 : V), st = A [(27, .d (.bool c91)), (26, j100), (25, j99), (24, j98), (23, j97), (22, j96), (21, j95), (20, j94), (19, j93)]) ?_ ?_
      · refine ok_mvB rfl rfl h92 (fun h92 => ?_) (fun h92 => ?_)
        · refine ok_mv rfl rfl ?_
          refine ok_mv rfl rfl ?_
          refine ok_mv rfl rfl ?_
          obtain ⟨v101, h102, h92⟩ := bindE h92
          refine ok_ix (enc := enc_api_Span) h102 rfl rfl rfl rfl rfl rfl ?_
          refine ok_v (.dref [.int .i64 v101.Lo, .int .i64 v101.Hi] 1) rfl rfl ?_
          refine ok_v (.d (.int .i64 v101.Hi)) rfl rfl ?_
          refine ok_v (.d (.bool (decide (p1 < v101.Hi)))) rfl rfl ?_
          refine ok_v (.d (.bool (decide (p1 < v101.Hi)))) rfl rfl ?_
          refine ok_nil ?_
          obtain rfl := someE h92
          exact ⟨_, _, _, _, _, _, _, _, rfl⟩
        · refine ok_sg rfl ?_
          refine ok_sg rfl ?_
          refine ok_sg rfl ?_
          refine ok_sg rfl ?_
          refine ok_sg rfl ?_
          refine ok_sg rfl ?_
          refine ok_sg rfl ?_
          refine ok_v (.d (.bool false)) rfl rfl ?_
          refine ok_nil ?_
          obtain rfl := someE h92
          exact ⟨_, _, _, _, _, _, _, _, rfl⟩
      · rintro _ ⟨j93, j94, j95, j96, j97, j98, j99, j100, rfl⟩
        refine ok_nil ?_
        refine rk_condH rfl h66 (fun _ h66 => ?_) (fun _ h66 => ?_)
        · refine rk_seq ?_
          refine rk_region ?_
          refine ok_as rfl rfl ?_
          refine ok_nil ?_
          refine rk_ret ?_
          refine ⟨_, (Option.some.inj h66).symm, fun hm => ?_⟩
          subst hm
          obtain rfl := someE h0
          exact finD (.inr rfl) (v := .d (.bool true)) rfl rfl (.refl _)
        · refine rk_skip ?_
          refine rk_nil ?_
          refine blk_nor ?_
          refine rk_region ?_
          refine ok_mv rfl rfl ?_
          refine ok_v (.d (.int .i64 (w64 (a67 + 1)))) rfl rfl ?_
          refine ok_as rfl rfl ?_
          refine ok_nil ?_
          refine rk_nil ?_
          exact ⟨_, (Option.some.inj h66).symm, wkE [] [] [] rfl ⟨⟨_, rfl, .d (.refl _)⟩, ⟨_, rfl, .d (.refl _)⟩, ⟨_, rfl, .d (.refl _)⟩, trivial⟩ trivial⟩
    · refine rk_exit ?_
      refine ⟨_, (Option.some.inj h66).symm, fun hm => ?_⟩
      subst hm
      exact ⟨_, rfl, wkE [] [] [] rfl trivial trivial⟩
  · intro b70 hb
    subst hb
    refine rk_seq ?_
    refine rk_region ?_
    refine ok_as rfl rfl ?_
    refine ok_nil ?_
    refine rk_ret ?_
    obtain rfl := someE h0
    exact finD (.inr rfl) (v := .d (.bool false)) rfl rfl (.refl _)

theorem r11_Holds_ok (p0 : Int) (p1 : Bool) (p2 : Bool) (r : Bool) (h0 : r11_Holds p0 p1 p2 = some r) : Pure Try.prog tab 47 [.int .i64 p0, .bool p1, .bool p2] (.bool r) := by
  unfold r11_Holds at h0
  refine pure_of_run Try.func47 rfl (by kernel_rfl) (by kernel_rfl) rfl ?_
  refine rk_seq ?_
  refine rk_region ?_
  refine ok_as rfl rfl ?_
  refine ok_nil ?_
  refine rk_seq ?_
  refine rk_seq ?_
  refine rk_region ?_
  refine ok_mv rfl rfl ?_
  refine ok_v (.d (.bool (p0 == 1))) rfl rfl ?_
  refine ok_nil ?_
  refine rk_condH rfl h0 (fun _ h0 => ?_) (fun _ h0 => ?_)
  · refine rk_seq ?_
    refine rk_region ?_
    refine ok_mv rfl rfl ?_
    obtain ⟨c5, h6, h0⟩ := bindE h0
    refine ok_cutQ 3 (fun A st => ∃ (j7 j8 : V), st = A [(12, .d (.bool c5)), (11, j8), (10, j7)]) ?_ ?_
    · refine ok_mvB rfl rfl h6 (fun h6 => ?_) (fun h6 => ?_)
      · refine ok_mv rfl rfl ?_
        refine ok_v (.d (.bool p2)) rfl rfl ?_
        refine ok_nil ?_
        obtain rfl := someE h6
        exact ⟨_, _, rfl⟩
      · refine ok_sg rfl ?_
        refine ok_v (.d (.bool false)) rfl rfl ?_
        refine ok_nil ?_
        obtain rfl := someE h6
        exact ⟨_, _, rfl⟩
    · rintro _ ⟨j7, j8, rfl⟩
      refine ok_as rfl rfl ?_
      refine ok_nil ?_
      refine rk_ret ?_
      obtain rfl := someE h0
      exact finD (.inr rfl) (v := .d (.bool c5)) rfl rfl (.refl _)
  · refine rk_skip ?_
    refine rk_seq ?_
    refine rk_seq ?_
    refine rk_region ?_
    refine ok_mv rfl rfl ?_
    refine ok_v (.d (.bool (p0 == 2))) rfl rfl ?_
    refine ok_nil ?_
    refine rk_condH rfl h0 (fun _ h0 => ?_) (fun _ h0 => ?_)
    · refine rk_seq ?_
      refine rk_region ?_
      refine ok_mv rfl rfl ?_
      obtain ⟨c13, h14, h0⟩ := bindE h0
      refine ok_cutQ 3 (fun A st => ∃ (j15 j16 : V), st = A [(18, .d (.bool c13)), (17, j16), (16, j15)]) ?_ ?_
      · refine ok_mvB rfl rfl h14 (fun h14 => ?_) (fun h14 => ?_)
        · refine ok_sg rfl ?_
          refine ok_v (.d (.bool true)) rfl rfl ?_
          refine ok_nil ?_
          obtain rfl := someE h14
          exact ⟨_, _, rfl⟩
        · refine ok_mv rfl rfl ?_
          refine ok_v (.d (.bool p2)) rfl rfl ?_
          refine ok_nil ?_
          obtain rfl := someE h14
          exact ⟨_, _, rfl⟩
      · rintro _ ⟨j15, j16, rfl⟩
        refine ok_as rfl rfl ?_
        refine ok_nil ?_
        refine rk_ret ?_
        obtain rfl := someE h0
        exact finD (.inr rfl) (v := .d (.bool c13)) rfl rfl (.refl _)
    · refine rk_skip ?_
      refine rk_seq ?_
      refine rk_region ?_
      refine ok_mv rfl rfl ?_
      obtain ⟨c17, h18, h0⟩ := bindE h0
      refine ok_cutQ 4 (fun A st => ∃ (j19 j20 j21 : V), st = A [(23, .d (.bool c17)), (22, j21), (21, j20), (20, j19)]) ?_ ?_
      · refine ok_mvB rfl rfl h18 (fun h18 => ?_) (fun h18 => ?_)
        · refine ok_mv rfl rfl ?_
          refine ok_v (.d (.bool (!p2))) rfl rfl ?_
          refine ok_v (.d (.bool (!p2))) rfl rfl ?_
          refine ok_nil ?_
          obtain rfl := someE h18
          exact ⟨_, _, _, rfl⟩
        · refine ok_sg rfl ?_
          refine ok_sg rfl ?_
          refine ok_v (.d (.bool false)) rfl rfl ?_
          refine ok_nil ?_
          obtain rfl := someE h18
          exact ⟨_, _, _, rfl⟩
      · rintro _ ⟨j19, j20, j21, rfl⟩
        refine ok_as rfl rfl ?_
        refine ok_nil ?_
        refine rk_ret ?_
        obtain rfl := someE h0
        exact finD (.inr rfl) (v := .d (.bool c17)) rfl rfl (.refl _)

theorem r11_Canon_ok (p0 : List Int) (p1 : List Bool) (r : List api_Span) (h0 : r11_Canon p0 p1 = some r) : Pure Try.prog tab 48 [.sl 1 (p0.map (eI .i64)), .sl 1 (p1.map eB)] (.sl 2 (r.map enc_api_Span)) := by
  unfold r11_Canon at h0
  refine pure_of_run Try.func48 rfl (by kernel_rfl) (by kernel_rfl) rfl ?_
  refine rk_seq ?_
  refine rk_region ?_
  refine ok_as rfl rfl ?_
  refine ok_nil ?_
  refine rk_seq ?_
  refine rk_region ?_
  refine ok_as rfl rfl ?_
  refine ok_nil ?_
  refine rk_seq ?_
  refine rk_seq ?_
  refine rk_region ?_
  refine ok_as rfl rfl ?_
  refine ok_nil ?_
  obtain ⟨m65, h66, h0⟩ := bindE h0
  refine rk_blockcut (fun b67 => b67 = m65) (fun (b67 : List api_Span) => ⟨[(5, .hs 0 2 0 b67.length)], [(0, .dat 2 (b67.map enc_api_Span))], 1⟩) (by simp) ?_ ?_
  · refine rk_loopF (r11_Canon_L1 p0 p1) (fun (a64 : Int × List api_Span) => ⟨[(0, .d (.sl 1 (p0.map (eI .i64)))), (1, .d (.sl 1 (p1.map eB))), (5, .hs 0 2 0 a64.2.length), (6, .d (.int .i64 a64.1))], [(0, .dat 2 (a64.2.map enc_api_Span))], 1⟩) (0, []) m65 h66 (wkE [] [] [0] rfl ⟨⟨_, rfl, .d (.refl _)⟩, ⟨_, rfl, .d (.refl _)⟩, ⟨_, rfl, .nil (by decide) (ltd rfl)⟩, ⟨_, rfl, .d (.refl _)⟩, trivial⟩ ⟨⟨ltd rfl, .inl ⟨by decide, _, by decide, rfl⟩⟩, trivial⟩) ?_
    intro a64 y62 h63
    unfold r11_Canon_L1 at h63
    refine rk_seq ?_
    refine rk_seq ?_
    refine rk_region ?_
    refine ok_mv rfl rfl ?_
    refine ok_v (.d (.int .i64 (w64 (a64.1 + 1)))) rfl rfl ?_
    refine ok_mv rfl rfl ?_
    refine ok_ln rfl rfl rfl rfl ?_
    refine ok_v (.d (.bool (decide ((w64 (a64.1 + 1)) < (p0.length : Int))))) rfl rfl ?_
    refine ok_nil ?_
    refine rk_condH rfl h63 (fun _ h63 => ?_) (fun _ h63 => ?_)
    · refine rk_skip ?_
      refine rk_seq ?_
      obtain ⟨m103, h102, h63⟩ := bindE h63
      refine rk_blockcut (fun b104 => b104 = m103) (fun (b104 : List api_Span) => ⟨[(0, .d (.sl 1 (p0.map (eI .i64)))), (1, .d (.sl 1 (p1.map eB))), (5, .hs 0 2 0 b104.length), (6, .d (.int .i64 a64.1))], [(0, .dat 2 (b104.map enc_api_Span))], 1⟩) (by simp) ?_ ?_
      · refine rk_seq ?_
        refine rk_seq ?_
        refine rk_region ?_
        refine ok_mv rfl rfl ?_
        refine ok_mv rfl rfl ?_
        obtain ⟨v105, h106, h102⟩ := bindE h102
        refine ok_ix (enc := eB) h106 rfl rfl rfl rfl rfl rfl ?_
        refine ok_v (.d (.bool v105)) rfl rfl ?_
        refine ok_v (.d (.bool (!v105))) rfl rfl ?_
        refine ok_nil ?_
        refine rk_condH rfl h102 (fun _ h102 => ?_) (fun _ h102 => ?_)
        · refine rk_exit ?_
          obtain rfl := someE h102
          exact ⟨_, rfl, wkE [(0, 0)] [] [] rfl ⟨⟨_, rfl, .d (.refl _)⟩, ⟨_, rfl, .d (.refl _)⟩, ⟨_, rfl, .hs rfl (by decide) (ltd rfl)⟩, ⟨_, rfl, .d (.refl _)⟩, trivial⟩ ⟨⟨ltd rfl, .inr ⟨by decide, _, rfl, .dat _ _⟩⟩, trivial⟩⟩
        · refine rk_skip ?_
          refine rk_seq ?_
          refine rk_region ?_
          refine ok_mv rfl rfl ?_
          refine ok_v (.d (.int .i64 (a64.2.length : Int))) rfl rfl ?_
          refine ok_as rfl rfl ?_
          refine ok_nil ?_
          refine rk_seq ?_
          refine rk_regionD (by kernel_rfl) ?_
          refine ok_mv rfl rfl ?_
          refine ok_v (.d (.bool (decide ((a64.2.length : Int) > 0)))) rfl rfl ?_
          obtain ⟨c111, h112, h102⟩ := bindE h102
          refine ok_cutQ 13 (fun A st => ∃ (j113 j114 j115 j116 j117 j118 j119 j120 j121 j122 j123 j124 : V), st = A [(36, .d (.bool c111)), (35, j124), (34, j123), (33, j122), (32, j121), (31, j120), (30, j119), (29, j118), (28, j117), (27, j116), (26, j115), (25, j114), (24, j113)]) ?_ ?_
          · refine ok_mvB rfl rfl h112 (fun h112 => ?_) (fun h112 => ?_)
            · refine ok_mv rfl rfl ?_
              refine ok_mv rfl rfl ?_
              refine ok_v (.d (.int .i64 (w64 ((a64.2.length : Int) - 1)))) rfl rfl ?_
              obtain ⟨v125, h126, h112⟩ := bindE h112
              refine ok_ih h126 rfl rfl rfl rfl rfl rfl rfl ?_
              refine ok_v (.ref 0 2 (w64 ((a64.2.length : Int) - 1)).toNat 1) rfl rfl ?_
              refine ok_lh (.d (.int .i64 v125.Hi)) h126 rfl rfl rfl rfl rfl rfl ?_
              refine ok_mv rfl rfl ?_
              refine ok_mv rfl rfl ?_
              obtain ⟨v127, h128, h112⟩ := bindE h112
              refine ok_ix (enc := (eI .i64)) h128 rfl rfl rfl rfl rfl rfl ?_
              refine ok_v (.d (.int .i64 v127)) rfl rfl ?_
              refine ok_v (.d (.bool (v125.Hi == v127))) rfl rfl ?_
              refine ok_v (.d (.bool (v125.Hi == v127))) rfl rfl ?_
              refine ok_nil ?_
              obtain rfl := someE h112
              exact ⟨_, _, _, _, _, _, _, _, _, _, _, _, rfl⟩
            · refine ok_sg rfl ?_
              refine ok_sg rfl ?_
              refine ok_sg rfl ?_
              refine ok_sg rfl ?_
              refine ok_sg rfl ?_
              refine ok_sg rfl ?_
              refine ok_sg rfl ?_
              refine ok_sg rfl ?_
              refine ok_sg rfl ?_
              refine ok_sg rfl ?_
              refine ok_sg rfl ?_
              refine ok_v (.d (.bool false)) rfl rfl ?_
              refine ok_nil ?_
              obtain rfl := someE h112
              exact ⟨_, _, _, _, _, _, _, _, _, _, _, _, rfl⟩
          · rintro _ ⟨j113, j114, j115, j116, j117, j118, j119, j120, j121, j122, j123, j124, rfl⟩
            refine ok_nil ?_
            refine rk_condH rfl h102 (fun _ h102 => ?_) (fun _ h102 => ?_)
            · refine rk_region ?_
              refine ok_mv rfl rfl ?_
              refine ok_mv rfl rfl ?_
              refine ok_v (.d (.int .i64 (w64 ((a64.2.length : Int) - 1)))) rfl rfl ?_
              refine ok_mv rfl rfl ?_
              refine ok_mv rfl rfl ?_
              refine ok_v (.d (.int .i64 (w64 (a64.1 + 1)))) rfl rfl ?_
              obtain ⟨v129, h130, h102⟩ := bindE h102
              refine ok_ix (enc := (eI .i64)) h130 rfl rfl rfl rfl rfl rfl ?_
              refine ok_v (.d (.int .i64 v129)) rfl rfl ?_
              obtain ⟨v131, h132, h102⟩ := bindE h102
              refine ok_ih h132 rfl rfl rfl rfl rfl rfl rfl ?_
              refine ok_v (.ref 0 2 (w64 ((a64.2.length : Int) - 1)).toNat 1) rfl rfl ?_
              refine ok_sh (ds := [.int .i64 v129]) ({ Lo := v131.Lo, Hi := v129 } : api_Span) h132 rfl rfl rfl rfl rfl rfl rfl rfl (leb rfl) rfl ?_
              refine ok_nil ?_
              refine rk_nil ?_
              obtain rfl := someE h102
              exact ⟨_, rfl, wkE [(0, 0)] [] [] rfl ⟨⟨_, rfl, .d (.refl _)⟩, ⟨_, rfl, .d (.refl _)⟩, ⟨_, rfl, wv_hsL (by simp) rfl (by decide) (ltd rfl)⟩, ⟨_, rfl, .d (.refl _)⟩, trivial⟩ ⟨⟨ltd rfl, .inr ⟨by decide, _, rfl, .dat _ _⟩⟩, trivial⟩⟩
            · refine rk_regionD (by kernel_rfl) ?_
              refine ok_mv rfl rfl ?_
              refine ok_mv rfl rfl ?_
              refine ok_mv rfl rfl ?_
              obtain ⟨v133, h134, h102⟩ := bindE h102
              refine ok_ix (enc := (eI .i64)) h134 rfl rfl rfl rfl rfl rfl ?_
              refine ok_v (.d (.int .i64 v133)) rfl rfl ?_
              refine ok_mv rfl rfl ?_
              refine ok_mv rfl rfl ?_
              refine ok_v (.d (.int .i64 (w64 (a64.1 + 1)))) rfl rfl ?_
              obtain ⟨v135, h136, h102⟩ := bindE h102
              refine ok_ix (enc := (eI .i64)) h136 rfl rfl rfl rfl rfl rfl ?_
              refine ok_v (.d (.int .i64 v135)) rfl rfl ?_
              refine ok_v (.d (.agg [.int .i64 v133, .int .i64 v135])) rfl rfl ?_
              refine ok_new (.hs 1 2 0 [({ Lo := v133, Hi := v135 } : api_Span)].length) (.dat 2 ([({ Lo := v133, Hi := v135 } : api_Span)].map enc_api_Span)) rfl rfl ?_
              obtain ⟨z137, h138, h102⟩ := bindE h102
              refine ok_ap (xs := a64.2) (ys := [({ Lo := v133, Hi := v135 } : api_Span)]) (enc := enc_api_Span) (.hs 1 2 0 [({ Lo := v133, Hi := v135 } : api_Span)].length) h138 rfl rfl rfl rfl rfl rfl rfl (conts_hs rfl rfl) rfl rfl rfl rfl ?_
              refine ok_as rfl rfl ?_
              refine ok_nil ?_
              refine rk_nil ?_
              obtain rfl := someE h102
              exact ⟨_, rfl, wkE [(0, 2)] [] [] rfl ⟨⟨_, rfl, .d (.refl _)⟩, ⟨_, rfl, .d (.refl _)⟩, ⟨_, rfl, .hs rfl (by decide) (ltd rfl)⟩, ⟨_, rfl, .d (.refl _)⟩, trivial⟩ ⟨⟨ltd rfl, .inr ⟨by decide, _, rfl, .dat _ _⟩⟩, trivial⟩⟩
      · intro b104 hb
        subst hb
        refine rk_region ?_
        refine ok_mv rfl rfl ?_
        refine ok_v (.d (.int .i64 (w64 (a64.1 + 1)))) rfl rfl ?_
        refine ok_as rfl rfl ?_
        refine ok_nil ?_
        refine rk_nil ?_
        exact ⟨_, (Option.some.inj h63).symm, wkE [(0, 0)] [] [] rfl ⟨⟨_, rfl, .d (.refl _)⟩, ⟨_, rfl, .d (.refl _)⟩, ⟨_, rfl, .hs rfl (by decide) (ltd rfl)⟩, ⟨_, rfl, .d (.refl _)⟩, trivial⟩ ⟨⟨ltd rfl, .inr ⟨by decide, _, rfl, .dat _ _⟩⟩, trivial⟩⟩
    · refine rk_exit ?_
      refine ⟨_, (Option.some.inj h63).symm, fun hm => ?_⟩
      subst hm
      exact ⟨_, rfl, wkE [(0, 0)] [] [] rfl ⟨⟨_, rfl, .hs rfl (by decide) (ltd rfl)⟩, trivial⟩ ⟨⟨ltd rfl, .inr ⟨by decide, _, rfl, .dat _ _⟩⟩, trivial⟩⟩
  · intro b67 hb
    subst hb
    refine rk_seq ?_
    refine rk_region ?_
    refine ok_mv rfl rfl ?_
    refine ok_as rfl rfl ?_
    refine ok_nil ?_
    refine rk_ret ?_
    obtain rfl := someE h0
    exact finD (.inr rfl) (v := .hs 0 2 0 b67.length) rfl (td_hs rfl rfl) (.refl _)

theorem r11_Joined_ok (p0 : Int) (p1 : List api_Span) (p2 : List api_Span) (r : List api_Span) (h0 : r11_Joined p0 p1 p2 = some r) : Pure Try.prog tab 34 [.int .i64 p0, .sl 2 (p1.map enc_api_Span), .sl 2 (p2.map enc_api_Span)] (.sl 2 (r.map enc_api_Span)) := by
  unfold r11_Joined at h0
  refine pure_of_run Try.func34 rfl (by kernel_rfl) (by kernel_rfl) rfl ?_
  refine rk_seq ?_
  refine rk_region ?_
  refine ok_as rfl rfl ?_
  refine ok_nil ?_
  refine rk_seq ?_
  refine rk_region ?_
  refine ok_mv rfl rfl ?_
  refine ok_mv rfl rfl ?_
  obtain ⟨r1, h2, h0⟩ := bindE h0
  refine ok_pc [.d (.sl 2 (p1.map enc_api_Span)), .d (.sl 2 (p2.map enc_api_Span))] (r11_Ends_ok p1 p2 r1 h2) rfl rfl rfl (.inl rfl) ?_
  refine ok_as rfl rfl ?_
  refine ok_nil ?_
  refine rk_seq ?_
  refine rk_region ?_
  refine ok_as rfl rfl ?_
  refine ok_nil ?_
  refine rk_seq ?_
  refine rk_seq ?_
  refine rk_region ?_
  refine ok_as rfl rfl ?_
  refine ok_nil ?_
  obtain ⟨m54, h55, h0⟩ := bindE h0
  refine rk_blockcut (fun b56 => b56 = m54) (fun (b56 : List Bool) => ⟨[(7, .d (.sl 1 (r1.map (eI .i64)))), (8, .hs 0 1 0 b56.length)], [(0, .dat 1 (b56.map eB))], 1⟩) (by simp) ?_ ?_
  · refine rk_loopF (r11_Joined_L1 r1 p1 p2 p0) (fun (a53 : Int × List Bool) => ⟨[(0, .d (.int .i64 p0)), (1, .d (.sl 2 (p1.map enc_api_Span))), (2, .d (.sl 2 (p2.map enc_api_Span))), (7, .d (.sl 1 (r1.map (eI .i64)))), (8, .hs 0 1 0 a53.2.length), (9, .d (.int .i64 a53.1))], [(0, .dat 1 (a53.2.map eB))], 1⟩) (0, []) m54 h55 (wkE [] [] [0] rfl ⟨⟨_, rfl, .d (.refl _)⟩, ⟨_, rfl, .d (.refl _)⟩, ⟨_, rfl, .d (.refl _)⟩, ⟨_, rfl, .d (.refl _)⟩, ⟨_, rfl, .nil (by decide) (ltd rfl)⟩, ⟨_, rfl, .d (.refl _)⟩, trivial⟩ ⟨⟨ltd rfl, .inl ⟨by decide, _, by decide, rfl⟩⟩, trivial⟩) ?_
    intro a53 y51 h52
    unfold r11_Joined_L1 at h52
    refine rk_seq ?_
    refine rk_seq ?_
    refine rk_region ?_
    refine ok_mv rfl rfl ?_
    refine ok_mv rfl rfl ?_
    refine ok_ln rfl rfl rfl rfl ?_
    refine ok_v (.d (.bool (decide (a53.1 < (r1.length : Int))))) rfl rfl ?_
    refine ok_nil ?_
    refine rk_condH rfl h52 (fun _ h52 => ?_) (fun _ h52 => ?_)
    · refine rk_skip ?_
      refine rk_seq ?_
      refine rk_block ?_
      refine rk_regionD (by kernel_rfl) ?_
      refine ok_mv rfl rfl ?_
      refine ok_mv rfl rfl ?_
      refine ok_mv rfl rfl ?_
      refine ok_mv rfl rfl ?_
      refine ok_mv rfl rfl ?_
      obtain ⟨v69, h70, h52⟩ := bindE h52
      refine ok_ix (enc := (eI .i64)) h70 rfl rfl rfl rfl rfl rfl ?_
      refine ok_v (.d (.int .i64 v69)) rfl rfl ?_
      obtain ⟨r71, h72, h52⟩ := bindE h52
      refine ok_pc [.d (.sl 2 (p1.map enc_api_Span)), .d (.int .i64 v69)] (r11_Has_ok p1 v69 r71 h72) rfl rfl rfl (.inl rfl) ?_
      refine ok_mv rfl rfl ?_
      refine ok_mv rfl rfl ?_
      refine ok_mv rfl rfl ?_
      obtain ⟨v73, h74, h52⟩ := bindE h52
      refine ok_ix (enc := (eI .i64)) h74 rfl rfl rfl rfl rfl rfl ?_
      refine ok_v (.d (.int .i64 v73)) rfl rfl ?_
      obtain ⟨r75, h76, h52⟩ := bindE h52
      refine ok_pc [.d (.sl 2 (p2.map enc_api_Span)), .d (.int .i64 v73)] (r11_Has_ok p2 v73 r75 h76) rfl rfl rfl (.inl rfl) ?_
      obtain ⟨r77, h78, h52⟩ := bindE h52
      refine ok_pc [.d (.int .i64 p0), .d (.bool r71), .d (.bool r75)] (r11_Holds_ok p0 r71 r75 r77 h78) rfl rfl rfl (.inl rfl) ?_
      refine ok_new (.hs 1 1 0 [r77].length) (.dat 1 ([r77].map eB)) rfl rfl ?_
      obtain ⟨z79, h80, h52⟩ := bindE h52
      refine ok_ap (xs := a53.2) (ys := [r77]) (enc := eB) (.hs 1 1 0 [r77].length) h80 rfl rfl rfl rfl rfl rfl rfl (conts_hs rfl rfl) rfl rfl rfl rfl ?_
      refine ok_as rfl rfl ?_
      refine ok_nil ?_
      refine rk_nil ?_
      refine blk_nor ?_
      refine rk_region ?_
      refine ok_mv rfl rfl ?_
      refine ok_v (.d (.int .i64 (w64 (a53.1 + 1)))) rfl rfl ?_
      refine ok_as rfl rfl ?_
      refine ok_nil ?_
      refine rk_nil ?_
      exact ⟨_, (Option.some.inj h52).symm, wkE [(0, 2)] [] [] rfl ⟨⟨_, rfl, .d (.refl _)⟩, ⟨_, rfl, .d (.refl _)⟩, ⟨_, rfl, .d (.refl _)⟩, ⟨_, rfl, .d (.refl _)⟩, ⟨_, rfl, .hs rfl (by decide) (ltd rfl)⟩, ⟨_, rfl, .d (.refl _)⟩, trivial⟩ ⟨⟨ltd rfl, .inr ⟨by decide, _, rfl, .dat _ _⟩⟩, trivial⟩⟩
    · refine rk_exit ?_
      refine ⟨_, (Option.some.inj h52).symm, fun hm => ?_⟩
      subst hm
      exact ⟨_, rfl, wkE [(0, 0)] [] [] rfl ⟨⟨_, rfl, .d (.refl _)⟩, ⟨_, rfl, .hs rfl (by decide) (ltd rfl)⟩, trivial⟩ ⟨⟨ltd rfl, .inr ⟨by decide, _, rfl, .dat _ _⟩⟩, trivial⟩⟩
  · intro b56 hb
    subst hb
    refine rk_seq ?_
    refine rk_wk (st' := ⟨[(7, .d (.sl 1 (r1.map (eI .i64)))), (8, .d (.sl 1 (b56.map eB)))], [], 0⟩) (wkE [] [0] [] rfl ⟨⟨_, rfl, .d (.refl _)⟩, ⟨_, rfl, wv_frz rfl rfl (by decide)⟩, trivial⟩ trivial) ?_ (by simp)
    refine rk_region ?_
    refine ok_mv rfl rfl ?_
    refine ok_mv rfl rfl ?_
    obtain ⟨r81, h82, h0⟩ := bindE h0
    refine ok_pc [.d (.sl 1 (r1.map (eI .i64))), .d (.sl 1 (b56.map eB))] (r11_Canon_ok r1 b56 r81 h82) rfl rfl rfl (.inl rfl) ?_
    refine ok_as rfl rfl ?_
    refine ok_nil ?_
    refine rk_ret ?_
    obtain rfl := someE h0
    exact finD (.inr rfl) (v := .d (.sl 2 (r81.map enc_api_Span))) rfl rfl (.refl _)

theorem r11_Gaps_ok (p0 : List api_Span) (r : List api_Span × Int) (h0 : r11_Gaps p0 = some r) : Pure Try.prog tab 12 [.sl 2 (p0.map enc_api_Span)] (.tup [.sl 2 (r.1.map enc_api_Span), .int .i64 r.2]) := by
  unfold r11_Gaps at h0
  refine pure_of_run Try.func12 rfl (by kernel_rfl) (by kernel_rfl) rfl ?_
  refine rk_seq ?_
  refine rk_region ?_
  refine ok_as rfl rfl ?_
  refine ok_as rfl rfl ?_
  refine ok_nil ?_
  refine rk_seq ?_
  refine rk_seq ?_
  refine rk_region ?_
  refine ok_mv rfl rfl ?_
  obtain ⟨r1, h2, h0⟩ := bindE h0
  refine ok_pc [.d (.sl 2 (p0.map enc_api_Span))] (r11_Check_ok p0 r1 h2) rfl rfl rfl (.inl rfl) ?_
  refine ok_v (.d (.bool (r1 != 0))) rfl rfl ?_
  refine ok_nil ?_
  refine rk_condH rfl h0 (fun _ h0 => ?_) (fun _ h0 => ?_)
  · refine rk_seq ?_
    refine rk_region ?_
    refine ok_mv rfl rfl ?_
    obtain ⟨r5, h6, h0⟩ := bindE h0
    refine ok_pc [.d (.sl 2 (p0.map enc_api_Span))] (r11_Check_ok p0 r5 h6) rfl rfl rfl (.inl rfl) ?_
    refine ok_as rfl rfl ?_
    refine ok_as rfl rfl ?_
    refine ok_nil ?_
    refine rk_ret ?_
    obtain rfl := someE h0
    exact finD (.inr rfl) (v := .d (.tup [.nilsl, .int .i64 r5])) rfl rfl (dle_tup (.cons (.nil _) (.cons (.refl _) .nil)))
  · refine rk_skip ?_
    refine rk_seq ?_
    refine rk_seq ?_
    refine rk_region ?_
    refine ok_mv rfl rfl ?_
    refine ok_ln rfl rfl rfl rfl ?_
    refine ok_v (.d (.bool ((p0.length : Int) == 0))) rfl rfl ?_
    refine ok_nil ?_
    refine rk_condH rfl h0 (fun _ h0 => ?_) (fun _ h0 => ?_)
    · refine rk_seq ?_
      refine rk_region ?_
      refine ok_as rfl rfl ?_
      refine ok_as rfl rfl ?_
      refine ok_nil ?_
      refine rk_ret ?_
      obtain rfl := someE h0
      exact finD (.inr rfl) (v := .d (.tup [.nilsl, .int .i64 0])) rfl rfl (dle_tup (.cons (.nil _) (.cons (.refl _) .nil)))
    · refine rk_skip ?_
      refine rk_seq ?_
      refine rk_regionD (by kernel_rfl) ?_
      refine ok_mv rfl rfl ?_
      obtain ⟨v7, h8, h0⟩ := bindE h0
      refine ok_ix (enc := enc_api_Span) h8 rfl rfl rfl rfl rfl rfl ?_
      refine ok_v (.dref [.int .i64 v7.Lo, .int .i64 v7.Hi] 0) rfl rfl ?_
      refine ok_v (.d (.int .i64 v7.Lo)) rfl rfl ?_
      refine ok_mv rfl rfl ?_
      refine ok_mv rfl rfl ?_
      refine ok_ln rfl rfl rfl rfl ?_
      refine ok_v (.d (.int .i64 (w64 ((p0.length : Int) - 1)))) rfl rfl ?_
      obtain ⟨v9, h10, h0⟩ := bindE h0
      refine ok_ix (enc := enc_api_Span) h10 rfl rfl rfl rfl rfl rfl ?_
      refine ok_v (.dref [.int .i64 v9.Lo, .int .i64 v9.Hi] 1) rfl rfl ?_
      refine ok_v (.d (.int .i64 v9.Hi)) rfl rfl ?_
      refine ok_v (.d (.agg [.int .i64 v7.Lo, .int .i64 v9.Hi])) rfl rfl ?_
      refine ok_fzn (es := 2) ([({ Lo := v7.Lo, Hi := v9.Hi } : api_Span)].map enc_api_Span) rfl rfl rfl rfl rfl ?_
      refine ok_mv rfl rfl ?_
      obtain ⟨r11, h12, h0⟩ := bindE h0
      refine ok_pc [.d (.int .i64 3), .d (.sl 2 ([({ Lo := v7.Lo, Hi := v9.Hi } : api_Span)].map enc_api_Span)), .d (.sl 2 (p0.map enc_api_Span))] (r11_Joined_ok 3 [({ Lo := v7.Lo, Hi := v9.Hi } : api_Span)] p0 r11 h12) rfl rfl rfl (.inl rfl) ?_
      refine ok_as rfl rfl ?_
      refine ok_as rfl rfl ?_
      refine ok_nil ?_
      refine rk_ret ?_
      obtain rfl := someE h0
      exact finD (.inr rfl) (v := .d (.tup [.sl 2 (r11.map enc_api_Span), .int .i64 0])) rfl rfl (.refl _)

theorem span_Move_ok (p0 : List api_Span) (p1 : Int) (r : List api_Span × Int) (h0 : span_Move p0 p1 = some r) : Pure Try.prog tab 13 [.sl 2 (p0.map enc_api_Span), .int .i64 p1] (.tup [.sl 2 (r.1.map enc_api_Span), .int .i64 r.2]) := by
  unfold span_Move at h0
  refine pure_of_run Try.func13 rfl (by kernel_rfl) (by kernel_rfl) rfl ?_
  refine rk_seq ?_
  refine rk_region ?_
  refine ok_as rfl rfl ?_
  refine ok_as rfl rfl ?_
  refine ok_nil ?_
  refine rk_seq ?_
  refine rk_seq ?_
  refine rk_region ?_
  refine ok_mv rfl rfl ?_
  obtain ⟨r1, h2, h0⟩ := bindE h0
  refine ok_pc [.d (.sl 2 (p0.map enc_api_Span))] (span_Check_ok p0 r1 h2) rfl rfl rfl (.inl rfl) ?_
  refine ok_as rfl rfl ?_
  refine ok_nil ?_
  refine rk_seq ?_
  refine rk_region ?_
  refine ok_mv rfl rfl ?_
  refine ok_v (.d (.bool (r1 != 0))) rfl rfl ?_
  refine ok_nil ?_
  refine rk_condH rfl h0 (fun _ h0 => ?_) (fun _ h0 => ?_)
  · refine rk_seq ?_
    refine rk_region ?_
    refine ok_mv rfl rfl ?_
    refine ok_as rfl rfl ?_
    refine ok_as rfl rfl ?_
    refine ok_nil ?_
    refine rk_ret ?_
    obtain rfl := someE h0
    exact finD (.inr rfl) (v := .d (.tup [.nilsl, .int .i64 r1])) rfl rfl (dle_tup (.cons (.nil _) (.cons (.refl _) .nil)))
  · refine rk_skip ?_
    refine rk_seq ?_
    refine rk_seq ?_
    refine rk_region ?_
    refine ok_mv rfl rfl ?_
    refine ok_ln rfl rfl rfl rfl ?_
    refine ok_v (.d (.bool (decide ((p0.length : Int) > 0)))) rfl rfl ?_
    obtain ⟨c8, h9, h0⟩ := bindE h0
    refine ok_cutQ 8 (fun A st => ∃ (j10 j11 j12 j13 j14 j15 j16 : V), st = A [(25, .d (.bool c8)), (24, j16), (23, j15), (22, j14), (21, j13), (20, j12), (19, j11), (18, j10)]) ?_ ?_
    · refine ok_mvB rfl rfl h9 (fun h9 => ?_) (fun h9 => ?_)
      · refine ok_mv rfl rfl ?_
        refine ok_v (.d (.bool (decide (p1 > 2000000)))) rfl rfl ?_
        obtain ⟨c17, h18, h9⟩ := bindE h9
        refine ok_cutQ 4 (fun A st => ∃ (j19 j20 j21 : V), st = A [(24, .d (.bool c17)), (23, j21), (22, j20), (21, j19)]) ?_ ?_
        · refine ok_mvB rfl rfl h18 (fun h18 => ?_) (fun h18 => ?_)
          · refine ok_sg rfl ?_
            refine ok_sg rfl ?_
            refine ok_v (.d (.bool true)) rfl rfl ?_
            refine ok_nil ?_
            obtain rfl := someE h18
            exact ⟨_, _, _, rfl⟩
          · refine ok_mv rfl rfl ?_
            refine ok_v (.d (.bool (decide (p1 < (-2000000))))) rfl rfl ?_
            refine ok_v (.d (.bool (decide (p1 < (-2000000))))) rfl rfl ?_
            refine ok_nil ?_
            obtain rfl := someE h18
            exact ⟨_, _, _, rfl⟩
        · rintro _ ⟨j19, j20, j21, rfl⟩
          refine ok_v (.d (.bool c17)) rfl rfl ?_
          refine ok_nil ?_
          obtain rfl := someE h9
          exact ⟨_, _, _, _, _, _, _, rfl⟩
      · refine ok_sg rfl ?_
        refine ok_sg rfl ?_
        refine ok_sg rfl ?_
        refine ok_sg rfl ?_
        refine ok_sg rfl ?_
        refine ok_sg rfl ?_
        refine ok_v (.d (.bool false)) rfl rfl ?_
        refine ok_nil ?_
        obtain rfl := someE h9
        exact ⟨_, _, _, _, _, _, _, rfl⟩
    · rintro _ ⟨j10, j11, j12, j13, j14, j15, j16, rfl⟩
      refine ok_nil ?_
      refine rk_condH rfl h0 (fun _ h0 => ?_) (fun _ h0 => ?_)
      · refine rk_seq ?_
        refine rk_region ?_
        refine ok_as rfl rfl ?_
        refine ok_as rfl rfl ?_
        refine ok_nil ?_
        refine rk_ret ?_
        obtain rfl := someE h0
        exact finD (.inr rfl) (v := .d (.tup [.nilsl, .int .i64 16])) rfl rfl (dle_tup (.cons (.nil _) (.cons (.refl _) .nil)))
      · refine rk_skip ?_
        refine rk_seq ?_
        refine rk_region ?_
        refine ok_as rfl rfl ?_
        refine ok_nil ?_
        refine rk_seq ?_
        refine rk_seq ?_
        refine rk_region ?_
        refine ok_mv rfl rfl ?_
        refine ok_ln rfl rfl rfl rfl ?_
        refine ok_mv rfl rfl ?_
        refine ok_nil ?_
        obtain ⟨m49, h50, h0⟩ := bindE h0
        refine rk_blockcut (fun b51 => .inl b51 = m49) (fun (b51 : List api_Span) => ⟨[(7, .hs 0 2 0 b51.length)], [(0, .dat 2 (b51.map enc_api_Span))], 1⟩) (by simp) ?_ ?_
        · refine rk_loopF (span_Move_L1 p0 p1) (fun (a48 : Int × List api_Span) => ⟨[(1, .d (.int .i64 p1)), (7, .hs 0 2 0 a48.2.length), (26, .d (.sl 2 (p0.map enc_api_Span))), (27, .d (.int .i64 (p0.length : Int))), (28, .d (.int .i64 a48.1))], [(0, .dat 2 (a48.2.map enc_api_Span))], 1⟩) (0, []) m49 h50 (wkE [] [] [0] rfl ⟨⟨_, rfl, .d (.refl _)⟩, ⟨_, rfl, .nil (by decide) (ltd rfl)⟩, ⟨_, rfl, .d (.refl _)⟩, ⟨_, rfl, .d (.refl _)⟩, ⟨_, rfl, .d (.refl _)⟩, trivial⟩ ⟨⟨ltd rfl, .inl ⟨by decide, _, by decide, rfl⟩⟩, trivial⟩) ?_
          intro a48 y46 h47
          unfold span_Move_L1 at h47
          refine rk_seq ?_
          refine rk_region ?_
          refine ok_v (.d (.bool (decide (a48.1 < (p0.length : Int))))) rfl rfl ?_
          refine ok_nil ?_
          refine rk_seq ?_
          refine rk_condH rfl h47 (fun _ h47 => ?_) (fun _ h47 => ?_)
          · refine rk_skip ?_
            refine rk_seq ?_
            refine rk_block ?_
            refine rk_seq ?_
            refine rk_region ?_
            obtain ⟨v58, h59, h47⟩ := bindE h47
            refine ok_ix (enc := enc_api_Span) h59 rfl rfl rfl rfl rfl rfl ?_
            refine ok_v (.d (.agg [.int .i64 v58.Lo, .int .i64 v58.Hi])) rfl rfl ?_
            refine ok_alloc rfl rfl ?_
            refine ok_sto 1 (.dat 2 [[.int .i64 v58.Lo, .int .i64 v58.Hi]]) rfl rfl ?_
            refine ok_nil ?_
            refine rk_seq ?_
            refine rk_region ?_
            refine ok_v (.ref 1 2 0 0) rfl rfl ?_
            refine ok_v (.d (.int .i64 v58.Lo)) rfl rfl ?_
            refine ok_mv rfl rfl ?_
            refine ok_v (.d (.int .i64 (w64 (v58.Lo + p1)))) rfl rfl ?_
            refine ok_v (.ref 1 2 0 0) rfl rfl ?_
            refine ok_sto 1 (.dat 2 [[.int .i64 (w64 (v58.Lo + p1)), .int .i64 v58.Hi]]) rfl rfl ?_
            refine ok_nil ?_
            refine rk_seq ?_
            refine rk_region ?_
            refine ok_v (.ref 1 2 0 1) rfl rfl ?_
            refine ok_v (.d (.int .i64 v58.Hi)) rfl rfl ?_
            refine ok_mv rfl rfl ?_
            refine ok_v (.d (.int .i64 (w64 (v58.Hi + p1)))) rfl rfl ?_
            refine ok_v (.ref 1 2 0 1) rfl rfl ?_
            refine ok_sto 1 (.dat 2 [[.int .i64 (w64 (v58.Lo + p1)), .int .i64 (w64 (v58.Hi + p1))]]) rfl rfl ?_
            refine ok_nil ?_
            refine rk_seq ?_
            refine rk_seq ?_
            refine rk_region ?_
            refine ok_v (.d (.agg [.int .i64 (w64 (v58.Lo + p1)), .int .i64 (w64 (v58.Hi + p1))])) rfl rfl ?_
            obtain ⟨r60, h61, h47⟩ := bindE h47
            refine ok_pc [.d (.agg [.int .i64 (w64 (v58.Lo + p1)), .int .i64 (w64 (v58.Hi + p1))])] (span_valid_ok ({ Lo := w64 (v58.Lo + p1), Hi := w64 (v58.Hi + p1) } : api_Span) r60 h61) rfl rfl rfl (.inl rfl) ?_
            refine ok_v (.d (.bool (!r60))) rfl rfl ?_
            refine ok_nil ?_
            refine rk_condH rfl h47 (fun _ h47 => ?_) (fun _ h47 => ?_)
            · refine rk_seq ?_
              refine rk_region ?_
              refine ok_as rfl rfl ?_
              refine ok_as rfl rfl ?_
              refine ok_nil ?_
              refine rk_ret ?_
              refine ⟨_, (Option.some.inj h47).symm, fun hm => ?_⟩
              subst hm
              obtain rfl := someE h0
              exact finD (.inr rfl) (v := .d (.tup [.nilsl, .int .i64 16])) rfl rfl (dle_tup (.cons (.nil _) (.cons (.refl _) .nil)))
            · refine rk_skip ?_
              refine rk_region ?_
              refine ok_mv rfl rfl ?_
              refine ok_v (.d (.agg [.int .i64 (w64 (v58.Lo + p1)), .int .i64 (w64 (v58.Hi + p1))])) rfl rfl ?_
              refine ok_new (.hs 2 2 0 [({ Lo := w64 (v58.Lo + p1), Hi := w64 (v58.Hi + p1) } : api_Span)].length) (.dat 2 ([({ Lo := w64 (v58.Lo + p1), Hi := w64 (v58.Hi + p1) } : api_Span)].map enc_api_Span)) rfl rfl ?_
              obtain ⟨z62, h63, h47⟩ := bindE h47
              refine ok_ap (xs := a48.2) (ys := [({ Lo := w64 (v58.Lo + p1), Hi := w64 (v58.Hi + p1) } : api_Span)]) (enc := enc_api_Span) (.hs 2 2 0 [({ Lo := w64 (v58.Lo + p1), Hi := w64 (v58.Hi + p1) } : api_Span)].length) h63 rfl rfl rfl rfl rfl rfl rfl (conts_hs rfl rfl) rfl rfl rfl rfl ?_
              refine ok_as rfl rfl ?_
              refine ok_nil ?_
              refine rk_nil ?_
              refine blk_nor ?_
              refine rk_region ?_
              refine ok_v (.d (.int .i64 (w64 (a48.1 + 1)))) rfl rfl ?_
              refine ok_mv rfl rfl ?_
              refine ok_nil ?_
              refine rk_nil ?_
              exact ⟨_, (Option.some.inj h47).symm, wkE [(0, 3)] [] [] rfl ⟨⟨_, rfl, .d (.refl _)⟩, ⟨_, rfl, .hs rfl (by decide) (ltd rfl)⟩, ⟨_, rfl, .d (.refl _)⟩, ⟨_, rfl, .d (.refl _)⟩, ⟨_, rfl, .d (.refl _)⟩, trivial⟩ ⟨⟨ltd rfl, .inr ⟨by decide, _, rfl, .dat _ _⟩⟩, trivial⟩⟩
          · refine rk_exit ?_
            refine ⟨_, (Option.some.inj h47).symm, fun hm => ?_⟩
            subst hm
            exact ⟨_, rfl, wkE [(0, 0)] [] [] rfl ⟨⟨_, rfl, .hs rfl (by decide) (ltd rfl)⟩, trivial⟩ ⟨⟨ltd rfl, .inr ⟨by decide, _, rfl, .dat _ _⟩⟩, trivial⟩⟩
        · intro b51 hb
          subst hb
          refine rk_seq ?_
          refine rk_region ?_
          refine ok_mv rfl rfl ?_
          refine ok_as rfl rfl ?_
          refine ok_as rfl rfl ?_
          refine ok_nil ?_
          refine rk_ret ?_
          obtain rfl := someE h0
          exact finD (.inr rfl) (v := .tup [.hs 0 2 0 b51.length, .d (.int .i64 0)]) rfl (td_tup (mm_cons (td_hs rfl rfl) (mm_cons rfl rfl))) (.refl _)

theorem r11_Move_ok (p0 : List api_Span) (p1 : Int) (r : List api_Span × Int) (h0 : r11_Move p0 p1 = some r) : Pure Try.prog tab 14 [.sl 2 (p0.map enc_api_Span), .int .i64 p1] (.tup [.sl 2 (r.1.map enc_api_Span), .int .i64 r.2]) := by
  unfold r11_Move at h0
  refine pure_of_run Try.func14 rfl (by kernel_rfl) (by kernel_rfl) rfl ?_
  refine rk_seq ?_
  refine rk_region ?_
  refine ok_as rfl rfl ?_
  refine ok_as rfl rfl ?_
  refine ok_nil ?_
  refine rk_seq ?_
  refine rk_seq ?_
  refine rk_region ?_
  refine ok_mv rfl rfl ?_
  obtain ⟨r1, h2, h0⟩ := bindE h0
  refine ok_pc [.d (.sl 2 (p0.map enc_api_Span))] (r11_Check_ok p0 r1 h2) rfl rfl rfl (.inl rfl) ?_
  refine ok_v (.d (.bool (r1 != 0))) rfl rfl ?_
  refine ok_nil ?_
  refine rk_condH rfl h0 (fun _ h0 => ?_) (fun _ h0 => ?_)
  · refine rk_seq ?_
    refine rk_region ?_
    refine ok_mv rfl rfl ?_
    obtain ⟨r5, h6, h0⟩ := bindE h0
    refine ok_pc [.d (.sl 2 (p0.map enc_api_Span))] (r11_Check_ok p0 r5 h6) rfl rfl rfl (.inl rfl) ?_
    refine ok_as rfl rfl ?_
    refine ok_as rfl rfl ?_
    refine ok_nil ?_
    refine rk_ret ?_
    obtain rfl := someE h0
    exact finD (.inr rfl) (v := .d (.tup [.nilsl, .int .i64 r5])) rfl rfl (dle_tup (.cons (.nil _) (.cons (.refl _) .nil)))
  · refine rk_skip ?_
    refine rk_seq ?_
    refine rk_region ?_
    refine ok_as rfl rfl ?_
    refine ok_nil ?_
    refine rk_seq ?_
    refine rk_seq ?_
    refine rk_region ?_
    refine ok_as rfl rfl ?_
    refine ok_nil ?_
    obtain ⟨m182, h183, h0⟩ := bindE h0
    refine rk_blockcut (fun b184 => .inl b184 = m182) (fun (b184 : List api_Span) => ⟨[(6, .hs 0 2 0 b184.length)], [(0, .dat 2 (b184.map enc_api_Span))], 1⟩) (by simp) ?_ ?_
    · refine rk_loopF (r11_Move_L1 p0 p1) (fun (a181 : Int × List api_Span) => ⟨[(0, .d (.sl 2 (p0.map enc_api_Span))), (1, .d (.int .i64 p1)), (6, .hs 0 2 0 a181.2.length), (7, .d (.int .i64 a181.1))], [(0, .dat 2 (a181.2.map enc_api_Span))], 1⟩) (0, []) m182 h183 (wkE [] [] [0] rfl ⟨⟨_, rfl, .d (.refl _)⟩, ⟨_, rfl, .d (.refl _)⟩, ⟨_, rfl, .nil (by decide) (ltd rfl)⟩, ⟨_, rfl, .d (.refl _)⟩, trivial⟩ ⟨⟨ltd rfl, .inl ⟨by decide, _, by decide, rfl⟩⟩, trivial⟩) ?_
      intro a181 y179 h180
      unfold r11_Move_L1 at h180
      refine rk_seq ?_
      refine rk_seq ?_
      refine rk_region ?_
      refine ok_mv rfl rfl ?_
      refine ok_mv rfl rfl ?_
      refine ok_ln rfl rfl rfl rfl ?_
      refine ok_v (.d (.bool (decide (a181.1 < (p0.length : Int))))) rfl rfl ?_
      refine ok_nil ?_
      refine rk_condH rfl h180 (fun _ h180 => ?_) (fun _ h180 => ?_)
      · refine rk_skip ?_
        refine rk_seq ?_
        refine rk_block ?_
        refine rk_seq ?_
        refine rk_seq ?_
        refine rk_regionD (by kernel_rfl) ?_
        refine ok_mv rfl rfl ?_
        refine ok_v (.d (.bool (decide (p1 > 2000000)))) rfl rfl ?_
        obtain ⟨c228, h229, h180⟩ := bindE h180
        refine ok_cutQ 4 (fun A st => ∃ (j230 j231 j232 : V), st = A [(24, .d (.bool c228)), (23, j232), (22, j231), (21, j230)]) ?_ ?_
        · refine ok_mvB rfl rfl h229 (fun h229 => ?_) (fun h229 => ?_)
          · refine ok_sg rfl ?_
            refine ok_sg rfl ?_
            refine ok_v (.d (.bool true)) rfl rfl ?_
            refine ok_nil ?_
            obtain rfl := someE h229
            exact ⟨_, _, _, rfl⟩
          · refine ok_mv rfl rfl ?_
            refine ok_v (.d (.bool (decide (p1 < (-2000000))))) rfl rfl ?_
            refine ok_v (.d (.bool (decide (p1 < (-2000000))))) rfl rfl ?_
            refine ok_nil ?_
            obtain rfl := someE h229
            exact ⟨_, _, _, rfl⟩
        · rintro _ ⟨j230, j231, j232, rfl⟩
          obtain ⟨c239, h240, h180⟩ := bindE h180
          refine ok_cutQ 19 (fun A st => ∃ (j241 j242 j243 j244 j245 j246 j247 j248 j249 j250 j251 j252 j253 j254 j255 j256 j257 j258 : V), st = A [(43, .d (.bool c239)), (42, j258), (41, j257), (40, j256), (39, j255), (38, j254), (37, j253), (36, j252), (35, j251), (34, j250), (33, j249), (32, j248), (31, j247), (30, j246), (29, j245), (28, j244), (27, j243), (26, j242), (25, j241)]) ?_ ?_
          · refine ok_mvB rfl rfl h240 (fun h240 => ?_) (fun h240 => ?_)
            · refine ok_sg rfl ?_
              refine ok_sg rfl ?_
              refine ok_sg rfl ?_
              refine ok_sg rfl ?_
              refine ok_sg rfl ?_
              refine ok_sg rfl ?_
              refine ok_sg rfl ?_
              refine ok_sg rfl ?_
              refine ok_sg rfl ?_
              refine ok_sg rfl ?_
              refine ok_sg rfl ?_
              refine ok_sg rfl ?_
              refine ok_sg rfl ?_
              refine ok_sg rfl ?_
              refine ok_sg rfl ?_
              refine ok_sg rfl ?_
              refine ok_sg rfl ?_
              refine ok_v (.d (.bool true)) rfl rfl ?_
              refine ok_nil ?_
              obtain rfl := someE h240
              exact ⟨_, _, _, _, _, _, _, _, _, _, _, _, _, _, _, _, _, _, rfl⟩
            · refine ok_mv rfl rfl ?_
              refine ok_mv rfl rfl ?_
              obtain ⟨v259, h260, h240⟩ := bindE h240
              refine ok_ix (enc := enc_api_Span) h260 rfl rfl rfl rfl rfl rfl ?_
              refine ok_v (.dref [.int .i64 v259.Lo, .int .i64 v259.Hi] 0) rfl rfl ?_
              refine ok_v (.d (.int .i64 v259.Lo)) rfl rfl ?_
              refine ok_mv rfl rfl ?_
              refine ok_v (.d (.int .i64 (w64 (v259.Lo + p1)))) rfl rfl ?_
              refine ok_mv rfl rfl ?_
              refine ok_mv rfl rfl ?_
              obtain ⟨v261, h262, h240⟩ := bindE h240
              refine ok_ix (enc := enc_api_Span) h262 rfl rfl rfl rfl rfl rfl ?_
              refine ok_v (.dref [.int .i64 v261.Lo, .int .i64 v261.Hi] 1) rfl rfl ?_
              refine ok_v (.d (.int .i64 v261.Hi)) rfl rfl ?_
              refine ok_mv rfl rfl ?_
              refine ok_v (.d (.int .i64 (w64 (v261.Hi + p1)))) rfl rfl ?_
              refine ok_v (.d (.agg [.int .i64 (w64 (v259.Lo + p1)), .int .i64 (w64 (v261.Hi + p1))])) rfl rfl ?_
              obtain ⟨r263, h264, h240⟩ := bindE h240
              refine ok_pc [.d (.agg [.int .i64 (w64 (v259.Lo + p1)), .int .i64 (w64 (v261.Hi + p1))])] (r11_Valid_ok ({ Lo := w64 (v259.Lo + p1), Hi := w64 (v261.Hi + p1) } : api_Span) r263 h264) rfl rfl rfl (.inl rfl) ?_
              refine ok_v (.d (.bool (!r263))) rfl rfl ?_
              refine ok_v (.d (.bool (!r263))) rfl rfl ?_
              refine ok_nil ?_
              obtain rfl := someE h240
              exact ⟨_, _, _, _, _, _, _, _, _, _, _, _, _, _, _, _, _, _, rfl⟩
          · rintro _ ⟨j241, j242, j243, j244, j245, j246, j247, j248, j249, j250, j251, j252, j253, j254, j255, j256, j257, j258, rfl⟩
            refine ok_nil ?_
            refine rk_condH rfl h180 (fun _ h180 => ?_) (fun _ h180 => ?_)
            · refine rk_seq ?_
              refine rk_region ?_
              refine ok_as rfl rfl ?_
              refine ok_as rfl rfl ?_
              refine ok_nil ?_
              refine rk_ret ?_
              refine ⟨_, (Option.some.inj h180).symm, fun hm => ?_⟩
              subst hm
              obtain rfl := someE h0
              exact finD (.inr rfl) (v := .d (.tup [.nilsl, .int .i64 16])) rfl rfl (dle_tup (.cons (.nil _) (.cons (.refl _) .nil)))
            · refine rk_skip ?_
              refine rk_regionD (by kernel_rfl) ?_
              refine ok_mv rfl rfl ?_
              refine ok_mv rfl rfl ?_
              refine ok_mv rfl rfl ?_
              obtain ⟨v265, h266, h180⟩ := bindE h180
              refine ok_ix (enc := enc_api_Span) h266 rfl rfl rfl rfl rfl rfl ?_
              refine ok_v (.dref [.int .i64 v265.Lo, .int .i64 v265.Hi] 0) rfl rfl ?_
              refine ok_v (.d (.int .i64 v265.Lo)) rfl rfl ?_
              refine ok_mv rfl rfl ?_
              refine ok_v (.d (.int .i64 (w64 (v265.Lo + p1)))) rfl rfl ?_
              refine ok_mv rfl rfl ?_
              refine ok_mv rfl rfl ?_
              obtain ⟨v267, h268, h180⟩ := bindE h180
              refine ok_ix (enc := enc_api_Span) h268 rfl rfl rfl rfl rfl rfl ?_
              refine ok_v (.dref [.int .i64 v267.Lo, .int .i64 v267.Hi] 1) rfl rfl ?_
              refine ok_v (.d (.int .i64 v267.Hi)) rfl rfl ?_
              refine ok_mv rfl rfl ?_
              refine ok_v (.d (.int .i64 (w64 (v267.Hi + p1)))) rfl rfl ?_
              refine ok_v (.d (.agg [.int .i64 (w64 (v265.Lo + p1)), .int .i64 (w64 (v267.Hi + p1))])) rfl rfl ?_
              refine ok_new (.hs 1 2 0 [({ Lo := w64 (v265.Lo + p1), Hi := w64 (v267.Hi + p1) } : api_Span)].length) (.dat 2 ([({ Lo := w64 (v265.Lo + p1), Hi := w64 (v267.Hi + p1) } : api_Span)].map enc_api_Span)) rfl rfl ?_
              obtain ⟨z269, h270, h180⟩ := bindE h180
              refine ok_ap (xs := a181.2) (ys := [({ Lo := w64 (v265.Lo + p1), Hi := w64 (v267.Hi + p1) } : api_Span)]) (enc := enc_api_Span) (.hs 1 2 0 [({ Lo := w64 (v265.Lo + p1), Hi := w64 (v267.Hi + p1) } : api_Span)].length) h270 rfl rfl rfl rfl rfl rfl rfl (conts_hs rfl rfl) rfl rfl rfl rfl ?_
              refine ok_as rfl rfl ?_
              refine ok_nil ?_
              refine rk_nil ?_
              refine blk_nor ?_
              refine rk_region ?_
              refine ok_mv rfl rfl ?_
              refine ok_v (.d (.int .i64 (w64 (a181.1 + 1)))) rfl rfl ?_
              refine ok_as rfl rfl ?_
              refine ok_nil ?_
              refine rk_nil ?_
              exact ⟨_, (Option.some.inj h180).symm, wkE [(0, 2)] [] [] rfl ⟨⟨_, rfl, .d (.refl _)⟩, ⟨_, rfl, .d (.refl _)⟩, ⟨_, rfl, .hs rfl (by decide) (ltd rfl)⟩, ⟨_, rfl, .d (.refl _)⟩, trivial⟩ ⟨⟨ltd rfl, .inr ⟨by decide, _, rfl, .dat _ _⟩⟩, trivial⟩⟩
      · refine rk_exit ?_
        refine ⟨_, (Option.some.inj h180).symm, fun hm => ?_⟩
        subst hm
        exact ⟨_, rfl, wkE [(0, 0)] [] [] rfl ⟨⟨_, rfl, .hs rfl (by decide) (ltd rfl)⟩, trivial⟩ ⟨⟨ltd rfl, .inr ⟨by decide, _, rfl, .dat _ _⟩⟩, trivial⟩⟩
    · intro b184 hb
      subst hb
      refine rk_seq ?_
      refine rk_region ?_
      refine ok_mv rfl rfl ?_
      refine ok_as rfl rfl ?_
      refine ok_as rfl rfl ?_
      refine ok_nil ?_
      refine rk_ret ?_
      obtain rfl := someE h0
      exact finD (.inr rfl) (v := .tup [.hs 0 2 0 b184.length, .d (.int .i64 0)]) rfl (td_tup (mm_cons (td_hs rfl rfl) (mm_cons rfl rfl))) (.refl _)

theorem span_Near_ok (p0 : List api_Span) (p1 : Int) (r : Int × Int) (h0 : span_Near p0 p1 = some r) : Pure Try.prog tab 15 [.sl 2 (p0.map enc_api_Span), .int .i64 p1] (.tup [.int .i64 r.1, .int .i64 r.2]) := by
  unfold span_Near at h0
  refine pure_of_run Try.func15 rfl (by kernel_rfl) (by kernel_rfl) rfl ?_
  refine rk_seq ?_
  refine rk_region ?_
  refine ok_as rfl rfl ?_
  refine ok_as rfl rfl ?_
  refine ok_nil ?_
  refine rk_seq ?_
  refine rk_seq ?_
  refine rk_region ?_
  refine ok_mv rfl rfl ?_
  obtain ⟨r1, h2, h0⟩ := bindE h0
  refine ok_pc [.d (.sl 2 (p0.map enc_api_Span))] (span_Check_ok p0 r1 h2) rfl rfl rfl (.inl rfl) ?_
  refine ok_as rfl rfl ?_
  refine ok_nil ?_
  refine rk_seq ?_
  refine rk_region ?_
  refine ok_mv rfl rfl ?_
  refine ok_v (.d (.bool (r1 != 0))) rfl rfl ?_
  refine ok_nil ?_
  refine rk_condH rfl h0 (fun _ h0 => ?_) (fun _ h0 => ?_)
  · refine rk_seq ?_
    refine rk_region ?_
    refine ok_mv rfl rfl ?_
    refine ok_as rfl rfl ?_
    refine ok_as rfl rfl ?_
    refine ok_nil ?_
    refine rk_ret ?_
    obtain rfl := someE h0
    exact finD (.inr rfl) (v := .d (.tup [.int .i64 0, .int .i64 r1])) rfl rfl (.refl _)
  · refine rk_skip ?_
    refine rk_seq ?_
    refine rk_seq ?_
    refine rk_region ?_
    refine ok_mv rfl rfl ?_
    refine ok_v (.d (.bool (decide (p1 < (-1000000))))) rfl rfl ?_
    obtain ⟨c3, h4, h0⟩ := bindE h0
    refine ok_cutQ 4 (fun A st => ∃ (j5 j6 j7 : V), st = A [(21, .d (.bool c3)), (20, j7), (19, j6), (18, j5)]) ?_ ?_
    · refine ok_mvB rfl rfl h4 (fun h4 => ?_) (fun h4 => ?_)
      · refine ok_sg rfl ?_
        refine ok_sg rfl ?_
        refine ok_v (.d (.bool true)) rfl rfl ?_
        refine ok_nil ?_
        obtain rfl := someE h4
        exact ⟨_, _, _, rfl⟩
      · refine ok_mv rfl rfl ?_
        refine ok_v (.d (.bool (decide (p1 > 1000000)))) rfl rfl ?_
        refine ok_v (.d (.bool (decide (p1 > 1000000)))) rfl rfl ?_
        refine ok_nil ?_
        obtain rfl := someE h4
        exact ⟨_, _, _, rfl⟩
    · rintro _ ⟨j5, j6, j7, rfl⟩
      refine ok_nil ?_
      refine rk_condH rfl h0 (fun _ h0 => ?_) (fun _ h0 => ?_)
      · refine rk_seq ?_
        refine rk_region ?_
        refine ok_as rfl rfl ?_
        refine ok_as rfl rfl ?_
        refine ok_nil ?_
        refine rk_ret ?_
        obtain rfl := someE h0
        exact finD (.inr rfl) (v := .d (.tup [.int .i64 0, .int .i64 2])) rfl rfl (.refl _)
      · refine rk_skip ?_
        refine rk_seq ?_
        refine rk_region ?_
        refine ok_as rfl rfl ?_
        refine ok_nil ?_
        refine rk_seq ?_
        refine rk_seq ?_
        refine rk_region ?_
        refine ok_mv rfl rfl ?_
        refine ok_ln rfl rfl rfl rfl ?_
        refine ok_mv rfl rfl ?_
        refine ok_nil ?_
        obtain ⟨m30, h31, h0⟩ := bindE h0
        refine rk_blockcut (fun b32 => b32 = m30) (fun (b32 : Int) => ⟨[(7, .d (.int .i64 b32))], [], 0⟩) (by simp) ?_ ?_
        · refine rk_loopF (span_Near_L1 p0 p1) (fun (a29 : Int × Int) => ⟨[(1, .d (.int .i64 p1)), (7, .d (.int .i64 a29.1)), (22, .d (.sl 2 (p0.map enc_api_Span))), (23, .d (.int .i64 (p0.length : Int))), (24, .d (.int .i64 a29.2))], [], 0⟩) ((-1), 0) m30 h31 (wkE [] [] [] rfl ⟨⟨_, rfl, .d (.refl _)⟩, ⟨_, rfl, .d (.refl _)⟩, ⟨_, rfl, .d (.refl _)⟩, ⟨_, rfl, .d (.refl _)⟩, ⟨_, rfl, .d (.refl _)⟩, trivial⟩ trivial) ?_
          intro a29 y27 h28
          unfold span_Near_L1 at h28
          refine rk_seq ?_
          refine rk_region ?_
          refine ok_v (.d (.bool (decide (a29.2 < (p0.length : Int))))) rfl rfl ?_
          refine ok_nil ?_
          refine rk_seq ?_
          refine rk_condH rfl h28 (fun _ h28 => ?_) (fun _ h28 => ?_)
          · refine rk_skip ?_
            refine rk_seq ?_
            obtain ⟨m42, h41, h28⟩ := bindE h28
            refine rk_blockcut (fun b43 => b43 = m42) (fun (b43 : Int) => ⟨[(1, .d (.int .i64 p1)), (7, .d (.int .i64 b43)), (22, .d (.sl 2 (p0.map enc_api_Span))), (23, .d (.int .i64 (p0.length : Int))), (24, .d (.int .i64 a29.2))], [], 0⟩) (by simp) ?_ ?_
            · refine rk_seq ?_
              refine rk_region ?_
              obtain ⟨v44, h45, h41⟩ := bindE h41
              refine ok_ix (enc := enc_api_Span) h45 rfl rfl rfl rfl rfl rfl ?_
              refine ok_v (.d (.agg [.int .i64 v44.Lo, .int .i64 v44.Hi])) rfl rfl ?_
              refine ok_alloc rfl rfl ?_
              refine ok_sto 0 (.dat 2 [[.int .i64 v44.Lo, .int .i64 v44.Hi]]) rfl rfl ?_
              refine ok_nil ?_
              refine rk_seq ?_
              refine rk_region ?_
              refine ok_v (.ref 0 2 0 0) rfl rfl ?_
              refine ok_v (.d (.int .i64 v44.Lo)) rfl rfl ?_
              refine ok_mv rfl rfl ?_
              refine ok_v (.d (.int .i64 (w64 (v44.Lo - p1)))) rfl rfl ?_
              refine ok_mv rfl rfl ?_
              refine ok_v (.ref 0 2 0 1) rfl rfl ?_
              refine ok_v (.d (.int .i64 v44.Hi)) rfl rfl ?_
              refine ok_v (.d (.int .i64 (w64 (p1 - v44.Hi)))) rfl rfl ?_
              refine ok_v (.d (.int .i64 (w64 ((w64 (p1 - v44.Hi)) + 1)))) rfl rfl ?_
              refine ok_max (r := max (max (w64 (v44.Lo - p1)) (w64 ((w64 (p1 - v44.Hi)) + 1))) 0) rfl rfl (by simp only [minI_max]; rfl) ?_
              refine ok_as rfl rfl ?_
              refine ok_nil ?_
              refine rk_seq ?_
              refine rk_region ?_
              refine ok_mv rfl rfl ?_
              refine ok_v (.d (.bool (decide (a29.1 < 0)))) rfl rfl ?_
              obtain ⟨c46, h47, h41⟩ := bindE h41
              refine ok_cutQ 5 (fun A st => ∃ (j48 j49 j50 j51 : V), st = A [(44, .d (.bool c46)), (43, j51), (42, j50), (41, j49), (40, j48)]) ?_ ?_
              · refine ok_mvB rfl rfl h47 (fun h47 => ?_) (fun h47 => ?_)
                · refine ok_sg rfl ?_
                  refine ok_sg rfl ?_
                  refine ok_sg rfl ?_
                  refine ok_v (.d (.bool true)) rfl rfl ?_
                  refine ok_nil ?_
                  obtain rfl := someE h47
                  exact ⟨_, _, _, _, rfl⟩
                · refine ok_mv rfl rfl ?_
                  refine ok_mv rfl rfl ?_
                  refine ok_v (.d (.bool (decide ((max (max (w64 (v44.Lo - p1)) (w64 ((w64 (p1 - v44.Hi)) + 1))) 0) < a29.1)))) rfl rfl ?_
                  refine ok_v (.d (.bool (decide ((max (max (w64 (v44.Lo - p1)) (w64 ((w64 (p1 - v44.Hi)) + 1))) 0) < a29.1)))) rfl rfl ?_
                  refine ok_nil ?_
                  obtain rfl := someE h47
                  exact ⟨_, _, _, _, rfl⟩
              · rintro _ ⟨j48, j49, j50, j51, rfl⟩
                refine ok_nil ?_
                refine rk_condH rfl h41 (fun _ h41 => ?_) (fun _ h41 => ?_)
                · refine rk_region ?_
                  refine ok_mv rfl rfl ?_
                  refine ok_as rfl rfl ?_
                  refine ok_nil ?_
                  refine rk_nil ?_
                  obtain rfl := someE h41
                  exact ⟨_, rfl, wkE [] [] [] rfl ⟨⟨_, rfl, .d (.refl _)⟩, ⟨_, rfl, .d (.refl _)⟩, ⟨_, rfl, .d (.refl _)⟩, ⟨_, rfl, .d (.refl _)⟩, ⟨_, rfl, .d (.refl _)⟩, trivial⟩ trivial⟩
                · refine rk_skip ?_
                  refine rk_nil ?_
                  obtain rfl := someE h41
                  exact ⟨_, rfl, wkE [] [] [] rfl ⟨⟨_, rfl, .d (.refl _)⟩, ⟨_, rfl, .d (.refl _)⟩, ⟨_, rfl, .d (.refl _)⟩, ⟨_, rfl, .d (.refl _)⟩, ⟨_, rfl, .d (.refl _)⟩, trivial⟩ trivial⟩
            · intro b43 hb
              subst hb
              refine rk_region ?_
              refine ok_v (.d (.int .i64 (w64 (a29.2 + 1)))) rfl rfl ?_
              refine ok_mv rfl rfl ?_
              refine ok_nil ?_
              refine rk_nil ?_
              exact ⟨_, (Option.some.inj h28).symm, wkE [] [] [] rfl ⟨⟨_, rfl, .d (.refl _)⟩, ⟨_, rfl, .d (.refl _)⟩, ⟨_, rfl, .d (.refl _)⟩, ⟨_, rfl, .d (.refl _)⟩, ⟨_, rfl, .d (.refl _)⟩, trivial⟩ trivial⟩
          · refine rk_exit ?_
            refine ⟨_, (Option.some.inj h28).symm, fun hm => ?_⟩
            subst hm
            exact ⟨_, rfl, wkE [] [] [] rfl ⟨⟨_, rfl, .d (.refl _)⟩, trivial⟩ trivial⟩
        · intro b32 hb
          subst hb
          refine rk_seq ?_
          refine rk_seq ?_
          refine rk_region ?_
          refine ok_mv rfl rfl ?_
          refine ok_v (.d (.bool (decide (b32 < 0)))) rfl rfl ?_
          refine ok_nil ?_
          refine rk_condH rfl h0 (fun _ h0 => ?_) (fun _ h0 => ?_)
          · refine rk_seq ?_
            refine rk_region ?_
            refine ok_as rfl rfl ?_
            refine ok_as rfl rfl ?_
            refine ok_nil ?_
            refine rk_ret ?_
            obtain rfl := someE h0
            exact finD (.inr rfl) (v := .d (.tup [.int .i64 0, .int .i64 6])) rfl rfl (.refl _)
          · refine rk_skip ?_
            refine rk_seq ?_
            refine rk_region ?_
            refine ok_mv rfl rfl ?_
            refine ok_as rfl rfl ?_
            refine ok_as rfl rfl ?_
            refine ok_nil ?_
            refine rk_ret ?_
            obtain rfl := someE h0
            exact finD (.inr rfl) (v := .d (.tup [.int .i64 b32, .int .i64 0])) rfl rfl (.refl _)

theorem r11_Near_ok (p0 : List api_Span) (p1 : Int) (r : Int × Int) (h0 : r11_Near p0 p1 = some r) : Pure Try.prog tab 16 [.sl 2 (p0.map enc_api_Span), .int .i64 p1] (.tup [.int .i64 r.1, .int .i64 r.2]) := by
  unfold r11_Near at h0
  refine pure_of_run Try.func16 rfl (by kernel_rfl) (by kernel_rfl) rfl ?_
  refine rk_seq ?_
  refine rk_region ?_
  refine ok_as rfl rfl ?_
  refine ok_as rfl rfl ?_
  refine ok_nil ?_
  refine rk_seq ?_
  refine rk_seq ?_
  refine rk_region ?_
  refine ok_mv rfl rfl ?_
  obtain ⟨r1, h2, h0⟩ := bindE h0
  refine ok_pc [.d (.sl 2 (p0.map enc_api_Span))] (r11_Check_ok p0 r1 h2) rfl rfl rfl (.inl rfl) ?_
  refine ok_v (.d (.bool (r1 != 0))) rfl rfl ?_
  refine ok_nil ?_
  refine rk_condH rfl h0 (fun _ h0 => ?_) (fun _ h0 => ?_)
  · refine rk_seq ?_
    refine rk_region ?_
    refine ok_mv rfl rfl ?_
    obtain ⟨r5, h6, h0⟩ := bindE h0
    refine ok_pc [.d (.sl 2 (p0.map enc_api_Span))] (r11_Check_ok p0 r5 h6) rfl rfl rfl (.inl rfl) ?_
    refine ok_as rfl rfl ?_
    refine ok_as rfl rfl ?_
    refine ok_nil ?_
    refine rk_ret ?_
    obtain rfl := someE h0
    exact finD (.inr rfl) (v := .d (.tup [.int .i64 0, .int .i64 r5])) rfl rfl (.refl _)
  · refine rk_skip ?_
    refine rk_seq ?_
    refine rk_seq ?_
    refine rk_region ?_
    refine ok_mv rfl rfl ?_
    refine ok_v (.d (.bool (decide (p1 < (-1000000))))) rfl rfl ?_
    obtain ⟨c7, h8, h0⟩ := bindE h0
    refine ok_cutQ 4 (fun A st => ∃ (j9 j10 j11 : V), st = A [(18, .d (.bool c7)), (17, j11), (16, j10), (15, j9)]) ?_ ?_
    · refine ok_mvB rfl rfl h8 (fun h8 => ?_) (fun h8 => ?_)
      · refine ok_sg rfl ?_
        refine ok_sg rfl ?_
        refine ok_v (.d (.bool true)) rfl rfl ?_
        refine ok_nil ?_
        obtain rfl := someE h8
        exact ⟨_, _, _, rfl⟩
      · refine ok_mv rfl rfl ?_
        refine ok_v (.d (.bool (decide (p1 > 1000000)))) rfl rfl ?_
        refine ok_v (.d (.bool (decide (p1 > 1000000)))) rfl rfl ?_
        refine ok_nil ?_
        obtain rfl := someE h8
        exact ⟨_, _, _, rfl⟩
    · rintro _ ⟨j9, j10, j11, rfl⟩
      refine ok_nil ?_
      refine rk_condH rfl h0 (fun _ h0 => ?_) (fun _ h0 => ?_)
      · refine rk_seq ?_
        refine rk_region ?_
        refine ok_as rfl rfl ?_
        refine ok_as rfl rfl ?_
        refine ok_nil ?_
        refine rk_ret ?_
        obtain rfl := someE h0
        exact finD (.inr rfl) (v := .d (.tup [.int .i64 0, .int .i64 2])) rfl rfl (.refl _)
      · refine rk_skip ?_
        refine rk_seq ?_
        refine rk_seq ?_
        refine rk_region ?_
        refine ok_mv rfl rfl ?_
        refine ok_ln rfl rfl rfl rfl ?_
        refine ok_v (.d (.bool ((p0.length : Int) == 0))) rfl rfl ?_
        refine ok_nil ?_
        refine rk_condH rfl h0 (fun _ h0 => ?_) (fun _ h0 => ?_)
        · refine rk_seq ?_
          refine rk_region ?_
          refine ok_as rfl rfl ?_
          refine ok_as rfl rfl ?_
          refine ok_nil ?_
          refine rk_ret ?_
          obtain rfl := someE h0
          exact finD (.inr rfl) (v := .d (.tup [.int .i64 0, .int .i64 6])) rfl rfl (.refl _)
        · refine rk_skip ?_
          refine rk_seq ?_
          refine rk_seq ?_
          refine rk_region ?_
          refine ok_mv rfl rfl ?_
          refine ok_mv rfl rfl ?_
          obtain ⟨r12, h13, h0⟩ := bindE h0
          refine ok_pc [.d (.sl 2 (p0.map enc_api_Span)), .d (.int .i64 p1)] (r11_Has_ok p0 p1 r12 h13) rfl rfl rfl (.inl rfl) ?_
          refine ok_nil ?_
          refine rk_condH rfl h0 (fun _ h0 => ?_) (fun _ h0 => ?_)
          · refine rk_seq ?_
            refine rk_region ?_
            refine ok_as rfl rfl ?_
            refine ok_as rfl rfl ?_
            refine ok_nil ?_
            refine rk_ret ?_
            obtain rfl := someE h0
            exact finD (.inr rfl) (v := .d (.tup [.int .i64 0, .int .i64 0])) rfl rfl (.refl _)
          · refine rk_skip ?_
            refine rk_seq ?_
            refine rk_region ?_
            refine ok_as rfl rfl ?_
            refine ok_nil ?_
            refine rk_seq ?_
            refine rk_seq ?_
            refine rk_region ?_
            refine ok_as rfl rfl ?_
            refine ok_nil ?_
            obtain ⟨m32, h33, h0⟩ := bindE h0
            refine rk_blockcut (fun b34 => b34 = m32) (fun (b34 : Int) => ⟨[(6, .d (.int .i64 b34))], [], 0⟩) (by simp) ?_ ?_
            · refine rk_loopF (r11_Near_L1 p0 p1) (fun (a31 : Int × Int) => ⟨[(0, .d (.sl 2 (p0.map enc_api_Span))), (1, .d (.int .i64 p1)), (6, .d (.int .i64 a31.1)), (7, .d (.int .i64 a31.2))], [], 0⟩) (4000000, 0) m32 h33 (wkE [] [] [] rfl ⟨⟨_, rfl, .d (.refl _)⟩, ⟨_, rfl, .d (.refl _)⟩, ⟨_, rfl, .d (.refl _)⟩, ⟨_, rfl, .d (.refl _)⟩, trivial⟩ trivial) ?_
              intro a31 y29 h30
              unfold r11_Near_L1 at h30
              refine rk_seq ?_
              refine rk_seq ?_
              refine rk_region ?_
              refine ok_mv rfl rfl ?_
              refine ok_mv rfl rfl ?_
              refine ok_ln rfl rfl rfl rfl ?_
              refine ok_v (.d (.bool (decide (a31.2 < (p0.length : Int))))) rfl rfl ?_
              refine ok_nil ?_
              refine rk_condH rfl h30 (fun _ h30 => ?_) (fun _ h30 => ?_)
              · refine rk_skip ?_
                refine rk_seq ?_
                obtain ⟨m42, h41, h30⟩ := bindE h30
                refine rk_blockcut (fun b43 => b43 = m42) (fun (b43 : Int) => ⟨[(0, .d (.sl 2 (p0.map enc_api_Span))), (1, .d (.int .i64 p1)), (6, .d (.int .i64 b43)), (7, .d (.int .i64 a31.2))], [], 0⟩) (by simp) ?_ ?_
                · refine rk_seq ?_
                  refine rk_region ?_
                  refine ok_mv rfl rfl ?_
                  refine ok_mv rfl rfl ?_
                  obtain ⟨v44, h45, h41⟩ := bindE h41
                  refine ok_ix (enc := enc_api_Span) h45 rfl rfl rfl rfl rfl rfl ?_
                  refine ok_v (.dref [.int .i64 v44.Lo, .int .i64 v44.Hi] 0) rfl rfl ?_
                  refine ok_v (.d (.int .i64 v44.Lo)) rfl rfl ?_
                  refine ok_mv rfl rfl ?_
                  refine ok_v (.d (.bool (decide (v44.Lo > p1)))) rfl rfl ?_
                  refine ok_nil ?_
                  refine rk_condH rfl h41 (fun _ h41 => ?_) (fun _ h41 => ?_)
                  · refine rk_region ?_
                    refine ok_mv rfl rfl ?_
                    refine ok_mv rfl rfl ?_
                    refine ok_mv rfl rfl ?_
                    obtain ⟨v46, h47, h41⟩ := bindE h41
                    refine ok_ix (enc := enc_api_Span) h47 rfl rfl rfl rfl rfl rfl ?_
                    refine ok_v (.dref [.int .i64 v46.Lo, .int .i64 v46.Hi] 0) rfl rfl ?_
                    refine ok_v (.d (.int .i64 v46.Lo)) rfl rfl ?_
                    refine ok_mv rfl rfl ?_
                    refine ok_v (.d (.int .i64 (w64 (v46.Lo - p1)))) rfl rfl ?_
                    refine ok_min (r := min a31.1 (w64 (v46.Lo - p1))) rfl rfl (by simp only [minI_min]; rfl) ?_
                    refine ok_as rfl rfl ?_
                    refine ok_nil ?_
                    refine rk_nil ?_
                    obtain rfl := someE h41
                    exact ⟨_, rfl, wkE [] [] [] rfl ⟨⟨_, rfl, .d (.refl _)⟩, ⟨_, rfl, .d (.refl _)⟩, ⟨_, rfl, .d (.refl _)⟩, ⟨_, rfl, .d (.refl _)⟩, trivial⟩ trivial⟩
                  · refine rk_region ?_
                    refine ok_mv rfl rfl ?_
                    refine ok_mv rfl rfl ?_
                    refine ok_mv rfl rfl ?_
                    refine ok_mv rfl rfl ?_
                    obtain ⟨v48, h49, h41⟩ := bindE h41
                    refine ok_ix (enc := enc_api_Span) h49 rfl rfl rfl rfl rfl rfl ?_
                    refine ok_v (.dref [.int .i64 v48.Lo, .int .i64 v48.Hi] 1) rfl rfl ?_
                    refine ok_v (.d (.int .i64 v48.Hi)) rfl rfl ?_
                    refine ok_v (.d (.int .i64 (w64 (v48.Hi - 1)))) rfl rfl ?_
                    refine ok_v (.d (.int .i64 (w64 (p1 - (w64 (v48.Hi - 1)))))) rfl rfl ?_
                    refine ok_min (r := min a31.1 (w64 (p1 - (w64 (v48.Hi - 1))))) rfl rfl (by simp only [minI_min]; rfl) ?_
                    refine ok_as rfl rfl ?_
                    refine ok_nil ?_
                    refine rk_nil ?_
                    obtain rfl := someE h41
                    exact ⟨_, rfl, wkE [] [] [] rfl ⟨⟨_, rfl, .d (.refl _)⟩, ⟨_, rfl, .d (.refl _)⟩, ⟨_, rfl, .d (.refl _)⟩, ⟨_, rfl, .d (.refl _)⟩, trivial⟩ trivial⟩
                · intro b43 hb
                  subst hb
                  refine rk_region ?_
                  refine ok_mv rfl rfl ?_
                  refine ok_v (.d (.int .i64 (w64 (a31.2 + 1)))) rfl rfl ?_
                  refine ok_as rfl rfl ?_
                  refine ok_nil ?_
                  refine rk_nil ?_
                  exact ⟨_, (Option.some.inj h30).symm, wkE [] [] [] rfl ⟨⟨_, rfl, .d (.refl _)⟩, ⟨_, rfl, .d (.refl _)⟩, ⟨_, rfl, .d (.refl _)⟩, ⟨_, rfl, .d (.refl _)⟩, trivial⟩ trivial⟩
              · refine rk_exit ?_
                refine ⟨_, (Option.some.inj h30).symm, fun hm => ?_⟩
                subst hm
                exact ⟨_, rfl, wkE [] [] [] rfl ⟨⟨_, rfl, .d (.refl _)⟩, trivial⟩ trivial⟩
            · intro b34 hb
              subst hb
              refine rk_seq ?_
              refine rk_region ?_
              refine ok_mv rfl rfl ?_
              refine ok_as rfl rfl ?_
              refine ok_as rfl rfl ?_
              refine ok_nil ?_
              refine rk_ret ?_
              obtain rfl := someE h0
              exact finD (.inr rfl) (v := .d (.tup [.int .i64 b34, .int .i64 0])) rfl rfl (.refl _)

theorem r11_Same_ok (p0 : List api_Span) (p1 : List api_Span) (r : Bool) (h0 : r11_Same p0 p1 = some r) : Pure Try.prog tab 17 [.sl 2 (p0.map enc_api_Span), .sl 2 (p1.map enc_api_Span)] (.bool r) := by
  unfold r11_Same at h0
  refine pure_of_run Try.func17 rfl (by kernel_rfl) (by kernel_rfl) rfl ?_
  refine rk_seq ?_
  refine rk_region ?_
  refine ok_as rfl rfl ?_
  refine ok_nil ?_
  refine rk_seq ?_
  refine rk_seq ?_
  refine rk_region ?_
  refine ok_mv rfl rfl ?_
  refine ok_ln rfl rfl rfl rfl ?_
  refine ok_mv rfl rfl ?_
  refine ok_ln rfl rfl rfl rfl ?_
  refine ok_v (.d (.bool ((p0.length : Int) != (p1.length : Int)))) rfl rfl ?_
  refine ok_nil ?_
  refine rk_condH rfl h0 (fun _ h0 => ?_) (fun _ h0 => ?_)
  · refine rk_seq ?_
    refine rk_region ?_
    refine ok_as rfl rfl ?_
    refine ok_nil ?_
    refine rk_ret ?_
    obtain rfl := someE h0
    exact finD (.inr rfl) (v := .d (.bool false)) rfl rfl (.refl _)
  · refine rk_skip ?_
    refine rk_seq ?_
    refine rk_seq ?_
    refine rk_region ?_
    refine ok_as rfl rfl ?_
    refine ok_nil ?_
    obtain ⟨m20, h21, h0⟩ := bindE h0
    refine rk_blockcut (fun b22 => .inl b22 = m20) (fun (b22 : Unit) => ⟨[], [], 0⟩) (by simp) ?_ ?_
    · refine rk_loopF (r11_Same_L1 p0 p1) (fun (a19 : Int) => ⟨[(0, .d (.sl 2 (p0.map enc_api_Span))), (1, .d (.sl 2 (p1.map enc_api_Span))), (5, .d (.int .i64 a19))], [], 0⟩) 0 m20 h21 (wkE [] [] [] rfl ⟨⟨_, rfl, .d (.refl _)⟩, ⟨_, rfl, .d (.refl _)⟩, ⟨_, rfl, .d (.refl _)⟩, trivial⟩ trivial) ?_
      intro a19 y17 h18
      unfold r11_Same_L1 at h18
      refine rk_seq ?_
      refine rk_seq ?_
      refine rk_region ?_
      refine ok_mv rfl rfl ?_
      refine ok_mv rfl rfl ?_
      refine ok_ln rfl rfl rfl rfl ?_
      refine ok_v (.d (.bool (decide (a19 < (p0.length : Int))))) rfl rfl ?_
      refine ok_nil ?_
      refine rk_condH rfl h18 (fun _ h18 => ?_) (fun _ h18 => ?_)
      · refine rk_skip ?_
        refine rk_seq ?_
        refine rk_block ?_
        refine rk_seq ?_
        refine rk_regionD (by kernel_rfl) ?_
        refine ok_mv rfl rfl ?_
        refine ok_mv rfl rfl ?_
        obtain ⟨v27, h28, h18⟩ := bindE h18
        refine ok_ix (enc := enc_api_Span) h28 rfl rfl rfl rfl rfl rfl ?_
        refine ok_v (.d (.agg [.int .i64 v27.Lo, .int .i64 v27.Hi])) rfl rfl ?_
        refine ok_mv rfl rfl ?_
        refine ok_mv rfl rfl ?_
        obtain ⟨v29, h30, h18⟩ := bindE h18
        refine ok_ix (enc := enc_api_Span) h30 rfl rfl rfl rfl rfl rfl ?_
        refine ok_v (.d (.agg [.int .i64 v29.Lo, .int .i64 v29.Hi])) rfl rfl ?_
        refine ok_v (.d (.bool (!((v27.Lo == v29.Lo) && ((v27.Hi == v29.Hi) && true))))) rfl rfl ?_
        refine ok_nil ?_
        refine rk_condH rfl h18 (fun _ h18 => ?_) (fun _ h18 => ?_)
        · refine rk_seq ?_
          refine rk_region ?_
          refine ok_as rfl rfl ?_
          refine ok_nil ?_
          refine rk_ret ?_
          refine ⟨_, (Option.some.inj h18).symm, fun hm => ?_⟩
          subst hm
          obtain rfl := someE h0
          exact finD (.inr rfl) (v := .d (.bool false)) rfl rfl (.refl _)
        · refine rk_skip ?_
          refine rk_nil ?_
          refine blk_nor ?_
          refine rk_region ?_
          refine ok_mv rfl rfl ?_
          refine ok_v (.d (.int .i64 (w64 (a19 + 1)))) rfl rfl ?_
          refine ok_as rfl rfl ?_
          refine ok_nil ?_
          refine rk_nil ?_
          exact ⟨_, (Option.some.inj h18).symm, wkE [] [] [] rfl ⟨⟨_, rfl, .d (.refl _)⟩, ⟨_, rfl, .d (.refl _)⟩, ⟨_, rfl, .d (.refl _)⟩, trivial⟩ trivial⟩
      · refine rk_exit ?_
        refine ⟨_, (Option.some.inj h18).symm, fun hm => ?_⟩
        subst hm
        exact ⟨_, rfl, wkE [] [] [] rfl trivial trivial⟩
    · intro b22 hb
      subst hb
      refine rk_seq ?_
      refine rk_region ?_
      refine ok_as rfl rfl ?_
      refine ok_nil ?_
      refine rk_ret ?_
      obtain rfl := someE h0
      exact finD (.inr rfl) (v := .d (.bool true)) rfl rfl (.refl _)

theorem l11_SpanMoves_ok (p0 : List api_Span) (p1 : Int) (p2 : Int) (r : Bool) (h0 : l11_SpanMoves p0 p1 p2 = some r) : Pure Try.prog tab 3 [.sl 2 (p0.map enc_api_Span), .int .i64 p1, .int .i64 p2] (.bool r) := by
  unfold l11_SpanMoves at h0
  refine pure_of_run Try.func3 rfl (by kernel_rfl) (by kernel_rfl) rfl ?_
  refine rk_seq ?_
  refine rk_region ?_
  refine ok_as rfl rfl ?_
  refine ok_nil ?_
  refine rk_seq ?_
  refine rk_seq ?_
  refine rk_region ?_
  refine ok_mv rfl rfl ?_
  refine ok_ln rfl rfl rfl rfl ?_
  refine ok_v (.d (.bool (decide ((p0.length : Int) > 450)))) rfl rfl ?_
  refine ok_nil ?_
  refine rk_condH rfl h0 (fun _ h0 => ?_) (fun _ h0 => ?_)
  · refine rk_seq ?_
    refine rk_region ?_
    refine ok_as rfl rfl ?_
    refine ok_nil ?_
    refine rk_ret ?_
    obtain rfl := someE h0
    exact finD (.inr rfl) (v := .d (.bool true)) rfl rfl (.refl _)
  · refine rk_skip ?_
    refine rk_seq ?_
    refine rk_region ?_
    refine ok_mv rfl rfl ?_
    obtain ⟨r1, h2, h0⟩ := bindE h0
    refine ok_pc [.d (.sl 2 (p0.map enc_api_Span))] (span_Gaps_ok p0 r1 h2) rfl rfl rfl (.inl rfl) ?_
    refine ok_mv rfl rfl ?_
    refine ok_v (.d (.sl 2 (r1.1.map enc_api_Span))) rfl rfl ?_
    refine ok_v (.d (.int .i64 r1.2)) rfl rfl ?_
    refine ok_as rfl rfl ?_
    refine ok_as rfl rfl ?_
    refine ok_nil ?_
    refine rk_seq ?_
    refine rk_region ?_
    refine ok_mv rfl rfl ?_
    obtain ⟨r3, h4, h0⟩ := bindE h0
    refine ok_pc [.d (.sl 2 (p0.map enc_api_Span))] (r11_Gaps_ok p0 r3 h4) rfl rfl rfl (.inl rfl) ?_
    refine ok_mv rfl rfl ?_
    refine ok_v (.d (.sl 2 (r3.1.map enc_api_Span))) rfl rfl ?_
    refine ok_v (.d (.int .i64 r3.2)) rfl rfl ?_
    refine ok_as rfl rfl ?_
    refine ok_as rfl rfl ?_
    refine ok_nil ?_
    refine rk_seq ?_
    refine rk_region ?_
    refine ok_mv rfl rfl ?_
    refine ok_mv rfl rfl ?_
    obtain ⟨r5, h6, h0⟩ := bindE h0
    refine ok_pc [.d (.sl 2 (p0.map enc_api_Span)), .d (.int .i64 p1)] (span_Move_ok p0 p1 r5 h6) rfl rfl rfl (.inl rfl) ?_
    refine ok_mv rfl rfl ?_
    refine ok_v (.d (.sl 2 (r5.1.map enc_api_Span))) rfl rfl ?_
    refine ok_v (.d (.int .i64 r5.2)) rfl rfl ?_
    refine ok_as rfl rfl ?_
    refine ok_as rfl rfl ?_
    refine ok_nil ?_
    refine rk_seq ?_
    refine rk_region ?_
    refine ok_mv rfl rfl ?_
    refine ok_mv rfl rfl ?_
    obtain ⟨r7, h8, h0⟩ := bindE h0
    refine ok_pc [.d (.sl 2 (p0.map enc_api_Span)), .d (.int .i64 p1)] (r11_Move_ok p0 p1 r7 h8) rfl rfl rfl (.inl rfl) ?_
    refine ok_mv rfl rfl ?_
    refine ok_v (.d (.sl 2 (r7.1.map enc_api_Span))) rfl rfl ?_
    refine ok_v (.d (.int .i64 r7.2)) rfl rfl ?_
    refine ok_as rfl rfl ?_
    refine ok_as rfl rfl ?_
    refine ok_nil ?_
    refine rk_seq ?_
    refine rk_region ?_
    refine ok_mv rfl rfl ?_
    refine ok_mv rfl rfl ?_
    obtain ⟨r9, h10, h0⟩ := bindE h0
    refine ok_pc [.d (.sl 2 (p0.map enc_api_Span)), .d (.int .i64 p2)] (span_Near_ok p0 p2 r9 h10) rfl rfl rfl (.inl rfl) ?_
    refine ok_mv rfl rfl ?_
    refine ok_v (.d (.int .i64 r9.1)) rfl rfl ?_
    refine ok_v (.d (.int .i64 r9.2)) rfl rfl ?_
    refine ok_as rfl rfl ?_
    refine ok_as rfl rfl ?_
    refine ok_nil ?_
    refine rk_seq ?_
    refine rk_region ?_
    refine ok_mv rfl rfl ?_
    refine ok_mv rfl rfl ?_
    obtain ⟨r11, h12, h0⟩ := bindE h0
    refine ok_pc [.d (.sl 2 (p0.map enc_api_Span)), .d (.int .i64 p2)] (r11_Near_ok p0 p2 r11 h12) rfl rfl rfl (.inl rfl) ?_
    refine ok_mv rfl rfl ?_
    refine ok_v (.d (.int .i64 r11.1)) rfl rfl ?_
    refine ok_v (.d (.int .i64 r11.2)) rfl rfl ?_
    refine ok_as rfl rfl ?_
    refine ok_as rfl rfl ?_
    refine ok_nil ?_
    refine rk_seq ?_
    refine rk_region ?_
    refine ok_mv rfl rfl ?_
    refine ok_mv rfl rfl ?_
    obtain ⟨r13, h14, h0⟩ := bindE h0
    refine ok_pc [.d (.sl 2 (r1.1.map enc_api_Span)), .d (.sl 2 (r3.1.map enc_api_Span))] (r11_Same_ok r1.1 r3.1 r13 h14) rfl rfl rfl (.inl rfl) ?_
    obtain ⟨c15, h16, h0⟩ := bindE h0
    refine ok_cutQ 5 (fun A st => ∃ (j17 j18 j19 j20 : V), st = A [(63, .d (.bool c15)), (62, j20), (61, j19), (60, j18), (59, j17)]) ?_ ?_
    · refine ok_mvB rfl rfl h16 (fun h16 => ?_) (fun h16 => ?_)
      · refine ok_mv rfl rfl ?_
        refine ok_mv rfl rfl ?_
        refine ok_v (.d (.bool (r1.2 == r3.2))) rfl rfl ?_
        refine ok_v (.d (.bool (r1.2 == r3.2))) rfl rfl ?_
        refine ok_nil ?_
        obtain rfl := someE h16
        exact ⟨_, _, _, _, rfl⟩
      · refine ok_sg rfl ?_
        refine ok_sg rfl ?_
        refine ok_sg rfl ?_
        refine ok_v (.d (.bool false)) rfl rfl ?_
        refine ok_nil ?_
        obtain rfl := someE h16
        exact ⟨_, _, _, _, rfl⟩
    · rintro _ ⟨j17, j18, j19, j20, rfl⟩
      obtain ⟨c23, h24, h0⟩ := bindE h0
      refine ok_cutQ 5 (fun A st => ∃ (j25 j26 j27 j28 : V), st = A [(68, .d (.bool c23)), (67, j28), (66, j27), (65, j26), (64, j25)]) ?_ ?_
      · refine ok_mvB rfl rfl h24 (fun h24 => ?_) (fun h24 => ?_)
        · refine ok_mv rfl rfl ?_
          refine ok_mv rfl rfl ?_
          obtain ⟨r29, h30, h24⟩ := bindE h24
          refine ok_pc [.d (.sl 2 (r5.1.map enc_api_Span)), .d (.sl 2 (r7.1.map enc_api_Span))] (r11_Same_ok r5.1 r7.1 r29 h30) rfl rfl rfl (.inl rfl) ?_
          refine ok_v (.d (.bool r29)) rfl rfl ?_
          refine ok_nil ?_
          obtain rfl := someE h24
          exact ⟨_, _, _, _, rfl⟩
        · refine ok_sg rfl ?_
          refine ok_sg rfl ?_
          refine ok_sg rfl ?_
          refine ok_v (.d (.bool false)) rfl rfl ?_
          refine ok_nil ?_
          obtain rfl := someE h24
          exact ⟨_, _, _, _, rfl⟩
      · rintro _ ⟨j25, j26, j27, j28, rfl⟩
        obtain ⟨c31, h32, h0⟩ := bindE h0
        refine ok_cutQ 5 (fun A st => ∃ (j33 j34 j35 j36 : V), st = A [(73, .d (.bool c31)), (72, j36), (71, j35), (70, j34), (69, j33)]) ?_ ?_
        · refine ok_mvB rfl rfl h32 (fun h32 => ?_) (fun h32 => ?_)
          · refine ok_mv rfl rfl ?_
            refine ok_mv rfl rfl ?_
            refine ok_v (.d (.bool (r5.2 == r7.2))) rfl rfl ?_
            refine ok_v (.d (.bool (r5.2 == r7.2))) rfl rfl ?_
            refine ok_nil ?_
            obtain rfl := someE h32
            exact ⟨_, _, _, _, rfl⟩
          · refine ok_sg rfl ?_
            refine ok_sg rfl ?_
            refine ok_sg rfl ?_
            refine ok_v (.d (.bool false)) rfl rfl ?_
            refine ok_nil ?_
            obtain rfl := someE h32
            exact ⟨_, _, _, _, rfl⟩
        · rintro _ ⟨j33, j34, j35, j36, rfl⟩
          obtain ⟨c37, h38, h0⟩ := bindE h0
          refine ok_cutQ 5 (fun A st => ∃ (j39 j40 j41 j42 : V), st = A [(78, .d (.bool c37)), (77, j42), (76, j41), (75, j40), (74, j39)]) ?_ ?_
          · refine ok_mvB rfl rfl h38 (fun h38 => ?_) (fun h38 => ?_)
            · refine ok_mv rfl rfl ?_
              refine ok_mv rfl rfl ?_
              refine ok_v (.d (.bool (r9.1 == r11.1))) rfl rfl ?_
              refine ok_v (.d (.bool (r9.1 == r11.1))) rfl rfl ?_
              refine ok_nil ?_
              obtain rfl := someE h38
              exact ⟨_, _, _, _, rfl⟩
            · refine ok_sg rfl ?_
              refine ok_sg rfl ?_
              refine ok_sg rfl ?_
              refine ok_v (.d (.bool false)) rfl rfl ?_
              refine ok_nil ?_
              obtain rfl := someE h38
              exact ⟨_, _, _, _, rfl⟩
          · rintro _ ⟨j39, j40, j41, j42, rfl⟩
            obtain ⟨c43, h44, h0⟩ := bindE h0
            refine ok_cutQ 5 (fun A st => ∃ (j45 j46 j47 j48 : V), st = A [(83, .d (.bool c43)), (82, j48), (81, j47), (80, j46), (79, j45)]) ?_ ?_
            · refine ok_mvB rfl rfl h44 (fun h44 => ?_) (fun h44 => ?_)
              · refine ok_mv rfl rfl ?_
                refine ok_mv rfl rfl ?_
                refine ok_v (.d (.bool (r9.2 == r11.2))) rfl rfl ?_
                refine ok_v (.d (.bool (r9.2 == r11.2))) rfl rfl ?_
                refine ok_nil ?_
                obtain rfl := someE h44
                exact ⟨_, _, _, _, rfl⟩
              · refine ok_sg rfl ?_
                refine ok_sg rfl ?_
                refine ok_sg rfl ?_
                refine ok_v (.d (.bool false)) rfl rfl ?_
                refine ok_nil ?_
                obtain rfl := someE h44
                exact ⟨_, _, _, _, rfl⟩
            · rintro _ ⟨j45, j46, j47, j48, rfl⟩
              refine ok_as rfl rfl ?_
              refine ok_nil ?_
              refine rk_ret ?_
              obtain rfl := someE h0
              exact finD (.inr rfl) (v := .d (.bool c43)) rfl rfl (.refl _)
end Go.Proofs.Ytcpogfjlehoabaa
