/- THE WALKS, lifted by program: on. -/
import Derived.Test.YtbfdjpffambpfaaWSplitNamesa
namespace Go.Proofs.Ytbfdjpffambpfaa
open Go Go.Am Go.Sh
set_option maxRecDepth 100000 in
theorem l23_SplitNames_ok (r : Bool) (h0 : l23_SplitNames = some r) : Pure Try.prog tab 10 [] (.bool r) := by
  unfold l23_SplitNames at h0
  refine pure_of_run Try.func10 rfl (by kernel_rfl) (by kernel_rfl) rfl ?_
  refine rk_seq ?_
  refine rk_region ?_
  refine ok_as rfl rfl ?_
  refine ok_nil ?_
  refine rk_seq ?_
  refine rk_region ?_
  refine ok_v (.d (.agg [.int .u8 1, .int .i64 4, .int .i64 0, .int .i64 0])) rfl rfl ?_
  refine ok_new (.hs 0 4 0 [({ Kind := 1, Size := 4, Share := ({ Num := 0, Den := 0 } : api_Ratio) } : api_Part)].length) (.dat 4 ([({ Kind := 1, Size := 4, Share := ({ Num := 0, Den := 0 } : api_Ratio) } : api_Part)].map enc_api_Part)) rfl rfl ?_
  refine ok_as rfl rfl ?_
  refine ok_nil ?_
  refine rk_seq ?_
  refine rk_wk (st' := ⟨[(1, .d (.sl 4 ([({ Kind := 1, Size := 4, Share := ({ Num := 0, Den := 0 } : api_Ratio) } : api_Part)].map enc_api_Part)))], [], 0⟩) (wkE [] [0] [] rfl ⟨⟨_, rfl, wv_frz rfl rfl (by decide)⟩, trivial⟩ trivial) ?_ (by simp)
  refine rk_region ?_
  refine ok_mv rfl rfl ?_
  obtain ⟨r1, h2, h0⟩ := bindE h0
  refine ok_pc [.d (.int .i64 3), .d (.sl 4 ([({ Kind := 1, Size := 4, Share := ({ Num := 0, Den := 0 } : api_Ratio) } : api_Part)].map enc_api_Part))] (split_Sizes_ok 3 [({ Kind := 1, Size := 4, Share := ({ Num := 0, Den := 0 } : api_Ratio) } : api_Part)] r1 h2) rfl rfl rfl (.inl rfl) ?_
  refine ok_mv rfl rfl ?_
  refine ok_v (.d (.sl 1 (r1.1.map (eI .i64)))) rfl rfl ?_
  refine ok_v (.d (.int .i64 r1.2)) rfl rfl ?_
  refine ok_as rfl rfl ?_
  refine ok_as rfl rfl ?_
  refine ok_nil ?_
  refine rk_seq ?_
  refine rk_region ?_
  refine ok_mv rfl rfl ?_
  obtain ⟨r3, h4, h0⟩ := bindE h0
  refine ok_pc [.d (.int .i64 5), .d (.sl 4 ([({ Kind := 1, Size := 4, Share := ({ Num := 0, Den := 0 } : api_Ratio) } : api_Part)].map enc_api_Part))] (split_Sizes_ok 5 [({ Kind := 1, Size := 4, Share := ({ Num := 0, Den := 0 } : api_Ratio) } : api_Part)] r3 h4) rfl rfl rfl (.inl rfl) ?_
  refine ok_mv rfl rfl ?_
  refine ok_v (.d (.sl 1 (r3.1.map (eI .i64)))) rfl rfl ?_
  refine ok_v (.d (.int .i64 r3.2)) rfl rfl ?_
  refine ok_as rfl rfl ?_
  refine ok_as rfl rfl ?_
  refine ok_nil ?_
  refine rk_seq ?_
  refine rk_region ?_
  refine ok_mv rfl rfl ?_
  obtain ⟨r5, h6, h0⟩ := bindE h0
  refine ok_pc [.d (.int .i64 4), .d (.sl 4 ([({ Kind := 1, Size := 4, Share := ({ Num := 0, Den := 0 } : api_Ratio) } : api_Part)].map enc_api_Part))] (split_Sizes_ok 4 [({ Kind := 1, Size := 4, Share := ({ Num := 0, Den := 0 } : api_Ratio) } : api_Part)] r5 h6) rfl rfl rfl (.inl rfl) ?_
  refine ok_mv rfl rfl ?_
  refine ok_v (.d (.sl 1 (r5.1.map (eI .i64)))) rfl rfl ?_
  refine ok_v (.d (.int .i64 r5.2)) rfl rfl ?_
  refine ok_as rfl rfl ?_
  refine ok_as rfl rfl ?_
  refine ok_nil ?_
  refine rk_seq ?_
  refine rk_region ?_
  refine ok_mv rfl rfl ?_
  obtain ⟨r7, h8, h0⟩ := bindE h0
  refine ok_pc [.d (.int .i64 (-1)), .d (.sl 4 ([({ Kind := 1, Size := 4, Share := ({ Num := 0, Den := 0 } : api_Ratio) } : api_Part)].map enc_api_Part))] (split_Sizes_ok (-1) [({ Kind := 1, Size := 4, Share := ({ Num := 0, Den := 0 } : api_Ratio) } : api_Part)] r7 h8) rfl rfl rfl (.inl rfl) ?_
  refine ok_mv rfl rfl ?_
  refine ok_v (.d (.sl 1 (r7.1.map (eI .i64)))) rfl rfl ?_
  refine ok_v (.d (.int .i64 r7.2)) rfl rfl ?_
  refine ok_as rfl rfl ?_
  refine ok_as rfl rfl ?_
  refine ok_nil ?_
  refine rk_seq ?_
  refine rk_region ?_
  obtain ⟨r9, h10, h0⟩ := bindE h0
  refine ok_pc [.d (.int .i64 1000001), .d (.nilsl)] (pure_le (.cons (.refl _) (.cons (.nil _) .nil)) (split_Sizes_ok 1000001 [] r9 h10)) rfl rfl rfl (.inl rfl) ?_
  refine ok_mv rfl rfl ?_
  refine ok_v (.d (.sl 1 (r9.1.map (eI .i64)))) rfl rfl ?_
  refine ok_v (.d (.int .i64 r9.2)) rfl rfl ?_
  refine ok_as rfl rfl ?_
  refine ok_as rfl rfl ?_
  refine ok_nil ?_
  refine rk_seq ?_
  refine rk_region ?_
  obtain ⟨r11, h12, h0⟩ := bindE h0
  refine ok_pc [.d (.int .i64 0), .d (.nilsl)] (pure_le (.cons (.refl _) (.cons (.nil _) .nil)) (split_Sizes_ok 0 [] r11 h12)) rfl rfl rfl (.inl rfl) ?_
  refine ok_mv rfl rfl ?_
  refine ok_v (.d (.sl 1 (r11.1.map (eI .i64)))) rfl rfl ?_
  refine ok_v (.d (.int .i64 r11.2)) rfl rfl ?_
  refine ok_as rfl rfl ?_
  refine ok_as rfl rfl ?_
  refine ok_nil ?_
  refine rk_seq ?_
  refine rk_region ?_
  obtain ⟨z13, h14, h0⟩ := bindE h0
  refine ok_mks (z := ({ Kind := 0, Size := 0, Share := ({ Num := 0, Den := 0 } : api_Ratio) } : api_Part)) (enc := enc_api_Part) h14 rfl rfl rfl rfl rfl rfl ?_
  obtain ⟨r15, h16, h0⟩ := bindE h0
  refine ok_pc [.hs 0 4 0 z13.length] (split_Check_ok z13 r15 h16) rfl rfl (af_cons (td_hs rfl rfl) rfl) (.inr rfl) ?_
  refine ok_as rfl rfl ?_
  refine ok_nil ?_
  refine rk_seq ?_
  refine rk_region ?_
  refine ok_v (.d (.agg [.int .u8 3, .int .i64 0, .int .i64 0, .int .i64 0])) rfl rfl ?_
  refine ok_new (.hs 1 4 0 [({ Kind := 3, Size := 0, Share := ({ Num := 0, Den := 0 } : api_Ratio) } : api_Part)].length) (.dat 4 ([({ Kind := 3, Size := 0, Share := ({ Num := 0, Den := 0 } : api_Ratio) } : api_Part)].map enc_api_Part)) rfl rfl ?_
  obtain ⟨r17, h18, h0⟩ := bindE h0
  refine ok_pc [.hs 1 4 0 [({ Kind := 3, Size := 0, Share := ({ Num := 0, Den := 0 } : api_Ratio) } : api_Part)].length] (split_Check_ok [({ Kind := 3, Size := 0, Share := ({ Num := 0, Den := 0 } : api_Ratio) } : api_Part)] r17 h18) rfl rfl (af_cons (td_hs rfl rfl) rfl) (.inr rfl) ?_
  refine ok_as rfl rfl ?_
  refine ok_nil ?_
  refine rk_seq ?_
  refine rk_region ?_
  refine ok_v (.d (.agg [.int .i64 2, .int .i64 1])) rfl rfl ?_
  refine ok_v (.d (.agg [.int .u8 2, .int .i64 0, .int .i64 2, .int .i64 1])) rfl rfl ?_
  refine ok_new (.hs 2 4 0 [({ Kind := 2, Size := 0, Share := ({ Num := 2, Den := 1 } : api_Ratio) } : api_Part)].length) (.dat 4 ([({ Kind := 2, Size := 0, Share := ({ Num := 2, Den := 1 } : api_Ratio) } : api_Part)].map enc_api_Part)) rfl rfl ?_
  obtain ⟨r19, h20, h0⟩ := bindE h0
  refine ok_pc [.hs 2 4 0 [({ Kind := 2, Size := 0, Share := ({ Num := 2, Den := 1 } : api_Ratio) } : api_Part)].length] (split_Check_ok [({ Kind := 2, Size := 0, Share := ({ Num := 2, Den := 1 } : api_Ratio) } : api_Part)] r19 h20) rfl rfl (af_cons (td_hs rfl rfl) rfl) (.inr rfl) ?_
  refine ok_as rfl rfl ?_
  refine ok_nil ?_
  refine rk_seq ?_
  refine rk_region ?_
  refine ok_v (.d (.agg [.int .i64 0, .int .i64 1])) rfl rfl ?_
  refine ok_v (.d (.agg [.int .u8 1, .int .i64 1, .int .i64 0, .int .i64 1])) rfl rfl ?_
  refine ok_new (.hs 3 4 0 [({ Kind := 1, Size := 1, Share := ({ Num := 0, Den := 1 } : api_Ratio) } : api_Part)].length) (.dat 4 ([({ Kind := 1, Size := 1, Share := ({ Num := 0, Den := 1 } : api_Ratio) } : api_Part)].map enc_api_Part)) rfl rfl ?_
  obtain ⟨r21, h22, h0⟩ := bindE h0
  refine ok_pc [.hs 3 4 0 [({ Kind := 1, Size := 1, Share := ({ Num := 0, Den := 1 } : api_Ratio) } : api_Part)].length] (split_Check_ok [({ Kind := 1, Size := 1, Share := ({ Num := 0, Den := 1 } : api_Ratio) } : api_Part)] r21 h22) rfl rfl (af_cons (td_hs rfl rfl) rfl) (.inr rfl) ?_
  refine ok_as rfl rfl ?_
  refine ok_nil ?_
  refine rk_seq ?_
  refine rk_region ?_
  refine ok_fzn (es := 1) ([1000000, 1].map (eI .i64)) rfl rfl rfl rfl rfl ?_
  obtain ⟨r23, h24, h0⟩ := bindE h0
  refine ok_pc [.d (.sl 1 ([1000000, 1].map (eI .i64)))] (split_Cuts_ok [1000000, 1] r23 h24) rfl rfl rfl (.inl rfl) ?_
  refine ok_mv rfl rfl ?_
  refine ok_v (.d (.sl 1 (r23.1.map (eI .i64)))) rfl rfl ?_
  refine ok_v (.d (.int .i64 r23.2)) rfl rfl ?_
  refine ok_as rfl rfl ?_
  refine ok_as rfl rfl ?_
  refine ok_nil ?_
  refine rk_seq ?_
  refine rk_region ?_
  refine ok_fzn (es := 1) ([1, (-1)].map (eI .i64)) rfl rfl rfl rfl rfl ?_
  obtain ⟨r25, h26, h0⟩ := bindE h0
  refine ok_pc [.d (.sl 1 ([1, (-1)].map (eI .i64)))] (split_Cuts_ok [1, (-1)] r25 h26) rfl rfl rfl (.inl rfl) ?_
  refine ok_mv rfl rfl ?_
  refine ok_v (.d (.sl 1 (r25.1.map (eI .i64)))) rfl rfl ?_
  refine ok_v (.d (.int .i64 r25.2)) rfl rfl ?_
  refine ok_as rfl rfl ?_
  refine ok_as rfl rfl ?_
  refine ok_nil ?_
  refine rk_seq ?_
  refine rk_region ?_
  obtain ⟨r27, h28, h0⟩ := bindE h0
  refine ok_pc [.d (.int .i64 1000000), .d (.int .i64 1)] (split_Repeat_ok 1000000 1 r27 h28) rfl rfl rfl (.inl rfl) ?_
  refine ok_mv rfl rfl ?_
  refine ok_v (.d (.sl 1 (r27.1.map (eI .i64)))) rfl rfl ?_
  refine ok_v (.d (.int .i64 r27.2)) rfl rfl ?_
  refine ok_as rfl rfl ?_
  refine ok_as rfl rfl ?_
  refine ok_nil ?_
  refine rk_seq ?_
  refine rk_region ?_
  obtain ⟨r29, h30, h0⟩ := bindE h0
  refine ok_pc [.d (.int .i64 0), .d (.int .i64 5)] (split_Repeat_ok 0 5 r29 h30) rfl rfl rfl (.inl rfl) ?_
  refine ok_mv rfl rfl ?_
  refine ok_v (.d (.sl 1 (r29.1.map (eI .i64)))) rfl rfl ?_
  refine ok_v (.d (.int .i64 r29.2)) rfl rfl ?_
  refine ok_as rfl rfl ?_
  refine ok_as rfl rfl ?_
  refine ok_nil ?_
  refine rk_seq ?_
  refine rk_region ?_
  obtain ⟨r31, h32, h0⟩ := bindE h0
  refine ok_pc [.d (.int .i64 5), .d (.int .i64 0)] (split_Repeat_ok 5 0 r31 h32) rfl rfl rfl (.inl rfl) ?_
  refine ok_mv rfl rfl ?_
  refine ok_v (.d (.sl 1 (r31.1.map (eI .i64)))) rfl rfl ?_
  refine ok_v (.d (.int .i64 r31.2)) rfl rfl ?_
  refine ok_as rfl rfl ?_
  refine ok_as rfl rfl ?_
  refine ok_nil ?_
  refine rk_seq ?_
  refine rk_region ?_
  refine ok_new (.hs 6 1 0 [1, 2].length) (.dat 1 ([1, 2].map (eI .i64))) rfl rfl ?_
  obtain ⟨r33, h34, h0⟩ := bindE h0
  refine ok_pc [.hs 6 1 0 [1, 2].length, .d (.int .i64 1)] (split_At_ok [1, 2] 1 r33 h34) rfl rfl (af_cons (td_hs rfl rfl) (af_cons rfl rfl)) (.inr rfl) ?_
  refine ok_mv rfl rfl ?_
  refine ok_v (.d (.int .i64 r33.1)) rfl rfl ?_
  refine ok_v (.d (.int .i64 r33.2)) rfl rfl ?_
  refine ok_as rfl rfl ?_
  refine ok_as rfl rfl ?_
  refine ok_nil ?_
  refine rk_seq ?_
  refine rk_region ?_
  refine ok_new (.hs 7 1 0 [0, 2].length) (.dat 1 ([0, 2].map (eI .i64))) rfl rfl ?_
  obtain ⟨r35, h36, h0⟩ := bindE h0
  refine ok_pc [.hs 7 1 0 [0, 2].length, .d (.int .i64 2)] (split_At_ok [0, 2] 2 r35 h36) rfl rfl (af_cons (td_hs rfl rfl) (af_cons rfl rfl)) (.inr rfl) ?_
  refine ok_mv rfl rfl ?_
  refine ok_v (.d (.int .i64 r35.1)) rfl rfl ?_
  refine ok_v (.d (.int .i64 r35.2)) rfl rfl ?_
  refine ok_as rfl rfl ?_
  refine ok_as rfl rfl ?_
  refine ok_nil ?_
  refine rk_seq ?_
  refine rk_region ?_
  refine ok_v (.d (.agg [.int .i64 4, .int .i64 1, .int .i64 1])) rfl rfl ?_
  refine ok_v (.d (.agg [.int .u8 0, .int .i64 0, .int .i64 0, .int .i64 0, .int .i64 4, .int .i64 1, .int .i64 1])) rfl rfl ?_
  refine ok_alloc rfl rfl ?_
  refine ok_sto 8 (.dat 7 [[.int .u8 0, .int .i64 0, .int .i64 0, .int .i64 0, .int .i64 4, .int .i64 1, .int .i64 1]]) rfl rfl ?_
  refine ok_nil ?_
  refine rk_seq ?_
  refine rk_region ?_
  refine ok_v (.d (.agg [.int .u8 0, .int .i64 0, .int .i64 0, .int .i64 0, .int .i64 4, .int .i64 1, .int .i64 1])) rfl rfl ?_
  refine ok_fzn (es := 1) ([4].map (eI .i64)) rfl rfl rfl rfl rfl ?_
  obtain ⟨r37, h38, h0⟩ := bindE h0
  refine ok_pc [.d (.agg [.int .u8 0, .int .i64 0, .int .i64 0, .int .i64 0, .int .i64 4, .int .i64 1, .int .i64 1]), .d (.int .i64 3), .d (.sl 1 ([4].map (eI .i64)))] (split_Scopes_ok ({ Frame := ({ Turn := 0, At := ({ X := 0, Y := 0, Z := 0 } : api_Vec) } : api_Frame), Size := ({ X := 4, Y := 1, Z := 1 } : api_Vec) } : api_Scope) 3 [4] r37 h38) rfl rfl rfl (.inl rfl) ?_
  refine ok_mv rfl rfl ?_
  refine ok_v (.d (.sl 7 (r37.1.map enc_api_Scope))) rfl rfl ?_
  refine ok_v (.d (.int .i64 r37.2)) rfl rfl ?_
  refine ok_as rfl rfl ?_
  refine ok_as rfl rfl ?_
  refine ok_nil ?_
  refine rk_seq ?_
  refine rk_region ?_
  refine ok_v (.d (.agg [.int .u8 0, .int .i64 0, .int .i64 0, .int .i64 0, .int .i64 4, .int .i64 1, .int .i64 1])) rfl rfl ?_
  refine ok_fzn (es := 1) ([3].map (eI .i64)) rfl rfl rfl rfl rfl ?_
  obtain ⟨r39, h40, h0⟩ := bindE h0
  refine ok_pc [.d (.agg [.int .u8 0, .int .i64 0, .int .i64 0, .int .i64 0, .int .i64 4, .int .i64 1, .int .i64 1]), .d (.int .i64 0), .d (.sl 1 ([3].map (eI .i64)))] (split_Scopes_ok ({ Frame := ({ Turn := 0, At := ({ X := 0, Y := 0, Z := 0 } : api_Vec) } : api_Frame), Size := ({ X := 4, Y := 1, Z := 1 } : api_Vec) } : api_Scope) 0 [3] r39 h40) rfl rfl rfl (.inl rfl) ?_
  refine ok_mv rfl rfl ?_
  refine ok_v (.d (.sl 7 (r39.1.map enc_api_Scope))) rfl rfl ?_
  refine ok_v (.d (.int .i64 r39.2)) rfl rfl ?_
  refine ok_as rfl rfl ?_
  refine ok_as rfl rfl ?_
  refine ok_nil ?_
  refine rk_seq ?_
  refine rk_region ?_
  refine ok_v (.d (.agg [.int .u8 0, .int .i64 0, .int .i64 0, .int .i64 0, .int .i64 4, .int .i64 1, .int .i64 1])) rfl rfl ?_
  refine ok_fzn (es := 1) ([0, 4].map (eI .i64)) rfl rfl rfl rfl rfl ?_
  obtain ⟨r41, h42, h0⟩ := bindE h0
  refine ok_pc [.d (.agg [.int .u8 0, .int .i64 0, .int .i64 0, .int .i64 0, .int .i64 4, .int .i64 1, .int .i64 1]), .d (.int .i64 0), .d (.sl 1 ([0, 4].map (eI .i64)))] (split_Scopes_ok ({ Frame := ({ Turn := 0, At := ({ X := 0, Y := 0, Z := 0 } : api_Vec) } : api_Frame), Size := ({ X := 4, Y := 1, Z := 1 } : api_Vec) } : api_Scope) 0 [0, 4] r41 h42) rfl rfl rfl (.inl rfl) ?_
  refine ok_mv rfl rfl ?_
  refine ok_v (.d (.sl 7 (r41.1.map enc_api_Scope))) rfl rfl ?_
  refine ok_v (.d (.int .i64 r41.2)) rfl rfl ?_
  refine ok_as rfl rfl ?_
  refine ok_as rfl rfl ?_
  refine ok_nil ?_
  refine rk_seq ?_
  refine rk_region ?_
  refine ok_v (.d (.agg [.int .u8 24, .int .i64 0, .int .i64 0, .int .i64 0])) rfl rfl ?_
  refine ok_v (.d (.agg [.int .u8 24, .int .i64 0, .int .i64 0, .int .i64 0, .int .i64 0, .int .i64 0, .int .i64 0])) rfl rfl ?_
  obtain ⟨r43, h44, h0⟩ := bindE h0
  refine ok_pc [.d (.agg [.int .u8 24, .int .i64 0, .int .i64 0, .int .i64 0, .int .i64 0, .int .i64 0, .int .i64 0]), .d (.int .i64 3), .d (.nilsl)] (pure_le (.cons (.refl _) (.cons (.refl _) (.cons (.nil _) .nil))) (split_Scopes_ok ({ Frame := ({ Turn := 24, At := ({ X := 0, Y := 0, Z := 0 } : api_Vec) } : api_Frame), Size := ({ X := 0, Y := 0, Z := 0 } : api_Vec) } : api_Scope) 3 [] r43 h44)) rfl rfl rfl (.inl rfl) ?_
  refine ok_mv rfl rfl ?_
  refine ok_v (.d (.sl 7 (r43.1.map enc_api_Scope))) rfl rfl ?_
  refine ok_v (.d (.int .i64 r43.2)) rfl rfl ?_
  refine ok_as rfl rfl ?_
  refine ok_as rfl rfl ?_
  refine ok_nil ?_
  refine rk_seq ?_
  refine rk_region ?_
  refine ok_mv rfl rfl ?_
  obtain ⟨r45, h46, h0⟩ := bindE h0
  refine ok_pc [] (l23_alive_ok r45 h46) rfl rfl rfl (.inl rfl) ?_
  refine ok_v (.d (.bool r45)) rfl rfl ?_
  obtain ⟨c47, h48, h0⟩ := bindE h0
  refine ok_cutQ 4 (fun A st => ∃ (j49 j50 j51 : V), st = A [(148, .d (.bool c47)), (147, j51), (146, j50), (145, j49)]) ?_ ?_
  · refine ok_mvB rfl rfl h48 (fun h48 => ?_) (fun h48 => ?_)
    · refine ok_mv rfl rfl ?_
      refine ok_v (.d (.bool (r1.2 == 16))) rfl rfl ?_
      refine ok_v (.d (.bool (r1.2 == 16))) rfl rfl ?_
      refine ok_nil ?_
      obtain rfl := someE h48
      exact ⟨_, _, _, rfl⟩
    · refine ok_sg rfl ?_
      refine ok_sg rfl ?_
      refine ok_v (.d (.bool false)) rfl rfl ?_
      refine ok_nil ?_
      obtain rfl := someE h48
      exact ⟨_, _, _, rfl⟩
  · rintro _ ⟨j49, j50, j51, rfl⟩
    obtain ⟨c52, h53, h0⟩ := bindE h0
    refine ok_cutQ 4 (fun A st => ∃ (j54 j55 j56 : V), st = A [(152, .d (.bool c52)), (151, j56), (150, j55), (149, j54)]) ?_ ?_
    · refine ok_mvB rfl rfl h53 (fun h53 => ?_) (fun h53 => ?_)
      · refine ok_mv rfl rfl ?_
        refine ok_v (.d (.bool (r3.2 == 28))) rfl rfl ?_
        refine ok_v (.d (.bool (r3.2 == 28))) rfl rfl ?_
        refine ok_nil ?_
        obtain rfl := someE h53
        exact ⟨_, _, _, rfl⟩
      · refine ok_sg rfl ?_
        refine ok_sg rfl ?_
        refine ok_v (.d (.bool false)) rfl rfl ?_
        refine ok_nil ?_
        obtain rfl := someE h53
        exact ⟨_, _, _, rfl⟩
    · rintro _ ⟨j54, j55, j56, rfl⟩
      obtain ⟨c57, h58, h0⟩ := bindE h0
      refine ok_cutQ 4 (fun A st => ∃ (j59 j60 j61 : V), st = A [(156, .d (.bool c57)), (155, j61), (154, j60), (153, j59)]) ?_ ?_
      · refine ok_mvB rfl rfl h58 (fun h58 => ?_) (fun h58 => ?_)
        · refine ok_mv rfl rfl ?_
          refine ok_v (.d (.bool (r5.2 == 0))) rfl rfl ?_
          refine ok_v (.d (.bool (r5.2 == 0))) rfl rfl ?_
          refine ok_nil ?_
          obtain rfl := someE h58
          exact ⟨_, _, _, rfl⟩
        · refine ok_sg rfl ?_
          refine ok_sg rfl ?_
          refine ok_v (.d (.bool false)) rfl rfl ?_
          refine ok_nil ?_
          obtain rfl := someE h58
          exact ⟨_, _, _, rfl⟩
      · rintro _ ⟨j59, j60, j61, rfl⟩
        refine ok_mvB rfl rfl h0 (fun h0 => ?_) (fun h0 => ?_)
        · refine ok_mv rfl rfl ?_
          refine ok_new (.hs 12 1 0 [4].length) (.dat 1 ([4].map (eI .i64))) rfl rfl ?_
          obtain ⟨r64, h65, h0⟩ := bindE h0
          refine ok_pc [.d (.sl 1 (r5.1.map (eI .i64))), .hs 12 1 0 [4].length] (r23_Same_ok r5.1 [4] r64 h65) rfl rfl (af_cons rfl (af_cons (td_hs rfl rfl) rfl)) (.inr rfl) ?_
          refine ok_v (.d (.bool r64)) rfl rfl ?_
          obtain ⟨c66, h67, h0⟩ := bindE h0
          refine ok_cutQ 4 (fun A st => ∃ (j68 j69 j70 : V), st = A [(165, .d (.bool c66)), (164, j70), (163, j69), (162, j68)]) ?_ ?_
          · refine ok_mvB rfl rfl h67 (fun h67 => ?_) (fun h67 => ?_)
            · refine ok_mv rfl rfl ?_
              refine ok_v (.d (.bool (r7.2 == 2))) rfl rfl ?_
              refine ok_v (.d (.bool (r7.2 == 2))) rfl rfl ?_
              refine ok_nil ?_
              obtain rfl := someE h67
              exact ⟨_, _, _, rfl⟩
            · refine ok_sg rfl ?_
              refine ok_sg rfl ?_
              refine ok_v (.d (.bool false)) rfl rfl ?_
              refine ok_nil ?_
              obtain rfl := someE h67
              exact ⟨_, _, _, rfl⟩
          · rintro _ ⟨j68, j69, j70, rfl⟩
            obtain ⟨c71, h72, h0⟩ := bindE h0
            refine ok_cutQ 4 (fun A st => ∃ (j73 j74 j75 : V), st = A [(169, .d (.bool c71)), (168, j75), (167, j74), (166, j73)]) ?_ ?_
            · refine ok_mvB rfl rfl h72 (fun h72 => ?_) (fun h72 => ?_)
              · refine ok_mv rfl rfl ?_
                refine ok_v (.d (.bool (r9.2 == 2))) rfl rfl ?_
                refine ok_v (.d (.bool (r9.2 == 2))) rfl rfl ?_
                refine ok_nil ?_
                obtain rfl := someE h72
                exact ⟨_, _, _, rfl⟩
              · refine ok_sg rfl ?_
                refine ok_sg rfl ?_
                refine ok_v (.d (.bool false)) rfl rfl ?_
                refine ok_nil ?_
                obtain rfl := someE h72
                exact ⟨_, _, _, rfl⟩
            · rintro _ ⟨j73, j74, j75, rfl⟩
              obtain ⟨c76, h77, h0⟩ := bindE h0
              refine ok_cutQ 4 (fun A st => ∃ (j78 j79 j80 : V), st = A [(173, .d (.bool c76)), (172, j80), (171, j79), (170, j78)]) ?_ ?_
              · refine ok_mvB rfl rfl h77 (fun h77 => ?_) (fun h77 => ?_)
                · refine ok_mv rfl rfl ?_
                  refine ok_v (.d (.bool (r11.2 == 0))) rfl rfl ?_
                  refine ok_v (.d (.bool (r11.2 == 0))) rfl rfl ?_
                  refine ok_nil ?_
                  obtain rfl := someE h77
                  exact ⟨_, _, _, rfl⟩
                · refine ok_sg rfl ?_
                  refine ok_sg rfl ?_
                  refine ok_v (.d (.bool false)) rfl rfl ?_
                  refine ok_nil ?_
                  obtain rfl := someE h77
                  exact ⟨_, _, _, rfl⟩
              · rintro _ ⟨j78, j79, j80, rfl⟩
                obtain ⟨c81, h82, h0⟩ := bindE h0
                refine ok_cutQ 5 (fun A st => ∃ (j83 j84 j85 j86 : V), st = A [(178, .d (.bool c81)), (177, j86), (176, j85), (175, j84), (174, j83)]) ?_ ?_
                · refine ok_mvB rfl rfl h82 (fun h82 => ?_) (fun h82 => ?_)
                  · refine ok_mv rfl rfl ?_
                    refine ok_ln rfl rfl rfl rfl ?_
                    refine ok_v (.d (.bool ((r11.1.length : Int) == 0))) rfl rfl ?_
                    refine ok_v (.d (.bool ((r11.1.length : Int) == 0))) rfl rfl ?_
                    refine ok_nil ?_
                    obtain rfl := someE h82
                    exact ⟨_, _, _, _, rfl⟩
                  · refine ok_sg rfl ?_
                    refine ok_sg rfl ?_
                    refine ok_sg rfl ?_
                    refine ok_v (.d (.bool false)) rfl rfl ?_
                    refine ok_nil ?_
                    obtain rfl := someE h82
                    exact ⟨_, _, _, _, rfl⟩
                · rintro _ ⟨j83, j84, j85, j86, rfl⟩
                  obtain ⟨c87, h88, h0⟩ := bindE h0
                  refine ok_cutQ 4 (fun A st => ∃ (j89 j90 j91 : V), st = A [(182, .d (.bool c87)), (181, j91), (180, j90), (179, j89)]) ?_ ?_
                  · refine ok_mvB rfl rfl h88 (fun h88 => ?_) (fun h88 => ?_)
                    · refine ok_mv rfl rfl ?_
                      refine ok_v (.d (.bool (r15 == 4))) rfl rfl ?_
                      refine ok_v (.d (.bool (r15 == 4))) rfl rfl ?_
                      refine ok_nil ?_
                      obtain rfl := someE h88
                      exact ⟨_, _, _, rfl⟩
                    · refine ok_sg rfl ?_
                      refine ok_sg rfl ?_
                      refine ok_v (.d (.bool false)) rfl rfl ?_
                      refine ok_nil ?_
                      obtain rfl := someE h88
                      exact ⟨_, _, _, rfl⟩
                  · rintro _ ⟨j89, j90, j91, rfl⟩
                    obtain ⟨c92, h93, h0⟩ := bindE h0
                    refine ok_cutQ 4 (fun A st => ∃ (j94 j95 j96 : V), st = A [(186, .d (.bool c92)), (185, j96), (184, j95), (183, j94)]) ?_ ?_
                    · refine ok_mvB rfl rfl h93 (fun h93 => ?_) (fun h93 => ?_)
                      · refine ok_mv rfl rfl ?_
                        refine ok_v (.d (.bool (r17 == 8))) rfl rfl ?_
                        refine ok_v (.d (.bool (r17 == 8))) rfl rfl ?_
                        refine ok_nil ?_
                        obtain rfl := someE h93
                        exact ⟨_, _, _, rfl⟩
                      · refine ok_sg rfl ?_
                        refine ok_sg rfl ?_
                        refine ok_v (.d (.bool false)) rfl rfl ?_
                        refine ok_nil ?_
                        obtain rfl := someE h93
                        exact ⟨_, _, _, rfl⟩
                    · rintro _ ⟨j94, j95, j96, rfl⟩
                      obtain ⟨c97, h98, h0⟩ := bindE h0
                      refine ok_cutQ 4 (fun A st => ∃ (j99 j100 j101 : V), st = A [(190, .d (.bool c97)), (189, j101), (188, j100), (187, j99)]) ?_ ?_
                      · refine ok_mvB rfl rfl h98 (fun h98 => ?_) (fun h98 => ?_)
                        · refine ok_mv rfl rfl ?_
                          refine ok_v (.d (.bool (r19 == 8))) rfl rfl ?_
                          refine ok_v (.d (.bool (r19 == 8))) rfl rfl ?_
                          refine ok_nil ?_
                          obtain rfl := someE h98
                          exact ⟨_, _, _, rfl⟩
                        · refine ok_sg rfl ?_
                          refine ok_sg rfl ?_
                          refine ok_v (.d (.bool false)) rfl rfl ?_
                          refine ok_nil ?_
                          obtain rfl := someE h98
                          exact ⟨_, _, _, rfl⟩
                      · rintro _ ⟨j99, j100, j101, rfl⟩
                        obtain ⟨c102, h103, h0⟩ := bindE h0
                        refine ok_cutQ 4 (fun A st => ∃ (j104 j105 j106 : V), st = A [(194, .d (.bool c102)), (193, j106), (192, j105), (191, j104)]) ?_ ?_
                        · refine ok_mvB rfl rfl h103 (fun h103 => ?_) (fun h103 => ?_)
                          · refine ok_mv rfl rfl ?_
                            refine ok_v (.d (.bool (r21 == 8))) rfl rfl ?_
                            refine ok_v (.d (.bool (r21 == 8))) rfl rfl ?_
                            refine ok_nil ?_
                            obtain rfl := someE h103
                            exact ⟨_, _, _, rfl⟩
                          · refine ok_sg rfl ?_
                            refine ok_sg rfl ?_
                            refine ok_v (.d (.bool false)) rfl rfl ?_
                            refine ok_nil ?_
                            obtain rfl := someE h103
                            exact ⟨_, _, _, rfl⟩
                        · rintro _ ⟨j104, j105, j106, rfl⟩
                          obtain ⟨c107, h108, h0⟩ := bindE h0
                          refine ok_cutQ 4 (fun A st => ∃ (j109 j110 j111 : V), st = A [(198, .d (.bool c107)), (197, j111), (196, j110), (195, j109)]) ?_ ?_
                          · refine ok_mvB rfl rfl h108 (fun h108 => ?_) (fun h108 => ?_)
                            · refine ok_mv rfl rfl ?_
                              refine ok_v (.d (.bool (r23.2 == 16))) rfl rfl ?_
                              refine ok_v (.d (.bool (r23.2 == 16))) rfl rfl ?_
                              refine ok_nil ?_
                              obtain rfl := someE h108
                              exact ⟨_, _, _, rfl⟩
                            · refine ok_sg rfl ?_
                              refine ok_sg rfl ?_
                              refine ok_v (.d (.bool false)) rfl rfl ?_
                              refine ok_nil ?_
                              obtain rfl := someE h108
                              exact ⟨_, _, _, rfl⟩
                          · rintro _ ⟨j109, j110, j111, rfl⟩
                            obtain ⟨c112, h113, h0⟩ := bindE h0
                            refine ok_cutQ 4 (fun A st => ∃ (j114 j115 j116 : V), st = A [(202, .d (.bool c112)), (201, j116), (200, j115), (199, j114)]) ?_ ?_
                            · refine ok_mvB rfl rfl h113 (fun h113 => ?_) (fun h113 => ?_)
                              · refine ok_mv rfl rfl ?_
                                refine ok_v (.d (.bool (r25.2 == 8))) rfl rfl ?_
                                refine ok_v (.d (.bool (r25.2 == 8))) rfl rfl ?_
                                refine ok_nil ?_
                                obtain rfl := someE h113
                                exact ⟨_, _, _, rfl⟩
                              · refine ok_sg rfl ?_
                                refine ok_sg rfl ?_
                                refine ok_v (.d (.bool false)) rfl rfl ?_
                                refine ok_nil ?_
                                obtain rfl := someE h113
                                exact ⟨_, _, _, rfl⟩
                            · rintro _ ⟨j114, j115, j116, rfl⟩
                              obtain ⟨c117, h118, h0⟩ := bindE h0
                              refine ok_cutQ 4 (fun A st => ∃ (j119 j120 j121 : V), st = A [(206, .d (.bool c117)), (205, j121), (204, j120), (203, j119)]) ?_ ?_
                              · refine ok_mvB rfl rfl h118 (fun h118 => ?_) (fun h118 => ?_)
                                · refine ok_mv rfl rfl ?_
                                  refine ok_v (.d (.bool (r27.2 == 4))) rfl rfl ?_
                                  refine ok_v (.d (.bool (r27.2 == 4))) rfl rfl ?_
                                  refine ok_nil ?_
                                  obtain rfl := someE h118
                                  exact ⟨_, _, _, rfl⟩
                                · refine ok_sg rfl ?_
                                  refine ok_sg rfl ?_
                                  refine ok_v (.d (.bool false)) rfl rfl ?_
                                  refine ok_nil ?_
                                  obtain rfl := someE h118
                                  exact ⟨_, _, _, rfl⟩
                              · rintro _ ⟨j119, j120, j121, rfl⟩
                                obtain ⟨c122, h123, h0⟩ := bindE h0
                                refine ok_cutQ 4 (fun A st => ∃ (j124 j125 j126 : V), st = A [(210, .d (.bool c122)), (209, j126), (208, j125), (207, j124)]) ?_ ?_
                                · refine ok_mvB rfl rfl h123 (fun h123 => ?_) (fun h123 => ?_)
                                  · refine ok_mv rfl rfl ?_
                                    refine ok_v (.d (.bool (r29.2 == 0))) rfl rfl ?_
                                    refine ok_v (.d (.bool (r29.2 == 0))) rfl rfl ?_
                                    refine ok_nil ?_
                                    obtain rfl := someE h123
                                    exact ⟨_, _, _, rfl⟩
                                  · refine ok_sg rfl ?_
                                    refine ok_sg rfl ?_
                                    refine ok_v (.d (.bool false)) rfl rfl ?_
                                    refine ok_nil ?_
                                    obtain rfl := someE h123
                                    exact ⟨_, _, _, rfl⟩
                                · rintro _ ⟨j124, j125, j126, rfl⟩
                                  refine ok_mvB rfl rfl h0 (fun h0 => ?_) (fun h0 => ?_)
                                  · refine ok_mv rfl rfl ?_
                                    refine ok_new (.hs 13 1 0 [0].length) (.dat 1 ([0].map (eI .i64))) rfl rfl ?_
                                    obtain ⟨r129, h130, h0⟩ := bindE h0
                                    refine ok_pc [.d (.sl 1 (r29.1.map (eI .i64))), .hs 13 1 0 [0].length] (r23_Same_ok r29.1 [0] r129 h130) rfl rfl (af_cons rfl (af_cons (td_hs rfl rfl) rfl)) (.inr rfl) ?_
                                    refine ok_v (.d (.bool r129)) rfl rfl ?_
                                    obtain ⟨c131, h132, h0⟩ := bindE h0
                                    refine ok_cutQ 4 (fun A st => ∃ (j133 j134 j135 : V), st = A [(219, .d (.bool c131)), (218, j135), (217, j134), (216, j133)]) ?_ ?_
                                    · refine ok_mvB rfl rfl h132 (fun h132 => ?_) (fun h132 => ?_)
                                      · refine ok_mv rfl rfl ?_
                                        refine ok_v (.d (.bool (r31.2 == 2))) rfl rfl ?_
                                        refine ok_v (.d (.bool (r31.2 == 2))) rfl rfl ?_
                                        refine ok_nil ?_
                                        obtain rfl := someE h132
                                        exact ⟨_, _, _, rfl⟩
                                      · refine ok_sg rfl ?_
                                        refine ok_sg rfl ?_
                                        refine ok_v (.d (.bool false)) rfl rfl ?_
                                        refine ok_nil ?_
                                        obtain rfl := someE h132
                                        exact ⟨_, _, _, rfl⟩
                                    · rintro _ ⟨j133, j134, j135, rfl⟩
                                      obtain ⟨c136, h137, h0⟩ := bindE h0
                                      refine ok_cutQ 4 (fun A st => ∃ (j138 j139 j140 : V), st = A [(223, .d (.bool c136)), (222, j140), (221, j139), (220, j138)]) ?_ ?_
                                      · refine ok_mvB rfl rfl h137 (fun h137 => ?_) (fun h137 => ?_)
                                        · refine ok_mv rfl rfl ?_
                                          refine ok_v (.d (.bool (r33.2 == 8))) rfl rfl ?_
                                          refine ok_v (.d (.bool (r33.2 == 8))) rfl rfl ?_
                                          refine ok_nil ?_
                                          obtain rfl := someE h137
                                          exact ⟨_, _, _, rfl⟩
                                        · refine ok_sg rfl ?_
                                          refine ok_sg rfl ?_
                                          refine ok_v (.d (.bool false)) rfl rfl ?_
                                          refine ok_nil ?_
                                          obtain rfl := someE h137
                                          exact ⟨_, _, _, rfl⟩
                                      · rintro _ ⟨j138, j139, j140, rfl⟩
                                        obtain ⟨c141, h142, h0⟩ := bindE h0
                                        refine ok_cutQ 4 (fun A st => ∃ (j143 j144 j145 : V), st = A [(227, .d (.bool c141)), (226, j145), (225, j144), (224, j143)]) ?_ ?_
                                        · refine ok_mvB rfl rfl h142 (fun h142 => ?_) (fun h142 => ?_)
                                          · refine ok_mv rfl rfl ?_
                                            refine ok_v (.d (.bool (r35.2 == 2))) rfl rfl ?_
                                            refine ok_v (.d (.bool (r35.2 == 2))) rfl rfl ?_
                                            refine ok_nil ?_
                                            obtain rfl := someE h142
                                            exact ⟨_, _, _, rfl⟩
                                          · refine ok_sg rfl ?_
                                            refine ok_sg rfl ?_
                                            refine ok_v (.d (.bool false)) rfl rfl ?_
                                            refine ok_nil ?_
                                            obtain rfl := someE h142
                                            exact ⟨_, _, _, rfl⟩
                                        · rintro _ ⟨j143, j144, j145, rfl⟩
                                          obtain ⟨c146, h147, h0⟩ := bindE h0
                                          refine ok_cutQ 4 (fun A st => ∃ (j148 j149 j150 : V), st = A [(231, .d (.bool c146)), (230, j150), (229, j149), (228, j148)]) ?_ ?_
                                          · refine ok_mvB rfl rfl h147 (fun h147 => ?_) (fun h147 => ?_)
                                            · refine ok_mv rfl rfl ?_
                                              refine ok_v (.d (.bool (r37.2 == 2))) rfl rfl ?_
                                              refine ok_v (.d (.bool (r37.2 == 2))) rfl rfl ?_
                                              refine ok_nil ?_
                                              obtain rfl := someE h147
                                              exact ⟨_, _, _, rfl⟩
                                            · refine ok_sg rfl ?_
                                              refine ok_sg rfl ?_
                                              refine ok_v (.d (.bool false)) rfl rfl ?_
                                              refine ok_nil ?_
                                              obtain rfl := someE h147
                                              exact ⟨_, _, _, rfl⟩
                                          · rintro _ ⟨j148, j149, j150, rfl⟩
                                            obtain ⟨c151, h152, h0⟩ := bindE h0
                                            refine ok_cutQ 4 (fun A st => ∃ (j153 j154 j155 : V), st = A [(235, .d (.bool c151)), (234, j155), (233, j154), (232, j153)]) ?_ ?_
                                            · refine ok_mvB rfl rfl h152 (fun h152 => ?_) (fun h152 => ?_)
                                              · refine ok_mv rfl rfl ?_
                                                refine ok_v (.d (.bool (r39.2 == 2))) rfl rfl ?_
                                                refine ok_v (.d (.bool (r39.2 == 2))) rfl rfl ?_
                                                refine ok_nil ?_
                                                obtain rfl := someE h152
                                                exact ⟨_, _, _, rfl⟩
                                              · refine ok_sg rfl ?_
                                                refine ok_sg rfl ?_
                                                refine ok_v (.d (.bool false)) rfl rfl ?_
                                                refine ok_nil ?_
                                                obtain rfl := someE h152
                                                exact ⟨_, _, _, rfl⟩
                                            · rintro _ ⟨j153, j154, j155, rfl⟩
                                              obtain ⟨c156, h157, h0⟩ := bindE h0
                                              refine ok_cutQ 4 (fun A st => ∃ (j158 j159 j160 : V), st = A [(239, .d (.bool c156)), (238, j160), (237, j159), (236, j158)]) ?_ ?_
                                              · refine ok_mvB rfl rfl h157 (fun h157 => ?_) (fun h157 => ?_)
                                                · refine ok_mv rfl rfl ?_
                                                  refine ok_v (.d (.bool (r41.2 == 0))) rfl rfl ?_
                                                  refine ok_v (.d (.bool (r41.2 == 0))) rfl rfl ?_
                                                  refine ok_nil ?_
                                                  obtain rfl := someE h157
                                                  exact ⟨_, _, _, rfl⟩
                                                · refine ok_sg rfl ?_
                                                  refine ok_sg rfl ?_
                                                  refine ok_v (.d (.bool false)) rfl rfl ?_
                                                  refine ok_nil ?_
                                                  obtain rfl := someE h157
                                                  exact ⟨_, _, _, rfl⟩
                                              · rintro _ ⟨j158, j159, j160, rfl⟩
                                                obtain ⟨c161, h162, h0⟩ := bindE h0
                                                refine ok_cutQ 5 (fun A st => ∃ (j163 j164 j165 j166 : V), st = A [(244, .d (.bool c161)), (243, j166), (242, j165), (241, j164), (240, j163)]) ?_ ?_
                                                · refine ok_mvB rfl rfl h162 (fun h162 => ?_) (fun h162 => ?_)
                                                  · refine ok_mv rfl rfl ?_
                                                    refine ok_ln rfl rfl rfl rfl ?_
                                                    refine ok_v (.d (.bool ((r41.1.length : Int) == 2))) rfl rfl ?_
                                                    refine ok_v (.d (.bool ((r41.1.length : Int) == 2))) rfl rfl ?_
                                                    refine ok_nil ?_
                                                    obtain rfl := someE h162
                                                    exact ⟨_, _, _, _, rfl⟩
                                                  · refine ok_sg rfl ?_
                                                    refine ok_sg rfl ?_
                                                    refine ok_sg rfl ?_
                                                    refine ok_v (.d (.bool false)) rfl rfl ?_
                                                    refine ok_nil ?_
                                                    obtain rfl := someE h162
                                                    exact ⟨_, _, _, _, rfl⟩
                                                · rintro _ ⟨j163, j164, j165, j166, rfl⟩
                                                  obtain ⟨c167, h168, h0⟩ := bindE h0
                                                  refine ok_cutQ 4 (fun A st => ∃ (j169 j170 j171 : V), st = A [(248, .d (.bool c167)), (247, j171), (246, j170), (245, j169)]) ?_ ?_
                                                  · refine ok_mvB rfl rfl h168 (fun h168 => ?_) (fun h168 => ?_)
                                                    · refine ok_mv rfl rfl ?_
                                                      refine ok_v (.d (.bool (r43.2 == 8))) rfl rfl ?_
                                                      refine ok_v (.d (.bool (r43.2 == 8))) rfl rfl ?_
                                                      refine ok_nil ?_
                                                      obtain rfl := someE h168
                                                      exact ⟨_, _, _, rfl⟩
                                                    · refine ok_sg rfl ?_
                                                      refine ok_sg rfl ?_
                                                      refine ok_v (.d (.bool false)) rfl rfl ?_
                                                      refine ok_nil ?_
                                                      obtain rfl := someE h168
                                                      exact ⟨_, _, _, rfl⟩
                                                  · rintro _ ⟨j169, j170, j171, rfl⟩
                                                    refine ok_as rfl rfl ?_
                                                    refine ok_nil ?_
                                                    refine rk_ret ?_
                                                    obtain rfl := someE h0
                                                    exact finD (.inr rfl) (v := .d (.bool c167)) rfl rfl (.refl _)
                                  · refine ok_sg rfl ?_
                                    refine ok_sg rfl ?_
                                    refine ok_sg rfl ?_
                                    refine ok_v (.d (.bool false)) rfl rfl ?_
                                    refine ok_mv rfl rfl ?_
                                    refine ok_sg rfl ?_
                                    refine ok_sg rfl ?_
                                    refine ok_v (.d (.bool false)) rfl rfl ?_
                                    refine ok_mv rfl rfl ?_
                                    refine ok_sg rfl ?_
                                    refine ok_sg rfl ?_
                                    refine ok_v (.d (.bool false)) rfl rfl ?_
                                    refine ok_mv rfl rfl ?_
                                    refine ok_sg rfl ?_
                                    refine ok_sg rfl ?_
                                    refine ok_v (.d (.bool false)) rfl rfl ?_
                                    refine ok_mv rfl rfl ?_
                                    refine ok_sg rfl ?_
                                    refine ok_sg rfl ?_
                                    refine ok_v (.d (.bool false)) rfl rfl ?_
                                    refine ok_mv rfl rfl ?_
                                    refine ok_sg rfl ?_
                                    refine ok_sg rfl ?_
                                    refine ok_v (.d (.bool false)) rfl rfl ?_
                                    refine ok_mv rfl rfl ?_
                                    refine ok_sg rfl ?_
                                    refine ok_sg rfl ?_
                                    refine ok_v (.d (.bool false)) rfl rfl ?_
                                    refine ok_mv rfl rfl ?_
                                    refine ok_sg rfl ?_
                                    refine ok_sg rfl ?_
                                    refine ok_sg rfl ?_
                                    refine ok_v (.d (.bool false)) rfl rfl ?_
                                    refine ok_mv rfl rfl ?_
                                    refine ok_sg rfl ?_
                                    refine ok_sg rfl ?_
                                    refine ok_v (.d (.bool false)) rfl rfl ?_
                                    refine ok_as rfl rfl ?_
                                    refine ok_nil ?_
                                    refine rk_ret ?_
                                    obtain rfl := someE h0
                                    exact finD (.inr rfl) (v := .d (.bool false)) rfl rfl (.refl _)
        · refine ok_sg rfl ?_
          refine ok_sg rfl ?_
          refine ok_sg rfl ?_
          refine ok_v (.d (.bool false)) rfl rfl ?_
          refine ok_mv rfl rfl ?_
          refine ok_sg rfl ?_
          refine ok_sg rfl ?_
          refine ok_v (.d (.bool false)) rfl rfl ?_
          refine ok_mv rfl rfl ?_
          refine ok_sg rfl ?_
          refine ok_sg rfl ?_
          refine ok_v (.d (.bool false)) rfl rfl ?_
          refine ok_mv rfl rfl ?_
          refine ok_sg rfl ?_
          refine ok_sg rfl ?_
          refine ok_v (.d (.bool false)) rfl rfl ?_
          refine ok_mv rfl rfl ?_
          refine ok_sg rfl ?_
          refine ok_sg rfl ?_
          refine ok_sg rfl ?_
          refine ok_v (.d (.bool false)) rfl rfl ?_
          refine ok_mv rfl rfl ?_
          refine ok_sg rfl ?_
          refine ok_sg rfl ?_
          refine ok_v (.d (.bool false)) rfl rfl ?_
          refine ok_mv rfl rfl ?_
          refine ok_sg rfl ?_
          refine ok_sg rfl ?_
          refine ok_v (.d (.bool false)) rfl rfl ?_
          refine ok_mv rfl rfl ?_
          refine ok_sg rfl ?_
          refine ok_sg rfl ?_
          refine ok_v (.d (.bool false)) rfl rfl ?_
          refine ok_mv rfl rfl ?_
          refine ok_sg rfl ?_
          refine ok_sg rfl ?_
          refine ok_v (.d (.bool false)) rfl rfl ?_
          refine ok_mv rfl rfl ?_
          refine ok_sg rfl ?_
          refine ok_sg rfl ?_
          refine ok_v (.d (.bool false)) rfl rfl ?_
          refine ok_mv rfl rfl ?_
          refine ok_sg rfl ?_
          refine ok_sg rfl ?_
          refine ok_v (.d (.bool false)) rfl rfl ?_
          refine ok_mv rfl rfl ?_
          refine ok_sg rfl ?_
          refine ok_sg rfl ?_
          refine ok_v (.d (.bool false)) rfl rfl ?_
          refine ok_mv rfl rfl ?_
          refine ok_sg rfl ?_
          refine ok_sg rfl ?_
          refine ok_v (.d (.bool false)) rfl rfl ?_
          refine ok_mv rfl rfl ?_
          refine ok_sg rfl ?_
          refine ok_sg rfl ?_
          refine ok_sg rfl ?_
          refine ok_v (.d (.bool false)) rfl rfl ?_
          refine ok_mv rfl rfl ?_
          refine ok_sg rfl ?_
          refine ok_sg rfl ?_
          refine ok_v (.d (.bool false)) rfl rfl ?_
          refine ok_mv rfl rfl ?_
          refine ok_sg rfl ?_
          refine ok_sg rfl ?_
          refine ok_v (.d (.bool false)) rfl rfl ?_
          refine ok_mv rfl rfl ?_
          refine ok_sg rfl ?_
          refine ok_sg rfl ?_
          refine ok_v (.d (.bool false)) rfl rfl ?_
          refine ok_mv rfl rfl ?_
          refine ok_sg rfl ?_
          refine ok_sg rfl ?_
          refine ok_v (.d (.bool false)) rfl rfl ?_
          refine ok_mv rfl rfl ?_
          refine ok_sg rfl ?_
          refine ok_sg rfl ?_
          refine ok_v (.d (.bool false)) rfl rfl ?_
          refine ok_mv rfl rfl ?_
          refine ok_sg rfl ?_
          refine ok_sg rfl ?_
          refine ok_v (.d (.bool false)) rfl rfl ?_
          refine ok_mv rfl rfl ?_
          refine ok_sg rfl ?_
          refine ok_sg rfl ?_
          refine ok_sg rfl ?_
          refine ok_v (.d (.bool false)) rfl rfl ?_
          refine ok_mv rfl rfl ?_
          refine ok_sg rfl ?_
          refine ok_sg rfl ?_
          refine ok_v (.d (.bool false)) rfl rfl ?_
          refine ok_as rfl rfl ?_
          refine ok_nil ?_
          refine rk_ret ?_
          obtain rfl := someE h0
          exact finD (.inr rfl) (v := .d (.bool false)) rfl rfl (.refl _)
end Go.Proofs.Ytbfdjpffambpfaa
