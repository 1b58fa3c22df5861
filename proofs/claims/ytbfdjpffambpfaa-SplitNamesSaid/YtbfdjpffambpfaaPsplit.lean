/- PLAIN FUNCTIONS, lifted by program. -/
import Derived.Test.YtbfdjpffambpfaaLf4
namespace Go.Sh
open Go Go.Am
structure api_Ratio where
  Num : Int
  Den : Int
  deriving DecidableEq

structure api_Part where
  Kind : Int
  Size : Int
  Share : api_Ratio
  deriving DecidableEq

def enc_api_Part (x : api_Part) : List DV := [.int .u8 x.Kind, .int .i64 x.Size, .int .i64 x.Share.Num, .int .i64 x.Share.Den]

noncomputable def slices_IndexFunc_api_Part_api_Part_L1 (p0 : List api_Part) (p1 : api_Part → Option Bool) (a19 : Int) : Option ((Int) ⊕ ((Unit) ⊕ (Int))) :=
  cond (decide (a19 < (p0.length : Int))) ((idx p0 a19).bind fun v27 => (p1 v27).bind fun r29 => cond r29 (some (.inr (.inr a19))) (some (.inl (w64 (a19 + 1))))) (some (.inr (.inl ())))

/-- slices.IndexFunc[[]gambrel/api.Part,gambrel/api.Part] -/
noncomputable def slices_IndexFunc_api_Part_api_Part (p0 : List api_Part) (p1 : api_Part → Option Bool) : Option Int :=
  (loop (slices_IndexFunc_api_Part_api_Part_L1 p0 p1) 0 : Option ((Unit) ⊕ (Int))).bind fun m20 => (match m20 with | .inl b22 => some (-1) | .inr x1 => some x1)

/-- slices.ContainsFunc[[]gambrel/api.Part,gambrel/api.Part] -/
noncomputable def slices_ContainsFunc_api_Part_api_Part (p0 : List api_Part) (p1 : api_Part → Option Bool) : Option Bool :=
  (slices_IndexFunc_api_Part_api_Part p0 p1).bind fun r1 => some (decide (r1 ≥ 0))

/-- gambrel/ratio.size -/
noncomputable def ratio_size (p0 : Int) : Option Int :=
  cond (decide (p0 < 0)) (some (IntKind.wrap .u64 (0 - (IntKind.wrap .u64 p0)))) (some (IntKind.wrap .u64 p0))

noncomputable def ratio_gcd_L1 (a7 : Int × Int) : Option ((Int × Int) ⊕ (Int)) :=
  cond (a7.2 != 0) ((remK a7.1 a7.2).bind fun q11 => some (.inl (a7.2, q11))) (some (.inr a7.1))

/-- gambrel/ratio.gcd -/
noncomputable def ratio_gcd (p0 : Int) (p1 : Int) : Option Int :=
  (loop ratio_gcd_L1 (p0, p1)).bind fun b10 => some b10

/-- gambrel/ratio.Check -/
noncomputable def ratio_Check (p0 : api_Ratio) : Option Int :=
  (cond (decide (p0.Den < 1)) (some true) (some (decide (p0.Den > 1000000000)))).bind fun c1 => (cond c1 (some true) ((ratio_size p0.Num).bind fun r16 => some (decide (r16 > 1000000000)))).bind fun c9 => (cond c9 (some true) ((ratio_size p0.Num).bind fun r33 => (ratio_gcd r33 (IntKind.wrap .u64 p0.Den)).bind fun r35 => some (r35 != 1))).bind fun c22 => cond c22 (some 8) (some 0)

/-- gambrel/split.valid -/
noncomputable def split_valid (p0 : api_Part) : Option Bool :=
  cond (p0.Kind == 1) ((cond (decide (p0.Size ≥ 0)) (some (decide (p0.Size ≤ 1000000))) (some false)).bind fun c55 => (cond c55 (some ((p0.Share.Num == 0) && ((p0.Share.Den == 0) && true))) (some false)).bind fun c61 => some c61) (cond (p0.Kind == 3) ((cond (decide (p0.Size ≥ 1)) (some (decide (p0.Size ≤ 1000000))) (some false)).bind fun c68 => (cond c68 (some ((p0.Share.Num == 0) && ((p0.Share.Den == 0) && true))) (some false)).bind fun c74 => some c74) (cond (p0.Kind == 2) ((cond (p0.Size == 0) ((ratio_Check p0.Share).bind fun r90 => some (r90 == 0)) (some false)).bind fun c83 => (cond c83 (some (decide (p0.Share.Num ≥ 0))) (some false)).bind fun c92 => (cond c92 (some (decide (p0.Share.Num ≤ p0.Share.Den))) (some false)).bind fun c99 => some c99) (some false)))

/-- gambrel/split.Check$1 -/
noncomputable def split_Check_1 (p0 : api_Part) : Option Bool :=
  (split_valid p0).bind fun r1 => some (!r1)

/-- gambrel/split.Check -/
noncomputable def split_Check (p0 : List api_Part) : Option Int :=
  cond (decide ((p0.length : Int) > 200)) (some 4) ((slices_ContainsFunc_api_Part_api_Part p0 (fun x0 => split_Check_1 x0)).bind fun r1 => cond r1 (some 8) (some 0))

/-- gambrel/split.Sizes$1 -/
noncomputable def split_Sizes_1_e1 (p0 : Int) (p1 : Int) (p2 : List Int) (p3 : Int) : Option (List Int × Int) :=
  (idx p2 p0).bind fun v101 => some (p2.set p0.toNat p1, w64 (p3 - p1))

noncomputable def split_shares_e1_L1 (p1 : List Int) (a111 : Int × Int) : Option ((Int × Int) ⊕ (Int)) :=
  cond (decide (a111.1 < (p1.length : Int))) ((idx p1 a111.1).bind fun v117 => some (.inl (w64 (a111.1 + 1), w64 (a111.2 + v117)))) (some (.inr a111.2))

/-- gambrel/split.shares -/
noncomputable def split_shares_e1 (p0 : Int) (p1 : List Int) : Option (List Int × Int × Int) :=
  (loop (split_shares_e1_L1 p1) (0, 0)).bind fun b114 => some (p1, p0, b114)

noncomputable def split_Sizes_L1 (p1 : List api_Part) (p0 : Int) (a57 : Int × Int × List Int × List Int × List Int) : Option ((Int × Int × List Int × List Int × List Int) ⊕ (Int × List Int × List Int × List Int)) :=
  cond (decide (a57.1 < (p1.length : Int))) (((idx p1 a57.1).bind fun v82 => cond (v82.Kind == 1) ((split_Sizes_1_e1 a57.1 v82.Size a57.2.2.2.1 a57.2.1).bind fun e84 => (lenEq e84.1.length a57.2.2.2.1.length).bind fun u86 => some (e84.2, a57.2.2.1, e84.1, a57.2.2.2.2)) (cond (v82.Kind == 2) ((quo64 (w64 (p0 * v82.Share.Num)) v82.Share.Den).bind fun q89 => (split_Sizes_1_e1 a57.1 q89 a57.2.2.2.1 a57.2.1).bind fun e91 => (lenEq e91.1.length a57.2.2.2.1.length).bind fun u93 => some (e91.2, a57.2.2.1, e91.1, a57.2.2.2.2)) ((app 8 a57.2.2.1 [v82.Size]).bind fun z96 => (app 8 a57.2.2.2.2 [a57.1]).bind fun z98 => some (a57.2.1, z96, a57.2.2.2.1, z98)))).bind fun b81 => some (.inl (w64 (a57.1 + 1), b81.1, b81.2.1, b81.2.2.1, b81.2.2.2))) (some (.inr (a57.2.1, a57.2.2.1, a57.2.2.2.1, a57.2.2.2.2)))

noncomputable def split_Sizes_L2 (e106 : List Int × Int × Int) (a279 : Int × Int × Int × List Int × List Int) : Option ((Int × Int × Int × List Int × List Int) ⊕ (List Int)) :=
  cond (decide (a279.2.2.1 < (e106.1.length : Int))) ((idx e106.1 a279.2.2.1).bind fun v295 => (quo64 (w64 (e106.2.1 * (w64 (a279.1 + v295)))) e106.2.2).bind fun q297 => ((idx a279.2.2.2.1 0).bind fun v308 => (idx a279.2.2.2.2 v308).bind fun v310 => (slc a279.2.2.2.1 1 a279.2.2.2.1.length).bind fun z312 => some (z312, a279.2.2.2.2.set v308.toNat (w64 (q297 - a279.2.1)))).bind fun b307 => cond (!true) (some (.inr b307.2)) (some (.inl (w64 (a279.1 + v295), q297, w64 (a279.2.2.1 + 1), b307.1, b307.2)))) (some (.inr a279.2.2.2.2))

/-- gambrel/split.Sizes -/
noncomputable def split_Sizes (p0 : Int) (p1 : List api_Part) : Option (List Int × Int) :=
  (split_Check p1).bind fun r1 => cond (r1 != 0) (some ([], r1)) ((cond (decide (p0 < 0)) (some true) (some (decide (p0 > 1000000)))).bind fun c3 => cond c3 (some ([], 2)) ((mks 8 (p1.length : Int) 0).bind fun z8 => (loop (split_Sizes_L1 p1 p0) (0, p0, [], z8, [])).bind fun b60 => cond (decide (b60.1 < 0)) (some ([], 16)) ((cond (decide (b60.1 > 0)) (some ((b60.2.2.2.length : Int) == 0)) (some false)).bind fun c100 => cond c100 (some ([], 28)) ((split_shares_e1 b60.1 b60.2.1).bind fun e106 => (lenEq e106.1.length b60.2.1.length).bind fun u108 => ((loop (split_Sizes_L2 e106) (0, 0, 0, b60.2.2.2, b60.2.2.1)).bind fun x0 => some x0).bind fun b222 => some (b222, 0)))))

noncomputable def r01_common_L1 (a7 : Int × Int) : Option ((Int × Int) ⊕ (Int)) :=
  cond (a7.2 != 0) ((rem64 a7.1 a7.2).bind fun q11 => some (.inl (a7.2, q11))) (some (.inr a7.1))

/-- gambrel/gambrelref01.common -/
noncomputable def r01_common (p0 : Int) (p1 : Int) : Option Int :=
  (loop r01_common_L1 (p0, p1)).bind fun b10 => cond (decide (b10 < 0)) (some (w64 (0 - b10))) (some b10)

/-- gambrel/gambrelref01.Check -/
noncomputable def r01_Check (p0 : api_Ratio) : Option Int :=
  (cond (decide (p0.Den < 1)) (some true) (some (decide (p0.Den > 1000000000)))).bind fun c1 => (cond c1 (some true) (some (decide (p0.Num < (-1000000000))))).bind fun c7 => (cond c7 (some true) (some (decide (p0.Num > 1000000000)))).bind fun c13 => (cond c13 (some true) ((r01_common p0.Num p0.Den).bind fun r30 => some (r30 != 1))).bind fun c21 => cond c21 (some 8) (some 0)

/-- gambrel/gambrelref23.Valid -/
noncomputable def r23_Valid (p0 : api_Part) : Option Bool :=
  cond (p0.Kind == 2) ((cond (p0.Size == 0) ((r01_Check p0.Share).bind fun r38 => some (r38 == 0)) (some false)).bind fun c31 => (cond c31 (some (decide (p0.Share.Num ≥ 0))) (some false)).bind fun c40 => (cond c40 (some (decide (p0.Share.Num ≤ p0.Share.Den))) (some false)).bind fun c47 => some c47) ((cond (p0.Kind != 1) (some (p0.Kind != 3)) (some false)).bind fun c57 => (cond c57 (some true) (some (!((p0.Share.Num == 0) && ((p0.Share.Den == 0) && true))))).bind fun c63 => cond c63 (some false) ((cond (decide (p0.Size ≥ 0)) (some (decide (p0.Size ≤ 1000000))) (some false)).bind fun c70 => (cond c70 ((cond (decide (p0.Size > 0)) (some true) (some (p0.Kind == 1))).bind fun c93 => some c93) (some false)).bind fun c82 => some c82))

noncomputable def r23_Check_L1 (p0 : List api_Part) (a19 : Int) : Option ((Int) ⊕ ((Unit) ⊕ (Int))) :=
  cond (decide (a19 < (p0.length : Int))) ((idx p0 a19).bind fun v27 => (r23_Valid v27).bind fun r29 => cond (!r29) (some (.inr (.inr 8))) (some (.inl (w64 (a19 + 1))))) (some (.inr (.inl ())))

/-- gambrel/gambrelref23.Check -/
noncomputable def r23_Check (p0 : List api_Part) : Option Int :=
  cond (decide ((p0.length : Int) > 200)) (some 4) ((loop (r23_Check_L1 p0) 0 : Option ((Unit) ⊕ (Int))).bind fun m20 => (match m20 with | .inl b22 => some 0 | .inr x1 => some x1))

/-- gambrel/gambrelref23.own -/
noncomputable def r23_own (p0 : Int) (p1 : api_Part) : Option Int :=
  cond (p1.Kind == 2) ((quo64 (w64 (p0 * p1.Share.Num)) p1.Share.Den).bind fun q3 => some q3) (some p1.Size)

noncomputable def r23_Sizes_L1 (p1 : List api_Part) (p0 : Int) (a35 : Int × Int × Int) : Option ((Int × Int × Int) ⊕ (Int × Int)) :=
  cond (decide (a35.2.2 < (p1.length : Int))) (((idx p1 a35.2.2).bind fun v50 => cond (v50.Kind == 3) ((idx p1 a35.2.2).bind fun v52 => some (a35.1, w64 (a35.2.1 + v52.Size))) ((idx p1 a35.2.2).bind fun v54 => (r23_own p0 v54).bind fun r56 => some (w64 (a35.1 - r56), a35.2.1))).bind fun b49 => some (.inl (b49.1, b49.2, w64 (a35.2.2 + 1)))) (some (.inr (a35.1, a35.2.1)))

noncomputable def r23_Sizes_L2 (p1 : List api_Part) (p0 : Int) (b38 : Int × Int) (a114 : Int × Int × List Int) : Option ((Int × Int × List Int) ⊕ (List Int)) :=
  cond (decide (a114.2.1 < (p1.length : Int))) (((idx p1 a114.2.1).bind fun v143 => cond (v143.Kind != 3) ((idx p1 a114.2.1).bind fun v151 => (r23_own p0 v151).bind fun r153 => (app 8 a114.2.2 [r153]).bind fun z155 => some (a114.1, z155)) ((quo64 (w64 (b38.1 * a114.1)) b38.2).bind fun q157 => (idx p1 a114.2.1).bind fun v159 => (quo64 (w64 (b38.1 * (w64 (a114.1 + v159.Size)))) b38.2).bind fun q161 => (app 8 a114.2.2 [w64 (q161 - q157)]).bind fun z163 => some (w64 (a114.1 + v159.Size), z163))).bind fun b142 => some (.inl (b142.1, w64 (a114.2.1 + 1), b142.2))) (some (.inr a114.2.2))

/-- gambrel/gambrelref23.Sizes -/
noncomputable def r23_Sizes (p0 : Int) (p1 : List api_Part) : Option (List Int × Int) :=
  (r23_Check p1).bind fun r1 => cond (r1 != 0) ((r23_Check p1).bind fun r5 => some ([], r5)) ((cond (decide (p0 < 0)) (some true) (some (decide (p0 > 1000000)))).bind fun c7 => cond c7 (some ([], 2)) ((loop (r23_Sizes_L1 p1 p0) (p0, 0, 0)).bind fun b38 => cond (decide (b38.1 < 0)) (some ([], 16)) ((cond (decide (b38.1 > 0)) (some (b38.2 == 0)) (some false)).bind fun c58 => cond c58 (some ([], 28)) ((loop (r23_Sizes_L2 p1 p0 b38) (0, 0, [])).bind fun b117 => some (b117, 0)))))

noncomputable def r23_Same_L1 (p0 : List Int) (p1 : List Int) (a19 : Int) : Option ((Int) ⊕ ((Unit) ⊕ (Bool))) :=
  cond (decide (a19 < (p0.length : Int))) ((idx p0 a19).bind fun v27 => (idx p1 a19).bind fun v29 => cond (v27 != v29) (some (.inr (.inr false))) (some (.inl (w64 (a19 + 1))))) (some (.inr (.inl ())))

/-- gambrel/gambrelref23.Same -/
noncomputable def r23_Same (p0 : List Int) (p1 : List Int) : Option Bool :=
  cond ((p0.length : Int) != (p1.length : Int)) (some false) ((loop (r23_Same_L1 p0 p1) 0 : Option ((Unit) ⊕ (Bool))).bind fun m20 => (match m20 with | .inl b22 => some true | .inr x1 => some x1))

/-- gambrel/gambrellaw23.SplitSizes -/
noncomputable def l23_SplitSizes (p0 : Int) (p1 : List api_Part) : Option Bool :=
  cond (decide ((p1.length : Int) > 250)) (some true) ((split_Sizes p0 p1).bind fun r1 => (r23_Sizes p0 p1).bind fun r3 => (split_Check p1).bind fun r5 => (r23_Check p1).bind fun r7 => (cond (r5 == r7) ((r23_Same r1.1 r3.1).bind fun r17 => some r17) (some false)).bind fun c11 => (cond c11 (some (r1.2 == r3.2)) (some false)).bind fun c19 => some c19)

noncomputable def slices_IndexFunc_int_int_L1 (p0 : List Int) (p1 : Int → Option Bool) (a19 : Int) : Option ((Int) ⊕ ((Unit) ⊕ (Int))) :=
  cond (decide (a19 < (p0.length : Int))) ((idx p0 a19).bind fun v27 => (p1 v27).bind fun r29 => cond r29 (some (.inr (.inr a19))) (some (.inl (w64 (a19 + 1))))) (some (.inr (.inl ())))

/-- slices.IndexFunc[[]int,int] -/
noncomputable def slices_IndexFunc_int_int (p0 : List Int) (p1 : Int → Option Bool) : Option Int :=
  (loop (slices_IndexFunc_int_int_L1 p0 p1) 0 : Option ((Unit) ⊕ (Int))).bind fun m20 => (match m20 with | .inl b22 => some (-1) | .inr x1 => some x1)

/-- slices.ContainsFunc[[]int,int] -/
noncomputable def slices_ContainsFunc_int_int (p0 : List Int) (p1 : Int → Option Bool) : Option Bool :=
  (slices_IndexFunc_int_int p0 p1).bind fun r1 => some (decide (r1 ≥ 0))

/-- gambrel/split.Cuts$1 -/
noncomputable def split_Cuts_1 (p0 : Int) : Option Bool :=
  some (decide (p0 < 0))

noncomputable def split_Cuts_L1 (p0 : List Int) (a37 : Int × List Int) : Option ((Int × List Int) ⊕ ((List Int) ⊕ (List Int × Int))) :=
  cond (decide (a37.1 < (p0.length : Int))) ((idx p0 a37.1).bind fun v49 => (idx a37.2 a37.1).bind fun v51 => cond (decide (v49 > (w64 (1000000 - v51)))) (some (.inr (.inr ([], 16)))) ((idx a37.2 a37.1).bind fun v53 => (app 8 a37.2 [w64 (v53 + v49)]).bind fun z55 => some (.inl (w64 (a37.1 + 1), z55)))) (some (.inr (.inl a37.2)))

/-- gambrel/split.Cuts -/
noncomputable def split_Cuts (p0 : List Int) : Option (List Int × Int) :=
  cond (decide ((p0.length : Int) > 200)) (some ([], 4)) ((slices_ContainsFunc_int_int p0 (fun x0 => split_Cuts_1 x0)).bind fun r1 => cond r1 (some ([], 8)) ((loop (split_Cuts_L1 p0) (0, [0]) : Option ((List Int) ⊕ (List Int × Int))).bind fun m38 => (match m38 with | .inl b40 => some (b40, 0) | .inr x1 => some x1)))

noncomputable def r23_Cuts_L1 (p0 : List Int) (a11 : Int) : Option ((Int) ⊕ ((Unit) ⊕ (List Int × Int))) :=
  cond (decide (a11 < (p0.length : Int))) ((idx p0 a11).bind fun v17 => cond (decide (v17 < 0)) (some (.inr (.inr ([], 8)))) (some (.inl (w64 (a11 + 1))))) (some (.inr (.inl ())))

noncomputable def r23_Cuts_L2 (p0 : List Int) (a137 : Int × List Int) : Option ((Int × List Int) ⊕ ((List Int) ⊕ (List Int × Int))) :=
  cond (decide (a137.1 < (p0.length : Int))) ((idx p0 a137.1).bind fun v170 => (cond (decide (v170 > 1000000)) (some true) ((idx a137.2 a137.1).bind fun v189 => (idx p0 a137.1).bind fun v191 => some (decide ((w64 (v189 + v191)) > 1000000)))).bind fun c176 => cond c176 (some (.inr (.inr ([], 16)))) ((idx a137.2 a137.1).bind fun v193 => (idx p0 a137.1).bind fun v195 => (app 8 a137.2 [w64 (v193 + v195)]).bind fun z197 => some (.inl (w64 (a137.1 + 1), z197)))) (some (.inr (.inl a137.2)))

/-- gambrel/gambrelref23.Cuts -/
noncomputable def r23_Cuts (p0 : List Int) : Option (List Int × Int) :=
  cond (decide ((p0.length : Int) > 200)) (some ([], 4)) ((loop (r23_Cuts_L1 p0) 0 : Option ((Unit) ⊕ (List Int × Int))).bind fun m12 => (match m12 with | .inl b14 => (loop (r23_Cuts_L2 p0) (0, [0]) : Option ((List Int) ⊕ (List Int × Int))).bind fun m138 => (match m138 with | .inl b140 => some (b140, 0) | .inr x1 => some x1) | .inr x1 => some x1))

/-- math/bits.Mul64 -/
noncomputable def math_bits_Mul64 (p0 : Int) (p1 : Int) : Option (Int × Int) :=
  some (IntKind.wrap .u64 ((IntKind.wrap .u64 ((IntKind.wrap .u64 ((Int.fdiv p0 (2 ^ 32)) * (Int.fdiv p1 (2 ^ 32)))) + (Int.fdiv (IntKind.wrap .u64 ((IntKind.wrap .u64 ((Int.fdiv p0 (2 ^ 32)) * (andI .u64 p1 4294967295))) + (Int.fdiv (IntKind.wrap .u64 ((andI .u64 p0 4294967295) * (andI .u64 p1 4294967295))) (2 ^ 32)))) (2 ^ 32)))) + (Int.fdiv (IntKind.wrap .u64 ((andI .u64 (IntKind.wrap .u64 ((IntKind.wrap .u64 ((Int.fdiv p0 (2 ^ 32)) * (andI .u64 p1 4294967295))) + (Int.fdiv (IntKind.wrap .u64 ((andI .u64 p0 4294967295) * (andI .u64 p1 4294967295))) (2 ^ 32)))) 4294967295) + (IntKind.wrap .u64 ((andI .u64 p0 4294967295) * (Int.fdiv p1 (2 ^ 32)))))) (2 ^ 32))), IntKind.wrap .u64 (p0 * p1))

/-- math/bits.Mul -/
noncomputable def math_bits_Mul (p0 : Int) (p1 : Int) : Option (Int × Int) :=
  (math_bits_Mul64 p0 p1).bind fun r1 => some (r1.1, r1.2)

noncomputable def slices_Repeat_int_int_L1 (a23 : Int × List Int) : Option ((Int × List Int) ⊕ (List Int)) :=
  cond (decide (a23.1 < (a23.2.length : Int))) ((sub2 a23.2.length a23.1 a23.2.length).bind fun w27 => (sub2 a23.2.length 0 a23.1).bind fun w29 => some (.inl (w64 (a23.1 + ((min ((a23.2.drop w29.1).take w29.2).length w27.2 : Nat) : Int)), cpyw a23.2 w27 ((a23.2.drop w29.1).take w29.2)))) (some (.inr a23.2))

/-- slices.Repeat[[]int,int] -/
noncomputable def slices_Repeat_int_int (p0 : List Int) (p1 : Int) : Option (List Int) :=
  cond (decide (p1 < 0)) none ((math_bits_Mul (IntKind.wrap .u64 (p0.length : Int)) (IntKind.wrap .u64 p1)).bind fun r1 => (cond (decide (r1.1 > 0)) (some true) (some (decide (r1.2 > 9223372036854775807)))).bind fun c3 => cond c3 none ((mks 8 (w64 r1.2) 0).bind fun z8 => (loop slices_Repeat_int_int_L1 (((min p0.length (0, z8.length).2 : Nat) : Int), cpyw z8 (0, z8.length) p0)).bind fun b26 => some b26))

noncomputable def split_Repeat_L1 (r18 : List Int) (a42 : Int × Int) : Option ((Int × Int) ⊕ (Int)) :=
  cond (decide (a42.1 < (r18.length : Int))) ((idx r18 a42.1).bind fun v48 => some (.inl (w64 (a42.1 + 1), w64 (a42.2 + v48)))) (some (.inr a42.2))

noncomputable def split_Repeat_L2 (r18 : List Int) (p0 : Int) (b31 : Int) (a305 : Int × Int × Int × List Int) : Option ((Int × Int × Int × List Int) ⊕ (List Int)) :=
  cond (decide (a305.2.2.1 < (r18.length : Int))) ((idx r18 a305.2.2.1).bind fun v316 => (quo64 (w64 (p0 * (w64 (a305.1 + v316)))) b31).bind fun q318 => ((app 8 a305.2.2.2 [w64 (q318 - a305.2.1)]).bind fun z325 => some z325).bind fun b324 => cond (!true) (some (.inr b324)) (some (.inl (w64 (a305.1 + v316), q318, w64 (a305.2.2.1 + 1), b324)))) (some (.inr a305.2.2.2))

/-- gambrel/split.Repeat -/
noncomputable def split_Repeat (p0 : Int) (p1 : Int) : Option (List Int × Int) :=
  (cond (decide (p0 < 0)) (some true) (some (decide (p0 > 1000000)))).bind fun c1 => (cond c1 (some true) (some (decide (p1 < 1)))).bind fun c6 => (cond c6 (some true) (some (decide (p1 > 1000000)))).bind fun c11 => cond c11 (some ([], 2)) ((quo64 (w64 ((w64 (2 * p0)) + p1)) (w64 (2 * p1))).bind fun q16 => cond (decide ((max 1 q16) > 200)) (some ([], 4)) ((slices_Repeat_int_int [1] (max 1 q16)).bind fun r18 => ((loop (split_Repeat_L1 r18) (0, 0)).bind fun b45 => some b45).bind fun b31 => ((((loop (split_Repeat_L2 r18 p0 b31) (0, 0, 0, [])).bind fun x0 => some x0).bind fun b268 => some b268).bind fun b196 => some b196).bind fun b123 => some (b123, 0)))

noncomputable def r23_Repeat_L1 (b23 : Int) (p0 : Int) (a50 : Int × List Int) : Option ((Int × List Int) ⊕ (List Int)) :=
  cond (decide (a50.1 ≤ b23)) ((quo64 (w64 (p0 * a50.1)) b23).bind fun q60 => (quo64 (w64 (p0 * (w64 (a50.1 - 1)))) b23).bind fun q62 => (app 8 a50.2 [w64 (q60 - q62)]).bind fun z64 => some (.inl (w64 (a50.1 + 1), z64))) (some (.inr a50.2))

/-- gambrel/gambrelref23.Repeat -/
noncomputable def r23_Repeat (p0 : Int) (p1 : Int) : Option (List Int × Int) :=
  (cond (decide (p0 < 0)) (some true) (some (decide (p0 > 1000000)))).bind fun c1 => (cond c1 (some true) (some (decide (p1 < 1)))).bind fun c6 => (cond c6 (some true) (some (decide (p1 > 1000000)))).bind fun c11 => cond c11 (some ([], 2)) ((quo64 p0 p1).bind fun q16 => (cond (decide ((w64 (2 * (w64 (p0 - (w64 (q16 * p1)))))) ≥ p1)) (some (w64 (q16 + 1))) (some q16)).bind fun b20 => (cond (b20 == 0) (some 1) (some b20)).bind fun b23 => cond (decide (b23 > 200)) (some ([], 4)) ((loop (r23_Repeat_L1 b23 p0) (1, [])).bind fun b53 => some (b53, 0)))

/-- cmp.isNaN[int] -/
noncomputable def cmp_isNaN_int (p0 : Int) : Option Bool :=
  some (p0 != p0)

/-- cmp.Less[int] -/
noncomputable def cmp_Less_int (p0 : Int) (p1 : Int) : Option Bool :=
  (cmp_isNaN_int p0).bind fun r1 => (cond r1 ((cmp_isNaN_int p1).bind fun r11 => some (!r11)) (some false)).bind fun c5 => (cond c5 (some true) (some (decide (p0 < p1)))).bind fun c13 => some c13

noncomputable def slices_IsSorted_int_int_L1 (p0 : List Int) (a27 : Int) : Option ((Int) ⊕ ((Unit) ⊕ (Bool))) :=
  cond (decide (a27 > 0)) ((idx p0 a27).bind fun v37 => (idx p0 (w64 (a27 - 1))).bind fun v39 => (cmp_Less_int v37 v39).bind fun r41 => cond r41 (some (.inr (.inr false))) (some (.inl (w64 (a27 - 1))))) (some (.inr (.inl ())))

/-- slices.IsSorted[[]int,int] -/
noncomputable def slices_IsSorted_int_int (p0 : List Int) : Option Bool :=
  (loop (slices_IsSorted_int_int_L1 p0) (w64 ((p0.length : Int) - 1)) : Option ((Unit) ⊕ (Bool))).bind fun m28 => (match m28 with | .inl b30 => some true | .inr x1 => some x1)

noncomputable def split_At_L1 (z22 : List Int) (p0 : List Int) (p1 : Int) (a90 : Int) : Option ((Int) ⊕ ((Unit) ⊕ (Int × Int))) :=
  cond (decide (a90 < (z22.length : Int))) ((idx p0 a90).bind fun v110 => (cond (decide (v110 ≤ p1)) ((idx p0 (w64 (a90 + 1))).bind fun v124 => some (decide (p1 < v124))) (some false)).bind fun c114 => cond c114 (some (.inr (.inr (a90, 0)))) (some (.inl (w64 (a90 + 1))))) (some (.inr (.inl ())))

/-- gambrel/split.At -/
noncomputable def split_At (p0 : List Int) (p1 : Int) : Option (Int × Int) :=
  (cond ((p0.length : Int) == 0) (some true) ((idx p0 0).bind fun v10 => some (v10 != 0))).bind fun c3 => (cond c3 (some true) ((slices_IsSorted_int_int p0).bind fun r20 => some (!r20))).bind fun c14 => cond c14 (some (0, 8)) ((slc p0 1 p0.length).bind fun z22 => (loop (split_At_L1 z22 p0 p1) 0 : Option ((Unit) ⊕ (Int × Int))).bind fun m91 => (match m91 with | .inl b93 => some (0, 2) | .inr x1 => some x1))

noncomputable def r23_At_L1 (p0 : List Int) (a30 : Int) : Option ((Int) ⊕ ((Unit) ⊕ (Int × Int))) :=
  cond (decide (a30 < (p0.length : Int))) ((idx p0 a30).bind fun v38 => (idx p0 (w64 (a30 - 1))).bind fun v40 => cond (decide (v38 < v40)) (some (.inr (.inr (0, 8)))) (some (.inl (w64 (a30 + 1))))) (some (.inr (.inl ())))

noncomputable def r23_At_L2 (p0 : List Int) (p1 : Int) (a108 : Int) : Option ((Int) ⊕ ((Unit) ⊕ (Int × Int))) :=
  cond (decide ((w64 (a108 + 1)) < (p0.length : Int))) ((idx p0 a108).bind fun v128 => (cond (decide (p1 ≥ v128)) ((idx p0 (w64 (a108 + 1))).bind fun v142 => some (decide (p1 < v142))) (some false)).bind fun c132 => cond c132 (some (.inr (.inr (a108, 0)))) (some (.inl (w64 (a108 + 1))))) (some (.inr (.inl ())))

/-- gambrel/gambrelref23.At -/
noncomputable def r23_At (p0 : List Int) (p1 : Int) : Option (Int × Int) :=
  (cond ((p0.length : Int) == 0) (some true) ((idx p0 0).bind fun v10 => some (v10 != 0))).bind fun c3 => cond c3 (some (0, 8)) ((loop (r23_At_L1 p0) 1 : Option ((Unit) ⊕ (Int × Int))).bind fun m31 => (match m31 with | .inl b33 => (loop (r23_At_L2 p0 p1) 0 : Option ((Unit) ⊕ (Int × Int))).bind fun m109 => (match m109 with | .inl b111 => some (0, 2) | .inr x1 => some x1) | .inr x1 => some x1))

/-- gambrel/gambrellaw23.SplitCuts -/
noncomputable def l23_SplitCuts (p0 : List Int) (p1 : Int) (p2 : Int) (p3 : Int) : Option Bool :=
  cond (decide ((p0.length : Int) > 250)) (some true) ((split_Cuts p0).bind fun r1 => (r23_Cuts p0).bind fun r3 => (split_Repeat p1 p2).bind fun r5 => (r23_Repeat p1 p2).bind fun r7 => (split_At p0 p3).bind fun r9 => (r23_At p0 p3).bind fun r11 => (r23_Same r1.1 r3.1).bind fun r13 => (cond r13 (some (r1.2 == r3.2)) (some false)).bind fun c15 => (cond c15 ((r23_Same r5.1 r7.1).bind fun r29 => some r29) (some false)).bind fun c23 => (cond c23 (some (r5.2 == r7.2)) (some false)).bind fun c31 => (cond c31 (some (r9.1 == r11.1)) (some false)).bind fun c37 => (cond c37 (some (r9.2 == r11.2)) (some false)).bind fun c43 => some c43)

structure api_Vec where
  X : Int
  Y : Int
  Z : Int
  deriving DecidableEq

structure api_Frame where
  Turn : Int
  At : api_Vec
  deriving DecidableEq

structure api_Scope where
  Frame : api_Frame
  Size : api_Vec
  deriving DecidableEq

/-- gambrel/frame.fine -/
noncomputable def frame_fine (p0 : api_Vec) (p1 : Int) : Option Bool :=
  (cond (decide ((min (min p0.X p0.Y) p0.Z) ≥ p1)) (some (decide ((max (max p0.X p0.Y) p0.Z) ≤ 1000000))) (some false)).bind fun c1 => some c1

/-- gambrel/frame.Check -/
noncomputable def frame_Check (p0 : api_Frame) : Option Int :=
  (cond (decide (p0.Turn ≥ 24)) (some true) ((frame_fine p0.At (-1000000)).bind fun r10 => some (!r10))).bind fun c3 => cond c3 (some 8) (some 0)

/-- gambrel/frame.checked -/
noncomputable def frame_checked (p0 : api_Scope) : Option Int :=
  (frame_Check p0.Frame).bind fun r1 => (cond (r1 != 0) (some true) ((frame_fine p0.Size 0).bind fun r12 => some (!r12))).bind fun c5 => cond c5 (some 8) (some 0)

/-- gambrel/frame.direction -/
noncomputable def frame_direction (p0 : Int) : Option api_Vec :=
  cond ((IntKind.wrap .u8 (Int.tdiv p0 2)) == 0) (some ({ X := w64 (1 - (w64 (2 * (w64 (Int.tmod p0 2))))), Y := 0, Z := 0 } : api_Vec)) (cond ((IntKind.wrap .u8 (Int.tdiv p0 2)) == 1) (some ({ X := 0, Y := w64 (1 - (w64 (2 * (w64 (Int.tmod p0 2))))), Z := 0 } : api_Vec)) (some ({ X := 0, Y := 0, Z := w64 (1 - (w64 (2 * (w64 (Int.tmod p0 2))))) } : api_Vec)))

/-- gambrel/frame.cross -/
noncomputable def frame_cross (p0 : api_Vec) (p1 : api_Vec) : Option api_Vec :=
  some ({ X := w64 ((w64 (p0.Y * p1.Z)) - (w64 (p0.Z * p1.Y))), Y := w64 ((w64 (p0.Z * p1.X)) - (w64 (p0.X * p1.Z))), Z := w64 ((w64 (p0.X * p1.Y)) - (w64 (p0.Y * p1.X))) } : api_Vec)

/-- gambrel/frame.axes -/
noncomputable def frame_axes (p0 : Int) : Option (api_Vec × api_Vec × api_Vec) :=
  (cond (decide ((Int.tmod p0 4) ≥ (IntKind.wrap .u8 ((IntKind.wrap .u8 (Int.tdiv (IntKind.wrap .u8 (Int.tdiv p0 4)) 2)) * 2)))) (some (IntKind.wrap .u8 ((Int.tmod p0 4) + 2))) (some (Int.tmod p0 4))).bind fun b3 => (frame_direction (IntKind.wrap .u8 (Int.tdiv p0 4))).bind fun r4 => (frame_direction b3).bind fun r6 => (frame_cross r4 r6).bind fun r8 => some (r4, r6, r8)

def enc_api_Vec (x : api_Vec) : List DV := [.int .i64 x.X, .int .i64 x.Y, .int .i64 x.Z]

/-- gambrel/frame.sum -/
noncomputable def frame_sum (p0 : api_Vec × api_Vec × api_Vec) (p1 : api_Vec) : Option api_Vec :=
  some ({ X := w64 ((w64 ((w64 (p1.X * p0.1.X)) + (w64 (p1.Y * p0.2.1.X)))) + (w64 (p1.Z * p0.2.2.X))), Y := w64 ((w64 ((w64 (p1.X * p0.1.Y)) + (w64 (p1.Y * p0.2.1.Y)))) + (w64 (p1.Z * p0.2.2.Y))), Z := w64 ((w64 ((w64 (p1.X * p0.1.Z)) + (w64 (p1.Y * p0.2.1.Z)))) + (w64 (p1.Z * p0.2.2.Z))) } : api_Vec)

noncomputable def frame_named_L1 (p0 : api_Vec × api_Vec × api_Vec) (a11 : Int) : Option ((Int) ⊕ ((Unit) ⊕ (Int))) :=
  cond (decide (a11 < 24)) ((frame_axes a11).bind fun r17 => cond ((r17.1.X == p0.1.X) && ((r17.1.Y == p0.1.Y) && ((r17.1.Z == p0.1.Z) && ((r17.2.1.X == p0.2.1.X) && ((r17.2.1.Y == p0.2.1.Y) && ((r17.2.1.Z == p0.2.1.Z) && ((r17.2.2.X == p0.2.2.X) && ((r17.2.2.Y == p0.2.2.Y) && ((r17.2.2.Z == p0.2.2.Z) && true))))))))) (some (.inr (.inr a11))) (some (.inl (IntKind.wrap .u8 (a11 + 1))))) (some (.inr (.inl ())))

/-- gambrel/frame.named -/
noncomputable def frame_named (p0 : api_Vec × api_Vec × api_Vec) : Option Int :=
  (loop (frame_named_L1 p0) 0 : Option ((Unit) ⊕ (Int))).bind fun m12 => (match m12 with | .inl b14 => some 0 | .inr x1 => some x1)

/-- gambrel/frame.image -/
noncomputable def frame_image (p0 : api_Frame) (p1 : api_Vec) : Option api_Vec :=
  (frame_axes p0.Turn).bind fun r1 => (frame_sum r1 p1).bind fun r3 => some ({ X := w64 (r3.X + p0.At.X), Y := w64 (r3.Y + p0.At.Y), Z := w64 (r3.Z + p0.At.Z) } : api_Vec)

noncomputable def frame_within_L1 (r3 : (api_Vec × api_Vec × api_Vec)) (a31 : Int × List api_Vec) : Option ((Int × List api_Vec) ⊕ (List api_Vec)) :=
  cond (decide (a31.1 < 3)) ((idxA 3 a31.2 a31.1).bind fun v41 => (frame_sum r3 v41).bind fun r43 => (idxA 3 a31.2 a31.1).bind fun v45 => some (.inl (w64 (a31.1 + 1), a31.2.set a31.1.toNat r43))) (some (.inr a31.2))

/-- gambrel/frame.within -/
noncomputable def frame_within (p0 : api_Frame) (p1 : api_Frame) : Option api_Frame :=
  (frame_axes p0.Turn).bind fun r1 => (frame_axes p1.Turn).bind fun r3 => (loop (frame_within_L1 r3) (0, [r1.1, r1.2.1, r1.2.2])).bind fun b34 => (arr3 b34).bind fun v47 => (frame_named v47).bind fun r49 => (frame_image p1 p0.At).bind fun r51 => some ({ Turn := r49, At := r51 } : api_Frame)

/-- gambrel/frame.Within -/
noncomputable def frame_Within (p0 : api_Frame) (p1 : api_Frame) : Option (api_Frame × Int) :=
  (frame_Check p0).bind fun r1 => cond (r1 != 0) (some (({ Turn := 0, At := ({ X := 0, Y := 0, Z := 0 } : api_Vec) } : api_Frame), r1)) ((frame_Check p1).bind fun r3 => cond (r3 != 0) (some (({ Turn := 0, At := ({ X := 0, Y := 0, Z := 0 } : api_Vec) } : api_Frame), r3)) ((frame_within p0 p1).bind fun r5 => (frame_Check r5).bind fun r7 => cond (r7 != 0) (some (({ Turn := 0, At := ({ X := 0, Y := 0, Z := 0 } : api_Vec) } : api_Frame), 16)) (some (r5, 0))))

/-- gambrel/frame.Inside -/
noncomputable def frame_Inside (p0 : api_Scope) (p1 : api_Vec) (p2 : api_Vec) (p3 : Int) : Option (api_Scope × Int) :=
  (frame_checked p0).bind fun r1 => cond (r1 != 0) (some (({ Frame := ({ Turn := 0, At := ({ X := 0, Y := 0, Z := 0 } : api_Vec) } : api_Frame), Size := ({ X := 0, Y := 0, Z := 0 } : api_Vec) } : api_Scope), r1)) ((frame_Check ({ Turn := p3, At := p1 } : api_Frame)).bind fun r3 => (cond (r3 != 0) (some true) ((frame_fine p2 0).bind fun r13 => some (!r13))).bind fun c7 => cond c7 (some (({ Frame := ({ Turn := 0, At := ({ X := 0, Y := 0, Z := 0 } : api_Vec) } : api_Frame), Size := ({ X := 0, Y := 0, Z := 0 } : api_Vec) } : api_Scope), 2)) ((frame_Within ({ Turn := p3, At := p1 } : api_Frame) p0.Frame).bind fun r15 => cond (r15.2 != 0) (some (({ Frame := ({ Turn := 0, At := ({ X := 0, Y := 0, Z := 0 } : api_Vec) } : api_Frame), Size := ({ X := 0, Y := 0, Z := 0 } : api_Vec) } : api_Scope), r15.2)) (some (({ Frame := r15.1, Size := p2 } : api_Scope), 0))))

/-- gambrel/split.along -/
noncomputable def split_along (p0 : api_Vec) (p1 : Int) (p2 : Int) : Option api_Vec :=
  (cond (p1 == 0) (some (p2, p0.Y, p0.Z)) (cond (p1 == 1) (some (p0.X, p2, p0.Z)) (some (p0.X, p0.Y, p2)))).bind fun b3 => some ({ X := b3.1, Y := b3.2.1, Z := b3.2.2 } : api_Vec)

def enc_api_Scope (x : api_Scope) : List DV := [.int .u8 x.Frame.Turn, .int .i64 x.Frame.At.X, .int .i64 x.Frame.At.Y, .int .i64 x.Frame.At.Z, .int .i64 x.Size.X, .int .i64 x.Size.Y, .int .i64 x.Size.Z]

noncomputable def split_Scopes_L1 (p2 : List Int) (r30 : List Int × Int) (p1 : Int) (p0 : api_Scope) (r1 : api_Scope × Int) (a86 : Int × Int × Int × Int × List api_Scope) : Option ((Int × Int × Int × Int × List api_Scope) ⊕ ((List api_Scope) ⊕ (List api_Scope × Int))) :=
  cond (decide (a86.1 < (p2.length : Int))) ((idx p2 a86.1).bind fun v102 => (idx r30.1 a86.1).bind fun v104 => (split_along ({ X := 0, Y := 0, Z := 0 } : api_Vec) p1 v104).bind fun r106 => (split_along p0.Size p1 v102).bind fun r108 => (frame_Inside ({ Frame := r1.1.Frame, Size := p0.Size } : api_Scope) r106 r108 0).bind fun r110 => cond (r110.2 != 0) (some (.inr (.inr ([], r110.2)))) ((app 56 a86.2.2.2.2 [r110.1]).bind fun z112 => some (.inl (w64 (a86.1 + 1), p0.Size.X, p0.Size.Y, p0.Size.Z, z112)))) (some (.inr (.inl a86.2.2.2.2)))

/-- gambrel/split.Scopes -/
noncomputable def split_Scopes (p0 : api_Scope) (p1 : Int) (p2 : List Int) : Option (List api_Scope × Int) :=
  (frame_Inside p0 ({ X := 0, Y := 0, Z := 0 } : api_Vec) ({ X := 0, Y := 0, Z := 0 } : api_Vec) 0).bind fun r1 => (cond (r1.2 != 0) (some true) (some (decide ((min (min p0.Size.X p0.Size.Y) p0.Size.Z) < 0)))).bind fun c3 => (cond c3 (some true) (some (decide ((max (max p0.Size.X p0.Size.Y) p0.Size.Z) > 1000000)))).bind fun c14 => cond c14 (some ([], 8)) ((cond (decide (p1 < 0)) (some true) (some (decide (p1 > 2)))).bind fun c25 => cond c25 (some ([], 2)) ((split_Cuts p2).bind fun r30 => cond (r30.2 != 0) (some ([], r30.2)) ((idx r30.1 (p2.length : Int)).bind fun v32 => (idxA 3 [p0.Size.X, p0.Size.Y, p0.Size.Z] p1).bind fun v34 => cond (v32 != v34) (some ([], 2)) ((loop (split_Scopes_L1 p2 r30 p1 p0 r1) (0, r1.1.Size.X, r1.1.Size.Y, r1.1.Size.Z, []) : Option ((List api_Scope) ⊕ (List api_Scope × Int))).bind fun m87 => (match m87 with | .inl b89 => some (b89, 0) | .inr x1 => some x1)))))

/-- gambrel/gambrelref16.In -/
noncomputable def r16_In (p0 : api_Vec) (p1 : Int) : Option Bool :=
  (cond (decide (p0.X ≥ p1)) (some (decide (p0.Y ≥ p1))) (some false)).bind fun c1 => (cond c1 (some (decide (p0.Z ≥ p1))) (some false)).bind fun c8 => (cond c8 (some (decide (p0.X ≤ 1000000))) (some false)).bind fun c15 => (cond c15 (some (decide (p0.Y ≤ 1000000))) (some false)).bind fun c21 => (cond c21 (some (decide (p0.Z ≤ 1000000))) (some false)).bind fun c27 => some c27

/-- gambrel/gambrelref16.Check -/
noncomputable def r16_Check (p0 : api_Frame) : Option Int :=
  (cond (decide (p0.Turn ≥ 24)) (some true) ((r16_In p0.At (-1000000)).bind fun r10 => some (!r10))).bind fun c3 => cond c3 (some 8) (some 0)

/-- gambrel/gambrelref16.Scoped -/
noncomputable def r16_Scoped (p0 : api_Scope) : Option Int :=
  (r16_Check p0.Frame).bind fun r1 => (cond (r1 != 0) (some true) ((r16_In p0.Size 0).bind fun r12 => some (!r12))).bind fun c5 => cond c5 (some 8) (some 0)

/-- gambrel/gambrelref16.Coord -/
noncomputable def r16_Coord (p0 : api_Vec) (p1 : Int) : Option Int :=
  cond (p1 == 0) (some p0.X) (cond (p1 == 1) (some p0.Y) (some p0.Z))

/-- gambrel/gambrelref16.Set -/
noncomputable def r16_Set (p0 : api_Vec) (p1 : Int) (p2 : Int) : Option api_Vec :=
  cond (p1 == 0) (some ({ X := p2, Y := p0.Y, Z := p0.Z } : api_Vec)) (cond (p1 == 1) (some ({ X := p0.X, Y := p2, Z := p0.Z } : api_Vec)) (some ({ X := p0.X, Y := p0.Y, Z := p2 } : api_Vec)))

/-- gambrel/gambrelref16.Direction -/
noncomputable def r16_Direction (p0 : Int) : Option api_Vec :=
  (cond ((Int.tmod p0 2) == 1) (some (-1)) (some 1)).bind fun b3 => cond (decide (p0 < 2)) (some ({ X := b3, Y := 0, Z := 0 } : api_Vec)) (cond (decide (p0 < 4)) (some ({ X := 0, Y := b3, Z := 0 } : api_Vec)) (some ({ X := 0, Y := 0, Z := b3 } : api_Vec)))

/-- gambrel/gambrelref16.Cross -/
noncomputable def r16_Cross (p0 : api_Vec) (p1 : api_Vec) : Option api_Vec :=
  some ({ X := w64 ((w64 (p0.Y * p1.Z)) - (w64 (p0.Z * p1.Y))), Y := w64 ((w64 (p0.Z * p1.X)) - (w64 (p0.X * p1.Z))), Z := w64 ((w64 (p0.X * p1.Y)) - (w64 (p0.Y * p1.X))) } : api_Vec)

noncomputable def r16_Images_L1 (p0 : Int) (a10 : Int × List Int) : Option ((Int × List Int) ⊕ (List Int)) :=
  cond (decide (a10.1 < 6)) ((cond ((w64 (Int.tdiv a10.1 2)) != (w64 (Int.tdiv (w64 (Int.tdiv p0 4)) 2))) ((app 8 a10.2 [a10.1]).bind fun z19 => some z19) (some a10.2)).bind fun b18 => some (.inl (w64 (a10.1 + 1), b18))) (some (.inr a10.2))

/-- gambrel/gambrelref16.Images -/
noncomputable def r16_Images (p0 : Int) : Option (api_Vec × api_Vec × api_Vec) :=
  (loop (r16_Images_L1 p0) (0, [])).bind fun b13 => (idx b13 (Int.tmod p0 4)).bind fun v21 => (r16_Direction (w64 (Int.tdiv p0 4))).bind fun r23 => (r16_Direction v21).bind fun r25 => (r16_Direction (w64 (Int.tdiv p0 4))).bind fun r27 => (r16_Direction v21).bind fun r29 => (r16_Cross r27 r29).bind fun r31 => some (r23, r25, r31)

/-- gambrel/gambrelref16.Times -/
noncomputable def r16_Times (p0 : Int) (p1 : api_Vec) : Option api_Vec :=
  some ({ X := w64 (p0 * p1.X), Y := w64 (p0 * p1.Y), Z := w64 (p0 * p1.Z) } : api_Vec)

/-- gambrel/gambrelref16.Plus -/
noncomputable def r16_Plus (p0 : api_Vec) (p1 : api_Vec) : Option api_Vec :=
  some ({ X := w64 (p0.X + p1.X), Y := w64 (p0.Y + p1.Y), Z := w64 (p0.Z + p1.Z) } : api_Vec)

/-- gambrel/gambrelref16.Sum -/
noncomputable def r16_Sum (p0 : api_Vec × api_Vec × api_Vec) (p1 : api_Vec) : Option api_Vec :=
  (r16_Times p1.X p0.1).bind fun r1 => (r16_Times p1.Y p0.2.1).bind fun r3 => (r16_Times p1.Z p0.2.2).bind fun r5 => (r16_Plus r3 r5).bind fun r7 => (r16_Plus r1 r7).bind fun r9 => some r9

/-- gambrel/gambrelref16.Image -/
noncomputable def r16_Image (p0 : api_Frame) (p1 : api_Vec) : Option api_Vec :=
  (r16_Images (w64 p0.Turn)).bind fun r1 => (r16_Sum r1 p1).bind fun r3 => (r16_Plus r3 p0.At).bind fun r5 => some r5

noncomputable def r23_Scopes_L1 (p2 : List Int) (r8 : List Int × Int) (p1 : Int) (p0 : api_Scope) (a72 : Int × List api_Scope) : Option ((Int × List api_Scope) ⊕ ((List api_Scope) ⊕ (List api_Scope × Int))) :=
  cond (decide (a72.1 < (p2.length : Int))) ((idx r8.1 a72.1).bind fun v90 => (r16_Set ({ X := 0, Y := 0, Z := 0 } : api_Vec) p1 v90).bind fun r92 => (r16_Image p0.Frame r92).bind fun r94 => (idx p2 a72.1).bind fun v96 => (r16_Set p0.Size p1 v96).bind fun r98 => (r16_Scoped ({ Frame := ({ Turn := p0.Frame.Turn, At := r94 } : api_Frame), Size := r98 } : api_Scope)).bind fun r100 => cond (r100 != 0) (some (.inr (.inr ([], 16)))) ((app 56 a72.2 [({ Frame := ({ Turn := p0.Frame.Turn, At := r94 } : api_Frame), Size := r98 } : api_Scope)]).bind fun z102 => some (.inl (w64 (a72.1 + 1), z102)))) (some (.inr (.inl a72.2)))

/-- gambrel/gambrelref23.Scopes -/
noncomputable def r23_Scopes (p0 : api_Scope) (p1 : Int) (p2 : List Int) : Option (List api_Scope × Int) :=
  (r16_Scoped p0).bind fun r1 => cond (r1 != 0) (some ([], 8)) ((cond (decide (p1 < 0)) (some true) (some (decide (p1 > 2)))).bind fun c3 => cond c3 (some ([], 2)) ((r23_Cuts p2).bind fun r8 => cond (r8.2 != 0) (some ([], r8.2)) ((idx r8.1 (p2.length : Int)).bind fun v10 => (r16_Coord p0.Size p1).bind fun r12 => cond (v10 != r12) (some ([], 2)) ((loop (r23_Scopes_L1 p2 r8 p1 p0) (0, []) : Option ((List api_Scope) ⊕ (List api_Scope × Int))).bind fun m73 => (match m73 with | .inl b75 => some (b75, 0) | .inr x1 => some x1)))))

noncomputable def r23_SameScopes_L1 (p0 : List api_Scope) (p1 : List api_Scope) (a19 : Int) : Option ((Int) ⊕ ((Unit) ⊕ (Bool))) :=
  cond (decide (a19 < (p0.length : Int))) ((idx p0 a19).bind fun v27 => (idx p1 a19).bind fun v29 => cond (!((v27.Frame.Turn == v29.Frame.Turn) && ((v27.Frame.At.X == v29.Frame.At.X) && ((v27.Frame.At.Y == v29.Frame.At.Y) && ((v27.Frame.At.Z == v29.Frame.At.Z) && ((v27.Size.X == v29.Size.X) && ((v27.Size.Y == v29.Size.Y) && ((v27.Size.Z == v29.Size.Z) && true)))))))) (some (.inr (.inr false))) (some (.inl (w64 (a19 + 1))))) (some (.inr (.inl ())))

/-- gambrel/gambrelref23.SameScopes -/
noncomputable def r23_SameScopes (p0 : List api_Scope) (p1 : List api_Scope) : Option Bool :=
  cond ((p0.length : Int) != (p1.length : Int)) (some false) ((loop (r23_SameScopes_L1 p0 p1) 0 : Option ((Unit) ⊕ (Bool))).bind fun m20 => (match m20 with | .inl b22 => some true | .inr x1 => some x1))

/-- gambrel/gambrellaw23.SplitScopes -/
noncomputable def l23_SplitScopes (p0 : api_Scope) (p1 : Int) (p2 : List Int) : Option Bool :=
  cond (decide ((p2.length : Int) > 250)) (some true) ((split_Scopes p0 p1 p2).bind fun r1 => (r23_Scopes p0 p1 p2).bind fun r3 => (r23_SameScopes r1.1 r3.1).bind fun r5 => (cond r5 (some (r1.2 == r3.2)) (some false)).bind fun c7 => some c7)

/-- gambrel/gambrellaw23.four -/
noncomputable def l23_four : Option (List api_Part) :=
  some [({ Kind := 1, Size := 3, Share := ({ Num := 0, Den := 0 } : api_Ratio) } : api_Part), ({ Kind := 2, Size := 0, Share := ({ Num := 1, Den := 4 } : api_Ratio) } : api_Part), ({ Kind := 3, Size := 1, Share := ({ Num := 0, Den := 0 } : api_Ratio) } : api_Part), ({ Kind := 3, Size := 2, Share := ({ Num := 0, Den := 0 } : api_Ratio) } : api_Part)]

/-- gambrel/gambrellaw23.alive -/
noncomputable def l23_alive : Option Bool :=
  l23_four.bind fun r1 => (split_Sizes 10 r1).bind fun r3 => (split_Repeat 10 4).bind fun r5 => (split_Cuts [3, 2, 0, 5]).bind fun r7 => (split_At r7.1 5).bind fun r9 => cond (r3.2 == 0) ((r23_Same r3.1 [3, 2, 1, 4]).bind fun r13 => (cond r13 (some (r5.2 == 0)) (some false)).bind fun c15 => cond c15 ((r23_Same r5.1 [3, 3, 4]).bind fun r22 => (cond r22 (some (r7.2 == 0)) (some false)).bind fun c24 => cond c24 ((r23_Same r7.1 [0, 3, 5, 5, 10]).bind fun r31 => (cond r31 (some (r9.2 == 0)) (some false)).bind fun c33 => (cond c33 (some (r9.1 == 3)) (some false)).bind fun c38 => some c38) (some false)) (some false)) (some false)

noncomputable def r23_Sum_L1 (p0 : List Int) (a11 : Int × Int) : Option ((Int × Int) ⊕ (Int)) :=
  cond (decide (a11.2 < (p0.length : Int))) ((idx p0 a11.2).bind fun v17 => some (.inl (w64 (a11.1 + v17), w64 (a11.2 + 1)))) (some (.inr a11.1))

/-- gambrel/gambrelref23.Sum -/
noncomputable def r23_Sum (p0 : List Int) : Option Int :=
  (loop (r23_Sum_L1 p0) (0, 0)).bind fun b14 => some b14

noncomputable def l23_SplitWhole_L1 (r20 : List Int × Int) (p1 : List api_Part) (a349 : Int) : Option ((Int) ⊕ ((Unit) ⊕ (Bool))) :=
  cond (decide (a349 < (r20.1.length : Int))) ((idx r20.1 a349).bind fun v422 => (cond (decide (v422 < 0)) (some true) ((idx p1 a349).bind fun v468 => (cond (v468.Kind == 1) ((idx r20.1 a349).bind fun v487 => (idx p1 a349).bind fun v489 => some (v487 != v489.Size)) (some false)).bind fun c474 => some c474)).bind fun c447 => cond c447 (some (.inr (.inr false))) (some (.inl (w64 (a349 + 1))))) (some (.inr (.inl ())))

/-- gambrel/gambrellaw23.SplitWhole -/
noncomputable def l23_SplitWhole (p0 : Int) (p1 : List api_Part) : Option Bool :=
  l23_alive.bind fun r1 => (r23_Check p1).bind fun r3 => (cond (r3 != 0) (some true) (some (decide (p0 < 0)))).bind fun c5 => (cond c5 (some true) (some (decide (p0 > 1000000)))).bind fun c10 => (cond c10 (some true) (some (!r1))).bind fun c15 => cond c15 (some r1) ((split_Sizes p0 p1).bind fun r20 => cond (r20.2 != 0) ((cond r1 ((cond (r20.2 == 16) (some true) (some (r20.2 == 28))).bind fun c55 => some c55) (some false)).bind fun c46 => some c46) ((cond ((r20.1.length : Int) != (p1.length : Int)) (some true) ((r23_Sum r20.1).bind fun r69 => some (r69 != p0))).bind fun c62 => cond c62 (some false) ((loop (l23_SplitWhole_L1 r20 p1) 0 : Option ((Unit) ⊕ (Bool))).bind fun m350 => (match m350 with | .inl b352 => some r1 | .inr x1 => some x1))))

noncomputable def l23_SplitFair_L1 (p1 : List Int) (r1 : Bool) (a98 : Int × List api_Part) : Option ((Int × List api_Part) ⊕ ((List api_Part) ⊕ (Bool))) :=
  cond (decide (a98.1 < (p1.length : Int))) ((idx p1 a98.1).bind fun v120 => (cond (decide (v120 < 1)) (some true) ((idx p1 a98.1).bind fun v132 => some (decide (v132 > 1000000)))).bind fun c124 => cond c124 (some (.inr (.inr r1))) ((idx p1 a98.1).bind fun v134 => (app 32 a98.2 [({ Kind := 3, Size := v134, Share := ({ Num := 0, Den := 0 } : api_Ratio) } : api_Part)]).bind fun z136 => some (.inl (w64 (a98.1 + 1), z136)))) (some (.inr (.inl a98.2)))

noncomputable def l23_SplitFair_L3 (a805 : Int) (p1 : List Int) (r138 : List Int × Int) (a1466 : Int) : Option ((Int) ⊕ ((Unit) ⊕ (Bool))) :=
  cond (decide (a1466 < a805)) ((idx p1 a1466).bind fun v1549 => (idx p1 a805).bind fun v1551 => (cond (v1549 == v1551) ((idx r138.1 a805).bind fun v1603 => (idx r138.1 a1466).bind fun v1605 => (cond (decide ((w64 (v1603 - v1605)) > 1)) (some true) ((idx r138.1 a1466).bind fun v1624 => (idx r138.1 a805).bind fun v1626 => some (decide ((w64 (v1624 - v1626)) > 1)))).bind fun c1611 => some c1611) (some false)).bind fun c1578 => cond c1578 (some (.inr (.inr false))) (some (.inl (w64 (a1466 + 1))))) (some (.inr (.inl ())))

noncomputable def l23_SplitFair_L2 (r138 : List Int × Int) (p1 : List Int) (r148 : Int) (p0 : Int) (a805 : Int) : Option ((Int) ⊕ ((Unit) ⊕ (Bool))) :=
  cond (decide (a805 < (r138.1.length : Int))) (((idx r138.1 a805).bind fun v1138 => (idx p1 a805).bind fun v1140 => (cond (decide ((w64 ((w64 (v1138 * r148)) - (w64 (p0 * v1140)))) ≤ (w64 (0 - r148)))) (some true) (some (decide ((w64 ((w64 (v1138 * r148)) - (w64 (p0 * v1140)))) ≥ r148)))).bind fun c1142 => cond c1142 (some (.inr false)) ((loop (l23_SplitFair_L3 a805 p1 r138) 0 : Option ((Unit) ⊕ (Bool))).bind fun m1467 => (match m1467 with | .inl x0 => some (.inl x0) | .inr x1 => some (.inr x1))) : Option ((Unit) ⊕ (Bool))).bind fun m1136 => (match m1136 with | .inl b1137 => some (.inl (w64 (a805 + 1))) | .inr x1 => some (.inr (.inr x1)))) (some (.inr (.inl ())))

/-- gambrel/gambrellaw23.SplitFair -/
noncomputable def l23_SplitFair (p0 : Int) (p1 : List Int) : Option Bool :=
  l23_alive.bind fun r1 => (cond ((p1.length : Int) == 0) (some true) (some (decide ((p1.length : Int) > 200)))).bind fun c3 => (cond c3 (some true) (some (decide (p0 < 0)))).bind fun c9 => (cond c9 (some true) (some (decide (p0 > 1000000)))).bind fun c14 => (cond c14 (some true) (some (!r1))).bind fun c19 => cond c19 (some r1) ((loop (l23_SplitFair_L1 p1 r1) (0, []) : Option ((List api_Part) ⊕ (Bool))).bind fun m99 => (match m99 with | .inl b101 => (split_Sizes p0 b101).bind fun r138 => (cond (r138.2 != 0) (some true) (some ((r138.1.length : Int) != (p1.length : Int)))).bind fun c140 => cond c140 (some false) ((r23_Sum p1).bind fun r148 => (loop (l23_SplitFair_L2 r138 p1 r148 p0) 0 : Option ((Unit) ⊕ (Bool))).bind fun m806 => (match m806 with | .inl b808 => some r1 | .inr x1 => some x1)) | .inr x1 => some x1))

noncomputable def l23_SplitRepeats_L1 (r23 : List Int × Int) (p0 : Int) (a171 : Int) : Option ((Int) ⊕ ((Unit) ⊕ (Bool))) :=
  cond (decide (a171 < (r23.1.length : Int))) ((idx r23.1 a171).bind fun v199 => (quo64 p0 (r23.1.length : Int)).bind fun q201 => (cond (decide (v199 < q201)) (some true) ((idx r23.1 a171).bind fun v219 => (quo64 p0 (r23.1.length : Int)).bind fun q221 => some (decide (v219 > (w64 (q221 + 1)))))).bind fun c207 => cond c207 (some (.inr (.inr false))) (some (.inl (w64 (a171 + 1))))) (some (.inr (.inl ())))

/-- gambrel/gambrellaw23.SplitRepeats -/
noncomputable def l23_SplitRepeats (p0 : Int) (p1 : Int) : Option Bool :=
  l23_alive.bind fun r1 => (cond (decide (p0 < 0)) (some true) (some (decide (p0 > 1000000)))).bind fun c3 => (cond c3 (some true) (some (decide (p1 < 1)))).bind fun c8 => (cond c8 (some true) (some (decide (p1 > 1000000)))).bind fun c13 => (cond c13 (some true) (some (!r1))).bind fun c18 => cond c18 (some r1) ((split_Repeat p0 p1).bind fun r23 => cond (r23.2 != 0) ((cond r1 (some (r23.2 == 4)) (some false)).bind fun c41 => (cond c41 (some (decide ((w64 (2 * p0)) ≥ (w64 ((w64 ((w64 (2 * p1)) * 200)) + p1))))) (some false)).bind fun c46 => some c46) ((cond (decide ((r23.1.length : Int) < 1)) (some true) (some (decide ((r23.1.length : Int) > 200)))).bind fun c57 => (cond c57 (some true) ((r23_Sum r23.1).bind fun r71 => some (r71 != p0))).bind fun c64 => cond c64 (some false) ((loop (l23_SplitRepeats_L1 r23 p0) 0 : Option ((Unit) ⊕ (Bool))).bind fun m172 => (match m172 with | .inl b174 => (cond r1 (some (decide ((w64 (2 * p0)) < (w64 ((w64 ((w64 (2 * p1)) * (r23.1.length : Int))) + p1))))) (some false)).bind fun c223 => (cond c223 ((cond ((r23.1.length : Int) == 1) (some true) (some (decide ((w64 (2 * p0)) ≥ (w64 ((w64 ((w64 (2 * p1)) * (r23.1.length : Int))) - p1)))))).bind fun c263 => some c263) (some false)).bind fun c247 => some c247 | .inr x1 => some x1))))

noncomputable def l23_SplitPoints_L1 (p0 : List Int) (r1 : Bool) (a66 : Int) : Option ((Int) ⊕ ((Unit) ⊕ (Bool))) :=
  cond (decide (a66 < (p0.length : Int))) ((idx p0 a66).bind fun v84 => (cond (decide (v84 < 0)) (some true) ((idx p0 a66).bind fun v96 => some (decide (v96 > 5000)))).bind fun c88 => cond c88 (some (.inr (.inr r1))) (some (.inl (w64 (a66 + 1))))) (some (.inr (.inl ())))

noncomputable def l23_SplitPoints_L2 (p0 : List Int) (r98 : List Int × Int) (p1 : Int) (a215 : Int × Int) : Option ((Int × Int) ⊕ ((Int) ⊕ (Bool))) :=
  cond (decide (a215.2 < (p0.length : Int))) (((idx r98.1 (w64 (a215.2 + 1))).bind fun v244 => (idx r98.1 a215.2).bind fun v246 => (idx p0 a215.2).bind fun v248 => cond ((w64 (v244 - v246)) != v248) (some (.inr false)) ((idx r98.1 a215.2).bind fun v250 => (cond (decide (v250 ≤ p1)) ((idx r98.1 (w64 (a215.2 + 1))).bind fun v264 => some (decide (p1 < v264))) (some false)).bind fun c254 => cond c254 (some (.inl (w64 (a215.1 + 1)))) (some (.inl a215.1))) : Option ((Int) ⊕ (Bool))).bind fun m242 => (match m242 with | .inl b243 => some (.inl (b243, w64 (a215.2 + 1))) | .inr x1 => some (.inr (.inr x1)))) (some (.inr (.inl a215.1)))

/-- gambrel/gambrellaw23.SplitPoints -/
noncomputable def l23_SplitPoints (p0 : List Int) (p1 : Int) : Option Bool :=
  l23_alive.bind fun r1 => (cond (decide ((p0.length : Int) > 200)) (some true) (some (!r1))).bind fun c3 => cond c3 (some r1) ((loop (l23_SplitPoints_L1 p0 r1) 0 : Option ((Unit) ⊕ (Bool))).bind fun m67 => (match m67 with | .inl b69 => (split_Cuts p0).bind fun r98 => (cond (r98.2 != 0) (some true) (some ((r98.1.length : Int) != (w64 ((p0.length : Int) + 1))))).bind fun c100 => (cond c100 (some true) ((idx r98.1 (p0.length : Int)).bind fun v124 => (r23_Sum p0).bind fun r126 => some (v124 != r126))).bind fun c113 => cond c113 (some false) ((split_At r98.1 p1).bind fun r128 => (cond (decide (p1 < 0)) (some true) ((idx r98.1 (p0.length : Int)).bind fun v142 => some (decide (p1 ≥ v142)))).bind fun c132 => cond c132 ((cond r1 (some (r128.2 == 2)) (some false)).bind fun c149 => some c149) ((cond (r128.2 != 0) (some true) (some (decide (r128.1 < 0)))).bind fun c154 => (cond c154 (some true) (some (decide (r128.1 ≥ (p0.length : Int))))).bind fun c159 => cond c159 (some false) ((loop (l23_SplitPoints_L2 p0 r98 p1) (0, 0) : Option ((Int) ⊕ (Bool))).bind fun m216 => (match m216 with | .inl b218 => (cond r1 (some (b218 == 1)) (some false)).bind fun c266 => (cond c266 ((idx r98.1 r128.1).bind fun v282 => some (decide (v282 ≤ p1))) (some false)).bind fun c273 => (cond c273 ((idx r98.1 (w64 (r128.1 + 1))).bind fun v296 => some (decide (p1 < v296))) (some false)).bind fun c286 => some c286 | .inr x1 => some x1)))) | .inr x1 => some x1))

/-- gambrel/gambrellaw23.SplitNames -/
noncomputable def l23_SplitNames : Option Bool :=
  (split_Sizes 3 [({ Kind := 1, Size := 4, Share := ({ Num := 0, Den := 0 } : api_Ratio) } : api_Part)]).bind fun r1 => (split_Sizes 5 [({ Kind := 1, Size := 4, Share := ({ Num := 0, Den := 0 } : api_Ratio) } : api_Part)]).bind fun r3 => (split_Sizes 4 [({ Kind := 1, Size := 4, Share := ({ Num := 0, Den := 0 } : api_Ratio) } : api_Part)]).bind fun r5 => (split_Sizes (-1) [({ Kind := 1, Size := 4, Share := ({ Num := 0, Den := 0 } : api_Ratio) } : api_Part)]).bind fun r7 => (split_Sizes 1000001 []).bind fun r9 => (split_Sizes 0 []).bind fun r11 => (mks 32 201 ({ Kind := 0, Size := 0, Share := ({ Num := 0, Den := 0 } : api_Ratio) } : api_Part)).bind fun z13 => (split_Check z13).bind fun r15 => (split_Check [({ Kind := 3, Size := 0, Share := ({ Num := 0, Den := 0 } : api_Ratio) } : api_Part)]).bind fun r17 => (split_Check [({ Kind := 2, Size := 0, Share := ({ Num := 2, Den := 1 } : api_Ratio) } : api_Part)]).bind fun r19 => (split_Check [({ Kind := 1, Size := 1, Share := ({ Num := 0, Den := 1 } : api_Ratio) } : api_Part)]).bind fun r21 => (split_Cuts [1000000, 1]).bind fun r23 => (split_Cuts [1, (-1)]).bind fun r25 => (split_Repeat 1000000 1).bind fun r27 => (split_Repeat 0 5).bind fun r29 => (split_Repeat 5 0).bind fun r31 => (split_At [1, 2] 1).bind fun r33 => (split_At [0, 2] 2).bind fun r35 => (split_Scopes ({ Frame := ({ Turn := 0, At := ({ X := 0, Y := 0, Z := 0 } : api_Vec) } : api_Frame), Size := ({ X := 4, Y := 1, Z := 1 } : api_Vec) } : api_Scope) 3 [4]).bind fun r37 => (split_Scopes ({ Frame := ({ Turn := 0, At := ({ X := 0, Y := 0, Z := 0 } : api_Vec) } : api_Frame), Size := ({ X := 4, Y := 1, Z := 1 } : api_Vec) } : api_Scope) 0 [3]).bind fun r39 => (split_Scopes ({ Frame := ({ Turn := 0, At := ({ X := 0, Y := 0, Z := 0 } : api_Vec) } : api_Frame), Size := ({ X := 4, Y := 1, Z := 1 } : api_Vec) } : api_Scope) 0 [0, 4]).bind fun r41 => (split_Scopes ({ Frame := ({ Turn := 24, At := ({ X := 0, Y := 0, Z := 0 } : api_Vec) } : api_Frame), Size := ({ X := 0, Y := 0, Z := 0 } : api_Vec) } : api_Scope) 3 []).bind fun r43 => l23_alive.bind fun r45 => (cond r45 (some (r1.2 == 16)) (some false)).bind fun c47 => (cond c47 (some (r3.2 == 28)) (some false)).bind fun c52 => (cond c52 (some (r5.2 == 0)) (some false)).bind fun c57 => cond c57 ((r23_Same r5.1 [4]).bind fun r64 => (cond r64 (some (r7.2 == 2)) (some false)).bind fun c66 => (cond c66 (some (r9.2 == 2)) (some false)).bind fun c71 => (cond c71 (some (r11.2 == 0)) (some false)).bind fun c76 => (cond c76 (some ((r11.1.length : Int) == 0)) (some false)).bind fun c81 => (cond c81 (some (r15 == 4)) (some false)).bind fun c87 => (cond c87 (some (r17 == 8)) (some false)).bind fun c92 => (cond c92 (some (r19 == 8)) (some false)).bind fun c97 => (cond c97 (some (r21 == 8)) (some false)).bind fun c102 => (cond c102 (some (r23.2 == 16)) (some false)).bind fun c107 => (cond c107 (some (r25.2 == 8)) (some false)).bind fun c112 => (cond c112 (some (r27.2 == 4)) (some false)).bind fun c117 => (cond c117 (some (r29.2 == 0)) (some false)).bind fun c122 => cond c122 ((r23_Same r29.1 [0]).bind fun r129 => (cond r129 (some (r31.2 == 2)) (some false)).bind fun c131 => (cond c131 (some (r33.2 == 8)) (some false)).bind fun c136 => (cond c136 (some (r35.2 == 2)) (some false)).bind fun c141 => (cond c141 (some (r37.2 == 2)) (some false)).bind fun c146 => (cond c146 (some (r39.2 == 2)) (some false)).bind fun c151 => (cond c151 (some (r41.2 == 0)) (some false)).bind fun c156 => (cond c156 (some ((r41.1.length : Int) == 2)) (some false)).bind fun c161 => (cond c161 (some (r43.2 == 8)) (some false)).bind fun c167 => some c167) (some false)) (some false)
end Go.Sh
