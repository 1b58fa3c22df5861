/- PLAIN FUNCTIONS, lifted by program. -/
import Derived.Test.YtbfdjpffambpfaaLf3
namespace Go.Sh
open Go Go.Am
noncomputable def slices_IndexFunc_int_int_L1 (p0 : List Int) (p1 : Int → Option Bool) (a19 : Int) : Option ((Int) ⊕ ((Unit) ⊕ (Int))) :=
  cond (decide (a19 < (p0.length : Int))) ((idx p0 a19).bind fun v27 => (p1 v27).bind fun r29 => cond r29 (some (.inr (.inr a19))) (some (.inl (w64 (a19 + 1))))) (some (.inr (.inl ())))

/-- slices.IndexFunc[[]int,int] -/
noncomputable def slices_IndexFunc_int_int (p0 : List Int) (p1 : Int → Option Bool) : Option Int :=
  (loop (slices_IndexFunc_int_int_L1 p0 p1) 0 : Option ((Unit) ⊕ (Int))).bind fun m20 => (match m20 with | .inl b22 => some (-1) | .inr x1 => some x1)

/-- slices.ContainsFunc[[]int,int] -/
noncomputable def slices_ContainsFunc_int_int (p0 : List Int) (p1 : Int → Option Bool) : Option Bool :=
  (slices_IndexFunc_int_int p0 p1).bind fun r1 => some (decide (r1 ≥ 0))

/-- gambrel/split.Cuts$1 -/
noncomputable def split_Cuts_1 (p0 : Int) : Option Bool :=
  some (decide (p0 < 0))

noncomputable def split_Cuts_L1 (p0 : List Int) (a37 : Int × List Int) : Option ((Int × List Int) ⊕ ((List Int) ⊕ (List Int × Int))) :=
  cond (decide (a37.1 < (p0.length : Int))) ((idx p0 a37.1).bind fun v49 => (idx a37.2 a37.1).bind fun v51 => cond (decide (v49 > (w64 (1000000 - v51)))) (some (.inr (.inr ([], 16)))) ((idx a37.2 a37.1).bind fun v53 => (app 8 a37.2 [w64 (v53 + v49)]).bind fun z55 => some (.inl (w64 (a37.1 + 1), z55)))) (some (.inr (.inl a37.2)))

/-- gambrel/split.Cuts -/
noncomputable def split_Cuts (p0 : List Int) : Option (List Int × Int) :=
  cond (decide ((p0.length : Int) > 200)) (some ([], 4)) ((slices_ContainsFunc_int_int p0 (fun x0 => split_Cuts_1 x0)).bind fun r1 => cond r1 (some ([], 8)) ((loop (split_Cuts_L1 p0) (0, [0]) : Option ((List Int) ⊕ (List Int × Int))).bind fun m38 => (match m38 with | .inl b40 => some (b40, 0) | .inr x1 => some x1)))

noncomputable def r23_Cuts_L1 (p0 : List Int) (a11 : Int) : Option ((Int) ⊕ ((Unit) ⊕ (List Int × Int))) :=
  cond (decide (a11 < (p0.length : Int))) ((idx p0 a11).bind fun v17 => cond (decide (v17 < 0)) (some (.inr (.inr ([], 8)))) (some (.inl (w64 (a11 + 1))))) (some (.inr (.inl ())))

noncomputable def r23_Cuts_L2 (p0 : List Int) (a137 : Int × List Int) : Option ((Int × List Int) ⊕ ((List Int) ⊕ (List Int × Int))) :=
  cond (decide (a137.1 < (p0.length : Int))) ((idx p0 a137.1).bind fun v170 => (cond (decide (v170 > 1000000)) (some true) ((idx a137.2 a137.1).bind fun v189 => (idx p0 a137.1).bind fun v191 => some (decide ((w64 (v189 + v191)) > 1000000)))).bind fun c176 => cond c176 (some (.inr (.inr ([], 16)))) ((idx a137.2 a137.1).bind fun v193 => (idx p0 a137.1).bind fun v195 => (app 8 a137.2 [w64 (v193 + v195)]).bind fun z197 => some (.inl (w64 (a137.1 + 1), z197)))) (some (.inr (.inl a137.2)))

/-- gambrel/gambrelref23.Cuts -/
noncomputable def r23_Cuts (p0 : List Int) : Option (List Int × Int) :=
  cond (decide ((p0.length : Int) > 200)) (some ([], 4)) ((loop (r23_Cuts_L1 p0) 0 : Option ((Unit) ⊕ (List Int × Int))).bind fun m12 => (match m12 with | .inl b14 => (loop (r23_Cuts_L2 p0) (0, [0]) : Option ((List Int) ⊕ (List Int × Int))).bind fun m138 => (match m138 with | .inl b140 => some (b140, 0) | .inr x1 => some x1) | .inr x1 => some x1))

/-- math/bits.Mul64 -/
noncomputable def math_bits_Mul64 (p0 : Int) (p1 : Int) : Option (Int × Int) :=
  some (IntKind.wrap .u64 ((IntKind.wrap .u64 ((IntKind.wrap .u64 ((Int.fdiv p0 (2 ^ 32)) * (Int.fdiv p1 (2 ^ 32)))) + (Int.fdiv (IntKind.wrap .u64 ((IntKind.wrap .u64 ((Int.fdiv p0 (2 ^ 32)) * (andI .u64 p1 4294967295))) + (Int.fdiv (IntKind.wrap .u64 ((andI .u64 p0 4294967295) * (andI .u64 p1 4294967295))) (2 ^ 32)))) (2 ^ 32)))) + (Int.fdiv (IntKind.wrap .u64 ((andI .u64 (IntKind.wrap .u64 ((IntKind.wrap .u64 ((Int.fdiv p0 (2 ^ 32)) * (andI .u64 p1 4294967295))) + (Int.fdiv (IntKind.wrap .u64 ((andI .u64 p0 4294967295) * (andI .u64 p1 4294967295))) (2 ^ 32)))) 4294967295) + (IntKind.wrap .u64 ((andI .u64 p0 4294967295) * (Int.fdiv p1 (2 ^ 32)))))) (2 ^ 32))), IntKind.wrap .u64 (p0 * p1))

/-- math/bits.Mul -/
noncomputable def math_bits_Mul (p0 : Int) (p1 : Int) : Option (Int × Int) :=
  (math_bits_Mul64 p0 p1).bind fun r1 => some (r1.1, r1.2)

noncomputable def slices_Repeat_int_int_L1 (a23 : Int × List Int) : Option ((Int × List Int) ⊕ (List Int)) :=
  cond (decide (a23.1 < (a23.2.length : Int))) ((sub2 a23.2.length a23.1 a23.2.length).bind fun w27 => (sub2 a23.2.length 0 a23.1).bind fun w29 => some (.inl (w64 (a23.1 + ((min ((a23.2.drop w29.1).take w29.2).length w27.2 : Nat) : Int)), cpyw a23.2 w27 ((a23.2.drop w29.1).take w29.2)))) (some (.inr a23.2))

/-- slices.Repeat[[]int,int] -/
noncomputable def slices_Repeat_int_int (p0 : List Int) (p1 : Int) : Option (List Int) :=
  cond (decide (p1 < 0)) none ((math_bits_Mul (IntKind.wrap .u64 (p0.length : Int)) (IntKind.wrap .u64 p1)).bind fun r1 => (cond (decide (r1.1 > 0)) (some true) (some (decide (r1.2 > 9223372036854775807)))).bind fun c3 => cond c3 none ((mks 8 (w64 r1.2) 0).bind fun z8 => (loop slices_Repeat_int_int_L1 (((min p0.length (0, z8.length).2 : Nat) : Int), cpyw z8 (0, z8.length) p0)).bind fun b26 => some b26))

noncomputable def split_Repeat_L1 (r18 : List Int) (a42 : Int × Int) : Option ((Int × Int) ⊕ (Int)) :=
  cond (decide (a42.1 < (r18.length : Int))) ((idx r18 a42.1).bind fun v48 => some (.inl (w64 (a42.1 + 1), w64 (a42.2 + v48)))) (some (.inr a42.2))

noncomputable def split_Repeat_L2 (r18 : List Int) (p0 : Int) (b31 : Int) (a305 : Int × Int × Int × List Int) : Option ((Int × Int × Int × List Int) ⊕ (List Int)) :=
  cond (decide (a305.2.2.1 < (r18.length : Int))) ((idx r18 a305.2.2.1).bind fun v316 => (quo64 (w64 (p0 * (w64 (a305.1 + v316)))) b31).bind fun q318 => ((app 8 a305.2.2.2 [w64 (q318 - a305.2.1)]).bind fun z325 => some z325).bind fun b324 => cond (!true) (some (.inr b324)) (some (.inl (w64 (a305.1 + v316), q318, w64 (a305.2.2.1 + 1), b324)))) (some (.inr a305.2.2.2))

/-- gambrel/split.Repeat -/
noncomputable def split_Repeat (p0 : Int) (p1 : Int) : Option (List Int × Int) :=
  (cond (decide (p0 < 0)) (some true) (some (decide (p0 > 1000000)))).bind fun c1 => (cond c1 (some true) (some (decide (p1 < 1)))).bind fun c6 => (cond c6 (some true) (some (decide (p1 > 1000000)))).bind fun c11 => cond c11 (some ([], 2)) ((quo64 (w64 ((w64 (2 * p0)) + p1)) (w64 (2 * p1))).bind fun q16 => cond (decide ((max 1 q16) > 200)) (some ([], 4)) ((slices_Repeat_int_int [1] (max 1 q16)).bind fun r18 => ((loop (split_Repeat_L1 r18) (0, 0)).bind fun b45 => some b45).bind fun b31 => ((((loop (split_Repeat_L2 r18 p0 b31) (0, 0, 0, [])).bind fun x0 => some x0).bind fun b268 => some b268).bind fun b196 => some b196).bind fun b123 => some (b123, 0)))

noncomputable def r23_Repeat_L1 (b23 : Int) (p0 : Int) (a50 : Int × List Int) : Option ((Int × List Int) ⊕ (List Int)) :=
  cond (decide (a50.1 ≤ b23)) ((quo64 (w64 (p0 * a50.1)) b23).bind fun q60 => (quo64 (w64 (p0 * (w64 (a50.1 - 1)))) b23).bind fun q62 => (app 8 a50.2 [w64 (q60 - q62)]).bind fun z64 => some (.inl (w64 (a50.1 + 1), z64))) (some (.inr a50.2))

/-- gambrel/gambrelref23.Repeat -/
noncomputable def r23_Repeat (p0 : Int) (p1 : Int) : Option (List Int × Int) :=
  (cond (decide (p0 < 0)) (some true) (some (decide (p0 > 1000000)))).bind fun c1 => (cond c1 (some true) (some (decide (p1 < 1)))).bind fun c6 => (cond c6 (some true) (some (decide (p1 > 1000000)))).bind fun c11 => cond c11 (some ([], 2)) ((quo64 p0 p1).bind fun q16 => (cond (decide ((w64 (2 * (w64 (p0 - (w64 (q16 * p1)))))) ≥ p1)) (some (w64 (q16 + 1))) (some q16)).bind fun b20 => (cond (b20 == 0) (some 1) (some b20)).bind fun b23 => cond (decide (b23 > 200)) (some ([], 4)) ((loop (r23_Repeat_L1 b23 p0) (1, [])).bind fun b53 => some (b53, 0)))

/-- cmp.isNaN[int] -/
noncomputable def cmp_isNaN_int (p0 : Int) : Option Bool :=
  some (p0 != p0)

/-- cmp.Less[int] -/
noncomputable def cmp_Less_int (p0 : Int) (p1 : Int) : Option Bool :=
  (cmp_isNaN_int p0).bind fun r1 => (cond r1 ((cmp_isNaN_int p1).bind fun r11 => some (!r11)) (some false)).bind fun c5 => (cond c5 (some true) (some (decide (p0 < p1)))).bind fun c13 => some c13

noncomputable def slices_IsSorted_int_int_L1 (p0 : List Int) (a27 : Int) : Option ((Int) ⊕ ((Unit) ⊕ (Bool))) :=
  cond (decide (a27 > 0)) ((idx p0 a27).bind fun v37 => (idx p0 (w64 (a27 - 1))).bind fun v39 => (cmp_Less_int v37 v39).bind fun r41 => cond r41 (some (.inr (.inr false))) (some (.inl (w64 (a27 - 1))))) (some (.inr (.inl ())))

/-- slices.IsSorted[[]int,int] -/
noncomputable def slices_IsSorted_int_int (p0 : List Int) : Option Bool :=
  (loop (slices_IsSorted_int_int_L1 p0) (w64 ((p0.length : Int) - 1)) : Option ((Unit) ⊕ (Bool))).bind fun m28 => (match m28 with | .inl b30 => some true | .inr x1 => some x1)

noncomputable def split_At_L1 (z22 : List Int) (p0 : List Int) (p1 : Int) (a90 : Int) : Option ((Int) ⊕ ((Unit) ⊕ (Int × Int))) :=
  cond (decide (a90 < (z22.length : Int))) ((idx p0 a90).bind fun v110 => (cond (decide (v110 ≤ p1)) ((idx p0 (w64 (a90 + 1))).bind fun v124 => some (decide (p1 < v124))) (some false)).bind fun c114 => cond c114 (some (.inr (.inr (a90, 0)))) (some (.inl (w64 (a90 + 1))))) (some (.inr (.inl ())))

/-- gambrel/split.At -/
noncomputable def split_At (p0 : List Int) (p1 : Int) : Option (Int × Int) :=
  (cond ((p0.length : Int) == 0) (some true) ((idx p0 0).bind fun v10 => some (v10 != 0))).bind fun c3 => (cond c3 (some true) ((slices_IsSorted_int_int p0).bind fun r20 => some (!r20))).bind fun c14 => cond c14 (some (0, 8)) ((slc p0 1 p0.length).bind fun z22 => (loop (split_At_L1 z22 p0 p1) 0 : Option ((Unit) ⊕ (Int × Int))).bind fun m91 => (match m91 with | .inl b93 => some (0, 2) | .inr x1 => some x1))

noncomputable def r23_At_L1 (p0 : List Int) (a30 : Int) : Option ((Int) ⊕ ((Unit) ⊕ (Int × Int))) :=
  cond (decide (a30 < (p0.length : Int))) ((idx p0 a30).bind fun v38 => (idx p0 (w64 (a30 - 1))).bind fun v40 => cond (decide (v38 < v40)) (some (.inr (.inr (0, 8)))) (some (.inl (w64 (a30 + 1))))) (some (.inr (.inl ())))

noncomputable def r23_At_L2 (p0 : List Int) (p1 : Int) (a108 : Int) : Option ((Int) ⊕ ((Unit) ⊕ (Int × Int))) :=
  cond (decide ((w64 (a108 + 1)) < (p0.length : Int))) ((idx p0 a108).bind fun v128 => (cond (decide (p1 ≥ v128)) ((idx p0 (w64 (a108 + 1))).bind fun v142 => some (decide (p1 < v142))) (some false)).bind fun c132 => cond c132 (some (.inr (.inr (a108, 0)))) (some (.inl (w64 (a108 + 1))))) (some (.inr (.inl ())))

/-- gambrel/gambrelref23.At -/
noncomputable def r23_At (p0 : List Int) (p1 : Int) : Option (Int × Int) :=
  (cond ((p0.length : Int) == 0) (some true) ((idx p0 0).bind fun v10 => some (v10 != 0))).bind fun c3 => cond c3 (some (0, 8)) ((loop (r23_At_L1 p0) 1 : Option ((Unit) ⊕ (Int × Int))).bind fun m31 => (match m31 with | .inl b33 => (loop (r23_At_L2 p0 p1) 0 : Option ((Unit) ⊕ (Int × Int))).bind fun m109 => (match m109 with | .inl b111 => some (0, 2) | .inr x1 => some x1) | .inr x1 => some x1))

noncomputable def r23_Same_L1 (p0 : List Int) (p1 : List Int) (a19 : Int) : Option ((Int) ⊕ ((Unit) ⊕ (Bool))) :=
  cond (decide (a19 < (p0.length : Int))) ((idx p0 a19).bind fun v27 => (idx p1 a19).bind fun v29 => cond (v27 != v29) (some (.inr (.inr false))) (some (.inl (w64 (a19 + 1))))) (some (.inr (.inl ())))

/-- gambrel/gambrelref23.Same -/
noncomputable def r23_Same (p0 : List Int) (p1 : List Int) : Option Bool :=
  cond ((p0.length : Int) != (p1.length : Int)) (some false) ((loop (r23_Same_L1 p0 p1) 0 : Option ((Unit) ⊕ (Bool))).bind fun m20 => (match m20 with | .inl b22 => some true | .inr x1 => some x1))

/-- gambrel/gambrellaw23.SplitCuts -/
noncomputable def l23_SplitCuts (p0 : List Int) (p1 : Int) (p2 : Int) (p3 : Int) : Option Bool :=
  cond (decide ((p0.length : Int) > 250)) (some true) ((split_Cuts p0).bind fun r1 => (r23_Cuts p0).bind fun r3 => (split_Repeat p1 p2).bind fun r5 => (r23_Repeat p1 p2).bind fun r7 => (split_At p0 p3).bind fun r9 => (r23_At p0 p3).bind fun r11 => (r23_Same r1.1 r3.1).bind fun r13 => (cond r13 (some (r1.2 == r3.2)) (some false)).bind fun c15 => (cond c15 ((r23_Same r5.1 r7.1).bind fun r29 => some r29) (some false)).bind fun c23 => (cond c23 (some (r5.2 == r7.2)) (some false)).bind fun c31 => (cond c31 (some (r9.1 == r11.1)) (some false)).bind fun c37 => (cond c37 (some (r9.2 == r11.2)) (some false)).bind fun c43 => some c43)
end Go.Sh
