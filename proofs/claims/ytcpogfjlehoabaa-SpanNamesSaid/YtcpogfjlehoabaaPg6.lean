/- PLAIN: the sorting of the spans' ends is the general one: printed by tools/eqsort.py. -/
import Derived.Test.YtcpogfjlehoabaaPspan
import Derived.Test.YtcpogfjlehoabaaPg0
namespace Go.Sh
open Go Go.Am
theorem se_g_str : str_256_0_1_2_2_3_3 = g_str := rfl
theorem se_g_Len64 : math_bits_Len64 = g_Len64 := by
  funext p0
  simp only [math_bits_Len64, g_Len64, se_g_str]
  all_goals repeat' first | with_reducible rfl | (refine funext fun (m : Sum _ _) => ?_; cases m <;> (first | with_reducible rfl | rfl)) | (congr 1) | funext _
  done
theorem se_g_Len : math_bits_Len = g_Len := by
  funext p0
  simp only [math_bits_Len, g_Len, se_g_Len64]
  all_goals repeat' first | with_reducible rfl | (refine funext fun (m : Sum _ _) => ?_; cases m <;> (first | with_reducible rfl | rfl)) | (congr 1) | funext _
  done
theorem se_g_insertionSort_L2 : slices_insertionSortCmpFunc_span_end_e1_L2 = g_insertionSort_L2 := by
  funext p1 q1 a459
  simp only [slices_insertionSortCmpFunc_span_end_e1_L2, g_insertionSort_L2]
  all_goals repeat' first | with_reducible rfl | (refine funext fun (m : Sum _ _) => ?_; cases m <;> (first | with_reducible rfl | rfl)) | (congr 1) | funext _
  done
theorem se_g_insertionSort_L1 : slices_insertionSortCmpFunc_span_end_e1_L1 = g_insertionSort_L1 := by
  funext p2 p1 q1 a278
  simp only [slices_insertionSortCmpFunc_span_end_e1_L1, g_insertionSort_L1, se_g_insertionSort_L2]
  all_goals repeat' first | with_reducible rfl | (refine funext fun (m : Sum _ _) => ?_; cases m <;> (first | with_reducible rfl | rfl)) | (congr 1) | funext _
  done
theorem se_g_insertionSort : slices_insertionSortCmpFunc_span_end_e1 = g_insertionSort := by
  funext q1 p0 p1 p2
  simp only [slices_insertionSortCmpFunc_span_end_e1, g_insertionSort, se_g_insertionSort_L1]
  all_goals repeat' first | with_reducible rfl | (refine funext fun (m : Sum _ _) => ?_; cases m <;> (first | with_reducible rfl | rfl)) | (congr 1) | funext _
  done
theorem se_g_siftDown_L1 : slices_siftDownCmpFunc_span_end_e1_L1 = g_siftDown_L1 := by
  funext p2 p3 q1 a197
  simp only [slices_siftDownCmpFunc_span_end_e1_L1, g_siftDown_L1]
  all_goals repeat' first | with_reducible rfl | (refine funext fun (m : Sum _ _) => ?_; cases m <;> (first | with_reducible rfl | rfl)) | (congr 1) | funext _
  done
theorem se_g_siftDown : slices_siftDownCmpFunc_span_end_e1 = g_siftDown := by
  funext q1 p0 p1 p2 p3
  simp only [slices_siftDownCmpFunc_span_end_e1, g_siftDown, se_g_siftDown_L1]
  all_goals repeat' first | with_reducible rfl | (refine funext fun (m : Sum _ _) => ?_; cases m <;> (first | with_reducible rfl | rfl)) | (congr 1) | funext _
  done
theorem se_g_heapSort_L1 : slices_heapSortCmpFunc_span_end_e1_L1 = g_heapSort_L1 := by
  funext q1 p2 p1 a123
  simp only [slices_heapSortCmpFunc_span_end_e1_L1, g_heapSort_L1, se_g_siftDown]
  all_goals repeat' first | with_reducible rfl | (refine funext fun (m : Sum _ _) => ?_; cases m <;> (first | with_reducible rfl | rfl)) | (congr 1) | funext _
  done
theorem se_g_heapSort_L2 : slices_heapSortCmpFunc_span_end_e1_L2 = g_heapSort_L2 := by
  funext p1 q1 a191
  simp only [slices_heapSortCmpFunc_span_end_e1_L2, g_heapSort_L2, se_g_siftDown]
  all_goals repeat' first | with_reducible rfl | (refine funext fun (m : Sum _ _) => ?_; cases m <;> (first | with_reducible rfl | rfl)) | (congr 1) | funext _
  done
theorem se_g_heapSort : slices_heapSortCmpFunc_span_end_e1 = g_heapSort := by
  funext q1 p0 p1 p2
  simp only [slices_heapSortCmpFunc_span_end_e1, g_heapSort, se_g_heapSort_L1, se_g_heapSort_L2]
  all_goals repeat' first | with_reducible rfl | (refine funext fun (m : Sum _ _) => ?_; cases m <;> (first | with_reducible rfl | rfl)) | (congr 1) | funext _
  done
theorem se_g_nextPowerOfTwo : slices_nextPowerOfTwo = g_nextPowerOfTwo := by
  funext p0
  simp only [slices_nextPowerOfTwo, g_nextPowerOfTwo, se_g_Len]
  all_goals repeat' first | with_reducible rfl | (refine funext fun (m : Sum _ _) => ?_; cases m <;> (first | with_reducible rfl | rfl)) | (congr 1) | funext _
  done
theorem se_g_xorshift_Next : slices_xorshift_Next_e1 = g_xorshift_Next := by
  funext p0
  simp only [slices_xorshift_Next_e1, g_xorshift_Next]
  all_goals repeat' first | with_reducible rfl | (refine funext fun (m : Sum _ _) => ?_; cases m <;> (first | with_reducible rfl | rfl)) | (congr 1) | funext _
  done
theorem se_g_breakPatterns_L1 : slices_breakPatternsCmpFunc_span_end_e1_L1 = g_breakPatterns_L1 := by
  funext p1 p2 r101 a153
  simp only [slices_breakPatternsCmpFunc_span_end_e1_L1, g_breakPatterns_L1, se_g_xorshift_Next]
  all_goals repeat' first | with_reducible rfl | (refine funext fun (m : Sum _ _) => ?_; cases m <;> (first | with_reducible rfl | rfl)) | (congr 1) | funext _
  done
theorem se_g_breakPatterns : slices_breakPatternsCmpFunc_span_end_e1 = g_breakPatterns := by
  funext q1 p0 p1 p2
  simp only [slices_breakPatternsCmpFunc_span_end_e1, g_breakPatterns, se_g_nextPowerOfTwo, se_g_breakPatterns_L1]
  all_goals repeat' first | with_reducible rfl | (refine funext fun (m : Sum _ _) => ?_; cases m <;> (first | with_reducible rfl | rfl)) | (congr 1) | funext _
  done
theorem se_g_order2 : slices_order2CmpFunc_span_end_e1 = g_order2 := by
  funext q1 p0 p1 p2 p3
  simp only [slices_order2CmpFunc_span_end_e1, g_order2]
  all_goals repeat' first | with_reducible rfl | (refine funext fun (m : Sum _ _) => ?_; cases m <;> (first | with_reducible rfl | rfl)) | (congr 1) | funext _
  done
theorem se_g_median : slices_medianCmpFunc_span_end_e1 = g_median := by
  funext q1 p0 p1 p2 p3 p4
  simp only [slices_medianCmpFunc_span_end_e1, g_median, se_g_order2]
  all_goals repeat' first | with_reducible rfl | (refine funext fun (m : Sum _ _) => ?_; cases m <;> (first | with_reducible rfl | rfl)) | (congr 1) | funext _
  done
theorem se_g_medianAdjacent : slices_medianAdjacentCmpFunc_span_end_e1 = g_medianAdjacent := by
  funext q1 p0 p1 p2
  simp only [slices_medianAdjacentCmpFunc_span_end_e1, g_medianAdjacent, se_g_median]
  all_goals repeat' first | with_reducible rfl | (refine funext fun (m : Sum _ _) => ?_; cases m <;> (first | with_reducible rfl | rfl)) | (congr 1) | funext _
  done
theorem se_g_choosePivot : slices_choosePivotCmpFunc_span_end = g_choosePivot := by
  funext p0 p1 p2 p3
  simp only [slices_choosePivotCmpFunc_span_end, g_choosePivot, se_g_median, se_g_medianAdjacent]
  all_goals repeat' first | with_reducible rfl | (refine funext fun (m : Sum _ _) => ?_; cases m <;> (first | with_reducible rfl | rfl)) | (congr 1) | funext _
  done
theorem se_g_reverseRange_L1 : slices_reverseRangeCmpFunc_span_end_e1_L1 = g_reverseRange_L1 := by
  funext a119
  simp only [slices_reverseRangeCmpFunc_span_end_e1_L1, g_reverseRange_L1]
  all_goals repeat' first | with_reducible rfl | (refine funext fun (m : Sum _ _) => ?_; cases m <;> (first | with_reducible rfl | rfl)) | (congr 1) | funext _
  done
theorem se_g_reverseRange : slices_reverseRangeCmpFunc_span_end_e1 = g_reverseRange := by
  funext q1 p0 p1 p2
  simp only [slices_reverseRangeCmpFunc_span_end_e1, g_reverseRange, se_g_reverseRange_L1]
  all_goals repeat' first | with_reducible rfl | (refine funext fun (m : Sum _ _) => ?_; cases m <;> (first | with_reducible rfl | rfl)) | (congr 1) | funext _
  done
theorem se_g_partialInsertionSort_L2 : slices_partialInsertionSortCmpFunc_span_end_e1_L2 = g_partialInsertionSort_L2 := by
  funext p2 a438 q1 a681
  simp only [slices_partialInsertionSortCmpFunc_span_end_e1_L2, g_partialInsertionSort_L2]
  all_goals repeat' first | with_reducible rfl | (refine funext fun (m : Sum _ _) => ?_; cases m <;> (first | with_reducible rfl | rfl)) | (congr 1) | funext _
  done
theorem se_g_partialInsertionSort_L3 : slices_partialInsertionSortCmpFunc_span_end_e1_L3 = g_partialInsertionSort_L3 := by
  funext q1 a838
  simp only [slices_partialInsertionSortCmpFunc_span_end_e1_L3, g_partialInsertionSort_L3]
  all_goals repeat' first | with_reducible rfl | (refine funext fun (m : Sum _ _) => ?_; cases m <;> (first | with_reducible rfl | rfl)) | (congr 1) | funext _
  done
theorem se_g_partialInsertionSort_L4 : slices_partialInsertionSortCmpFunc_span_end_e1_L4 = g_partialInsertionSort_L4 := by
  funext p2 q1 b684 a928
  simp only [slices_partialInsertionSortCmpFunc_span_end_e1_L4, g_partialInsertionSort_L4]
  all_goals repeat' first | with_reducible rfl | (refine funext fun (m : Sum _ _) => ?_; cases m <;> (first | with_reducible rfl | rfl)) | (congr 1) | funext _
  done
theorem se_g_partialInsertionSort_L1 : slices_partialInsertionSortCmpFunc_span_end_e1_L1 = g_partialInsertionSort_L1 := by
  funext p2 q1 p1 a438
  have mm : @slices_partialInsertionSortCmpFunc_span_end_e1_L1.match_1.{1} = @g_partialInsertionSort_L1.match_1.{1} span_end := by funext motive m f g; cases m <;> rfl
  unfold slices_partialInsertionSortCmpFunc_span_end_e1_L1 g_partialInsertionSort_L1
  rw [mm]
  simp only [se_g_partialInsertionSort_L2, se_g_partialInsertionSort_L3, se_g_partialInsertionSort_L4]
theorem se_g_partialInsertionSort : slices_partialInsertionSortCmpFunc_span_end_e1 = g_partialInsertionSort := by
  funext q1 p0 p1 p2
  have mm : @slices_partialInsertionSortCmpFunc_span_end_e1.match_1.{1} = @g_partialInsertionSort.match_1.{1} span_end := by funext motive m f g; cases m <;> rfl
  unfold slices_partialInsertionSortCmpFunc_span_end_e1 g_partialInsertionSort
  rw [mm]
  simp only [se_g_partialInsertionSort_L1]
theorem se_g_partitionEqual_L2 : slices_partitionEqualCmpFunc_span_end_e1_L2 = g_partitionEqual_L2 := by
  funext a318 p1 q1 a378
  simp only [slices_partitionEqualCmpFunc_span_end_e1_L2, g_partitionEqual_L2]
  all_goals repeat' first | with_reducible rfl | (refine funext fun (m : Sum _ _) => ?_; cases m <;> (first | with_reducible rfl | rfl)) | (congr 1) | funext _
  done
theorem se_g_partitionEqual_L3 : slices_partitionEqualCmpFunc_span_end_e1_L3 = g_partitionEqual_L3 := by
  funext b381 a318 p1 q1 a463
  simp only [slices_partitionEqualCmpFunc_span_end_e1_L3, g_partitionEqual_L3]
  all_goals repeat' first | with_reducible rfl | (refine funext fun (m : Sum _ _) => ?_; cases m <;> (first | with_reducible rfl | rfl)) | (congr 1) | funext _
  done
theorem se_g_partitionEqual_L1 : slices_partitionEqualCmpFunc_span_end_e1_L1 = g_partitionEqual_L1 := by
  funext p1 q1 a318
  simp only [slices_partitionEqualCmpFunc_span_end_e1_L1, g_partitionEqual_L1, se_g_partitionEqual_L2, se_g_partitionEqual_L3]
  all_goals repeat' first | with_reducible rfl | (refine funext fun (m : Sum _ _) => ?_; cases m <;> (first | with_reducible rfl | rfl)) | (congr 1) | funext _
  done
theorem se_g_partitionEqual : slices_partitionEqualCmpFunc_span_end_e1 = g_partitionEqual := by
  funext q1 p0 p1 p2 p3
  simp only [slices_partitionEqualCmpFunc_span_end_e1, g_partitionEqual, se_g_partitionEqual_L1]
  all_goals repeat' first | with_reducible rfl | (refine funext fun (m : Sum _ _) => ?_; cases m <;> (first | with_reducible rfl | rfl)) | (congr 1) | funext _
  done
theorem se_g_partition_L1 : slices_partitionCmpFunc_span_end_e1_L1 = g_partition_L1 := by
  funext p2 p0 p1 v101 p3 v103 q1 a163
  simp only [slices_partitionCmpFunc_span_end_e1_L1, g_partition_L1]
  all_goals repeat' first | with_reducible rfl | (refine funext fun (m : Sum _ _) => ?_; cases m <;> (first | with_reducible rfl | rfl)) | (congr 1) | funext _
  done
theorem se_g_partition_L2 : slices_partitionCmpFunc_span_end_e1_L2 = g_partition_L2 := by
  funext b166 p0 p1 v101 p3 v103 q1 a249
  simp only [slices_partitionCmpFunc_span_end_e1_L2, g_partition_L2]
  all_goals repeat' first | with_reducible rfl | (refine funext fun (m : Sum _ _) => ?_; cases m <;> (first | with_reducible rfl | rfl)) | (congr 1) | funext _
  done
theorem se_g_partition_L4 : slices_partitionCmpFunc_span_end_e1_L4 = g_partition_L4 := by
  funext a514 p1 q1 a572
  simp only [slices_partitionCmpFunc_span_end_e1_L4, g_partition_L4]
  all_goals repeat' first | with_reducible rfl | (refine funext fun (m : Sum _ _) => ?_; cases m <;> (first | with_reducible rfl | rfl)) | (congr 1) | funext _
  done
theorem se_g_partition_L5 : slices_partitionCmpFunc_span_end_e1_L5 = g_partition_L5 := by
  funext b575 a514 p1 q1 a658
  simp only [slices_partitionCmpFunc_span_end_e1_L5, g_partition_L5]
  all_goals repeat' first | with_reducible rfl | (refine funext fun (m : Sum _ _) => ?_; cases m <;> (first | with_reducible rfl | rfl)) | (congr 1) | funext _
  done
theorem se_g_partition_L3 : slices_partitionCmpFunc_span_end_e1_L3 = g_partition_L3 := by
  funext p1 q1 a514
  simp only [slices_partitionCmpFunc_span_end_e1_L3, g_partition_L3, se_g_partition_L4, se_g_partition_L5]
  all_goals repeat' first | with_reducible rfl | (refine funext fun (m : Sum _ _) => ?_; cases m <;> (first | with_reducible rfl | rfl)) | (congr 1) | funext _
  done
theorem se_g_partition : slices_partitionCmpFunc_span_end_e1 = g_partition := by
  funext q1 p0 p1 p2 p3
  simp only [slices_partitionCmpFunc_span_end_e1, g_partition, se_g_partition_L1, se_g_partition_L2, se_g_partition_L3]
  all_goals repeat' first | with_reducible rfl | (refine funext fun (m : Sum _ _) => ?_; cases m <;> (first | with_reducible rfl | rfl)) | (congr 1) | funext _
  done
theorem se_g_pdqsort_L1 : slices_pdqsortCmpFunc_span_end_e2_L1 = g_pdqsort_L1 := by
  funext q1 rec a309
  have mm : @slices_pdqsortCmpFunc_span_end_e2_L1.match_1.{1} = @g_pdqsort_L1.match_1.{1} span_end := by funext motive m f g; cases m <;> rfl
  unfold slices_pdqsortCmpFunc_span_end_e2_L1 g_pdqsort_L1
  rw [mm]
  simp only [se_g_insertionSort, se_g_heapSort, se_g_breakPatterns, se_g_choosePivot, se_g_reverseRange, se_g_partialInsertionSort, se_g_partitionEqual, se_g_partition]
theorem se_g_pdqsort_b : slices_pdqsortCmpFunc_span_end_e2_b = g_pdqsort_b := by
  funext rec q1 p0 p1 p2 p3
  simp only [slices_pdqsortCmpFunc_span_end_e2_b, g_pdqsort_b, se_g_pdqsort_L1]
  all_goals repeat' first | with_reducible rfl | (refine funext fun (m : Sum _ _) => ?_; cases m <;> (first | with_reducible rfl | rfl)) | (congr 1) | funext _
  done
theorem se_g_pdqsort : ∀ N q, slices_pdqsortCmpFunc_span_end_e2 N q = g_pdqsort N q := by
  intro N q
  induction N with
  | zero => rfl
  | succ N ih =>
    funext a b c d
    show slices_pdqsortCmpFunc_span_end_e2_b (slices_pdqsortCmpFunc_span_end_e2 N q) q a b c d = g_pdqsort_b (g_pdqsort N q) q a b c d
    rw [ih, se_g_pdqsort_b]
theorem se_g_SortFunc : slices_SortFunc_span_end_span_end_e1 = g_SortFunc := by
  funext q1 p0
  simp only [slices_SortFunc_span_end_span_end_e1, g_SortFunc, se_g_Len, se_g_pdqsort]
  all_goals repeat' first | with_reducible rfl | (refine funext fun (m : Sum _ _) => ?_; cases m <;> (first | with_reducible rfl | rfl)) | (congr 1) | funext _
  done
end Go.Sh
