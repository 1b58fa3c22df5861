/- The sorting of slices.SortFunc, for any type: printed from the lifted text (tools/gensort.py). -/
import Derived.Test.YtcpogfjlehoabaaLf4
namespace Go.Sh
open Go Go.Am

def g_str : ByteArray := ⟨#[0, 1, 2, 2, 3, 3, 3, 3, 4, 4, 4, 4, 4, 4, 4, 4, 5, 5, 5, 5, 5, 5, 5, 5, 5, 5, 5, 5, 5, 5, 5, 5, 6, 6, 6, 6, 6, 6, 6, 6, 6, 6, 6, 6, 6, 6, 6, 6, 6, 6, 6, 6, 6, 6, 6, 6, 6, 6, 6, 6, 6, 6, 6, 6, 7, 7, 7, 7, 7, 7, 7, 7, 7, 7, 7, 7, 7, 7, 7, 7, 7, 7, 7, 7, 7, 7, 7, 7, 7, 7, 7, 7, 7, 7, 7, 7, 7, 7, 7, 7, 7, 7, 7, 7, 7, 7, 7, 7, 7, 7, 7, 7, 7, 7, 7, 7, 7, 7, 7, 7, 7, 7, 7, 7, 7, 7, 7, 7, 8, 8, 8, 8, 8, 8, 8, 8, 8, 8, 8, 8, 8, 8, 8, 8, 8, 8, 8, 8, 8, 8, 8, 8, 8, 8, 8, 8, 8, 8, 8, 8, 8, 8, 8, 8, 8, 8, 8, 8, 8, 8, 8, 8, 8, 8, 8, 8, 8, 8, 8, 8, 8, 8, 8, 8, 8, 8, 8, 8, 8, 8, 8, 8, 8, 8, 8, 8, 8, 8, 8, 8, 8, 8, 8, 8, 8, 8, 8, 8, 8, 8, 8, 8, 8, 8, 8, 8, 8, 8, 8, 8, 8, 8, 8, 8, 8, 8, 8, 8, 8, 8, 8, 8, 8, 8, 8, 8, 8, 8, 8, 8, 8, 8, 8, 8, 8, 8, 8, 8, 8, 8, 8, 8, 8, 8, 8, 8]⟩

noncomputable def g_Len64 (p0 : Int) : Option Int :=
  (cond (decide (p0 ≥ 4294967296)) (some (Int.fdiv p0 (2 ^ 32), 32)) (some (p0, 0))).bind fun b3 => (cond (decide (b3.1 ≥ 65536)) (some (Int.fdiv b3.1 (2 ^ 16), w64 (b3.2 + 16))) (some (b3.1, b3.2))).bind fun b6 => (cond (decide (b6.1 ≥ 256)) (some (Int.fdiv b6.1 (2 ^ 8), w64 (b6.2 + 8))) (some (b6.1, b6.2))).bind fun b9 => (strIdx g_str (IntKind.wrap .u8 b9.1)).bind fun v10 => some (w64 (b9.2 + (w64 v10)))

noncomputable def g_Len (p0 : Int) : Option Int :=
  (g_Len64 p0).bind fun r1 => some r1

noncomputable def g_insertionSort_L2 {T : Type} (p1 : Int) (q1 : T → T → Option Int) (a459 : Int × List T) : Option ((Int × List T) ⊕ (List T)) :=
  (cond (decide (a459.1 > p1)) ((idx a459.2 a459.1).bind fun v484 => (idx a459.2 (w64 (a459.1 - 1))).bind fun v486 => (q1 v484 v486).bind fun r488 => some (decide (r488 < 0))) (some false)).bind fun c469 => cond c469 ((idx a459.2 (w64 (a459.1 - 1))).bind fun v498 => (idx a459.2 a459.1).bind fun v500 => (idx a459.2 a459.1).bind fun v502 => (idx (a459.2.set a459.1.toNat v498) (w64 (a459.1 - 1))).bind fun v504 => some (.inl (w64 (a459.1 - 1), (a459.2.set a459.1.toNat v498).set (w64 (a459.1 - 1)).toNat v500))) (some (.inr a459.2))

noncomputable def g_insertionSort_L1 {T : Type} (p2 : Int) (p1 : Int) (q1 : T → T → Option Int) (a278 : Int × List T) : Option ((Int × List T) ⊕ (List T)) :=
  cond (decide (a278.1 < p2)) (((loop (g_insertionSort_L2 p1 q1) (a278.1, a278.2)).bind fun x0 => some x0).bind fun b370 => some (.inl (w64 (a278.1 + 1), b370))) (some (.inr a278.2))

noncomputable def g_insertionSort {T : Type} (q1 : T → T → Option Int) (p0 : List T) (p1 : Int) (p2 : Int) : Option (List T) :=
  (loop (g_insertionSort_L1 p2 p1 q1) (w64 (p1 + 1), p0)).bind fun x0 => some x0

noncomputable def g_siftDown_L1 {T : Type} (p2 : Int) (p3 : Int) (q1 : T → T → Option Int) (a197 : Int × List T) : Option ((Int × List T) ⊕ (List T)) :=
  cond (decide ((w64 ((w64 (2 * a197.1)) + 1)) ≥ p2)) (some (.inr a197.2)) ((cond (decide ((w64 ((w64 ((w64 (2 * a197.1)) + 1)) + 1)) < p2)) ((idx a197.2 (w64 (p3 + (w64 ((w64 (2 * a197.1)) + 1))))).bind fun v226 => (idx a197.2 (w64 ((w64 (p3 + (w64 ((w64 (2 * a197.1)) + 1)))) + 1))).bind fun v228 => (q1 v226 v228).bind fun r230 => some (decide (r230 < 0))) (some false)).bind fun c207 => (cond c207 (some (w64 ((w64 ((w64 (2 * a197.1)) + 1)) + 1))) (some (w64 ((w64 (2 * a197.1)) + 1)))).bind fun b234 => (idx a197.2 (w64 (p3 + a197.1))).bind fun v235 => (idx a197.2 (w64 (p3 + b234))).bind fun v237 => (q1 v235 v237).bind fun r239 => cond (!(decide (r239 < 0))) (some (.inr a197.2)) ((idx a197.2 (w64 (p3 + b234))).bind fun v241 => (idx a197.2 (w64 (p3 + a197.1))).bind fun v243 => (idx a197.2 (w64 (p3 + a197.1))).bind fun v245 => (idx (a197.2.set (w64 (p3 + a197.1)).toNat v241) (w64 (p3 + b234))).bind fun v247 => some (.inl (b234, (a197.2.set (w64 (p3 + a197.1)).toNat v241).set (w64 (p3 + b234)).toNat v243))))

noncomputable def g_siftDown {T : Type} (q1 : T → T → Option Int) (p0 : List T) (p1 : Int) (p2 : Int) (p3 : Int) : Option (List T) :=
  (loop (g_siftDown_L1 p2 p3 q1) (p1, p0)).bind fun x0 => some x0

noncomputable def g_heapSort_L1 {T : Type} (q1 : T → T → Option Int) (p2 : Int) (p1 : Int) (a123 : Int × List T) : Option ((Int × List T) ⊕ (List T)) :=
  cond (decide (a123.1 ≥ 0)) ((g_siftDown q1 a123.2 a123.1 (w64 (p2 - p1)) p1).bind fun e132 => (lenEq e132.length a123.2.length).bind fun u134 => some (.inl (w64 (a123.1 - 1), e132))) (some (.inr a123.2))

noncomputable def g_heapSort_L2 {T : Type} (p1 : Int) (q1 : T → T → Option Int) (a191 : Int × List T) : Option ((Int × List T) ⊕ (List T)) :=
  cond (decide (a191.1 ≥ 0)) ((idx a191.2 (w64 (p1 + a191.1))).bind fun v208 => (idx a191.2 p1).bind fun v210 => (idx a191.2 p1).bind fun v212 => (idx (a191.2.set p1.toNat v208) (w64 (p1 + a191.1))).bind fun v214 => (g_siftDown q1 ((a191.2.set p1.toNat v208).set (w64 (p1 + a191.1)).toNat v210) 0 a191.1 p1).bind fun e216 => (lenEq e216.length ((a191.2.set p1.toNat v208).set (w64 (p1 + a191.1)).toNat v210).length).bind fun u218 => some (.inl (w64 (a191.1 - 1), e216))) (some (.inr a191.2))

noncomputable def g_heapSort {T : Type} (q1 : T → T → Option Int) (p0 : List T) (p1 : Int) (p2 : Int) : Option (List T) :=
  (loop (g_heapSort_L1 q1 p2 p1) (w64 (Int.tdiv (w64 ((w64 (p2 - p1)) - 1)) 2), p0)).bind fun b126 => (loop (g_heapSort_L2 p1 q1) (w64 ((w64 (p2 - p1)) - 1), b126)).bind fun x0 => some x0

noncomputable def g_nextPowerOfTwo (p0 : Int) : Option Int :=
  (g_Len (IntKind.wrap .u64 p0)).bind fun r1 => (shlK .u64 1 r1).bind fun q3 => some q3

noncomputable def g_xorshift_Next (p0 : Int) : Option Int :=
  some (xorI .u64 (xorI .u64 (xorI .u64 p0 (IntKind.wrap .u64 (p0 * (2 ^ 13)))) (Int.fdiv (xorI .u64 p0 (IntKind.wrap .u64 (p0 * (2 ^ 13)))) (2 ^ 7))) (IntKind.wrap .u64 ((xorI .u64 (xorI .u64 p0 (IntKind.wrap .u64 (p0 * (2 ^ 13)))) (Int.fdiv (xorI .u64 p0 (IntKind.wrap .u64 (p0 * (2 ^ 13)))) (2 ^ 7))) * (2 ^ 17))))

noncomputable def g_breakPatterns_L1 {T : Type} (p1 : Int) (p2 : Int) (r101 : Int) (a153 : Int × List T × Int) : Option ((Int × List T × Int) ⊕ (List T)) :=
  cond (decide (a153.1 ≤ (w64 ((w64 (p1 + (w64 ((w64 (Int.tdiv (w64 (p2 - p1)) 4)) * 2)))) + 1)))) ((g_xorshift_Next a153.2.2).bind fun e168 => (cond (decide ((w64 (andI .u64 e168 (IntKind.wrap .u64 (r101 - 1)))) ≥ (w64 (p2 - p1)))) (some (w64 ((w64 (andI .u64 e168 (IntKind.wrap .u64 (r101 - 1)))) - (w64 (p2 - p1))))) (some (w64 (andI .u64 e168 (IntKind.wrap .u64 (r101 - 1)))))).bind fun b172 => (idx a153.2.1 (w64 (p1 + b172))).bind fun v173 => (idx a153.2.1 a153.1).bind fun v175 => (idx a153.2.1 a153.1).bind fun v177 => (idx (a153.2.1.set a153.1.toNat v173) (w64 (p1 + b172))).bind fun v179 => some (.inl (w64 (a153.1 + 1), (a153.2.1.set a153.1.toNat v173).set (w64 (p1 + b172)).toNat v175, e168))) (some (.inr a153.2.1))

noncomputable def g_breakPatterns {T : Type} (q1 : T → T → Option Int) (p0 : List T) (p1 : Int) (p2 : Int) : Option (List T) :=
  cond (decide ((w64 (p2 - p1)) ≥ 8)) ((g_nextPowerOfTwo (w64 (p2 - p1))).bind fun r101 => (loop (g_breakPatterns_L1 p1 p2 r101) (w64 ((w64 (p1 + (w64 ((w64 (Int.tdiv (w64 (p2 - p1)) 4)) * 2)))) - 1), p0, IntKind.wrap .u64 (w64 (p2 - p1)))).bind fun x0 => some x0) (some p0)

noncomputable def g_order2 {T : Type} (q1 : T → T → Option Int) (p0 : List T) (p1 : Int) (p2 : Int) (p3 : Int) : Option (Int × Int × Int) :=
  (idx p0 p2).bind fun v101 => (idx p0 p1).bind fun v103 => (q1 v101 v103).bind fun r105 => cond (decide (r105 < 0)) (some (p2, p1, w64 (p3 + 1))) (some (p1, p2, p3))

noncomputable def g_median {T : Type} (q1 : T → T → Option Int) (p0 : List T) (p1 : Int) (p2 : Int) (p3 : Int) (p4 : Int) : Option (Int × Int) :=
  (g_order2 q1 p0 p1 p2 p4).bind fun e101 => (g_order2 q1 p0 e101.2.1 p3 e101.2.2).bind fun e103 => (g_order2 q1 p0 e101.1 e103.1 e103.2.2).bind fun e105 => some (e105.2.1, e105.2.2)

noncomputable def g_medianAdjacent {T : Type} (q1 : T → T → Option Int) (p0 : List T) (p1 : Int) (p2 : Int) : Option (Int × Int) :=
  (g_median q1 p0 (w64 (p1 - 1)) p1 (w64 (p1 + 1)) p2).bind fun e101 => some (e101.1, e101.2)

noncomputable def g_choosePivot {T : Type} (p0 : List T) (p1 : Int) (p2 : Int) (p3 : T → T → Option Int) : Option (Int × Int) :=
  (cond (decide ((w64 (p2 - p1)) ≥ 8)) ((cond (decide ((w64 (p2 - p1)) ≥ 50)) ((g_medianAdjacent p3 p0 (w64 (p1 + (w64 ((w64 (Int.tdiv (w64 (p2 - p1)) 4)) * 1)))) 0).bind fun e25 => (g_medianAdjacent p3 p0 (w64 (p1 + (w64 ((w64 (Int.tdiv (w64 (p2 - p1)) 4)) * 2)))) e25.2).bind fun e27 => (g_medianAdjacent p3 p0 (w64 (p1 + (w64 ((w64 (Int.tdiv (w64 (p2 - p1)) 4)) * 3)))) e27.2).bind fun e29 => some (e25.1, e27.1, e29.1, e29.2)) (some (w64 (p1 + (w64 ((w64 (Int.tdiv (w64 (p2 - p1)) 4)) * 1))), w64 (p1 + (w64 ((w64 (Int.tdiv (w64 (p2 - p1)) 4)) * 2))), w64 (p1 + (w64 ((w64 (Int.tdiv (w64 (p2 - p1)) 4)) * 3))), 0))).bind fun b24 => (g_median p3 p0 b24.1 b24.2.1 b24.2.2.1 b24.2.2.2).bind fun e31 => some (e31.1, e31.2)) (some (w64 (p1 + (w64 ((w64 (Int.tdiv (w64 (p2 - p1)) 4)) * 2))), 0))).bind fun b15 => cond (b15.2 == 0) (some (b15.1, 1)) (cond (b15.2 == 12) (some (b15.1, 2)) (some (b15.1, 0)))

noncomputable def g_reverseRange_L1 {T : Type} (a119 : Int × Int × List T) : Option ((Int × Int × List T) ⊕ (List T)) :=
  cond (decide (a119.1 < a119.2.1)) ((idx a119.2.2 a119.2.1).bind fun v123 => (idx a119.2.2 a119.1).bind fun v125 => (idx a119.2.2 a119.1).bind fun v127 => (idx (a119.2.2.set a119.1.toNat v123) a119.2.1).bind fun v129 => some (.inl (w64 (a119.1 + 1), w64 (a119.2.1 - 1), (a119.2.2.set a119.1.toNat v123).set a119.2.1.toNat v125))) (some (.inr a119.2.2))

noncomputable def g_reverseRange {T : Type} (q1 : T → T → Option Int) (p0 : List T) (p1 : Int) (p2 : Int) : Option (List T) :=
  (loop g_reverseRange_L1 (p1, w64 (p2 - 1), p0)).bind fun x0 => some x0

noncomputable def g_partialInsertionSort_L2 {T : Type} (p2 : Int) (a438 : Int × Int × List T) (q1 : T → T → Option Int) (a681 : Int) : Option ((Int) ⊕ (Int)) :=
  (cond (decide (a681 < p2)) ((idx a438.2.2 a681).bind fun v707 => (idx a438.2.2 (w64 (a681 - 1))).bind fun v709 => (q1 v707 v709).bind fun r711 => some (!(decide (r711 < 0)))) (some false)).bind fun c691 => cond c691 (some (.inl (w64 (a681 + 1)))) (some (.inr a681))

noncomputable def g_partialInsertionSort_L3 {T : Type} (q1 : T → T → Option Int) (a838 : Int × List T) : Option ((Int × List T) ⊕ (List T)) :=
  cond (decide (a838.1 ≥ 1)) ((idx a838.2 a838.1).bind fun v856 => (idx a838.2 (w64 (a838.1 - 1))).bind fun v858 => (q1 v856 v858).bind fun r860 => cond (!(decide (r860 < 0))) (some (.inr a838.2)) ((idx a838.2 (w64 (a838.1 - 1))).bind fun v862 => (idx a838.2 a838.1).bind fun v864 => (idx a838.2 a838.1).bind fun v866 => (idx (a838.2.set a838.1.toNat v862) (w64 (a838.1 - 1))).bind fun v868 => some (.inl (w64 (a838.1 - 1), (a838.2.set a838.1.toNat v862).set (w64 (a838.1 - 1)).toNat v864)))) (some (.inr a838.2))

noncomputable def g_partialInsertionSort_L4 {T : Type} (p2 : Int) (q1 : T → T → Option Int) (b684 : Int) (a928 : Int × List T) : Option ((Int × List T) ⊕ (Int × List T)) :=
  cond (decide (a928.1 < p2)) ((idx a928.2 a928.1).bind fun v946 => (idx a928.2 (w64 (a928.1 - 1))).bind fun v948 => (q1 v946 v948).bind fun r950 => cond (!(decide (r950 < 0))) (some (.inr (b684, a928.2))) ((idx a928.2 (w64 (a928.1 - 1))).bind fun v952 => (idx a928.2 a928.1).bind fun v954 => (idx a928.2 a928.1).bind fun v956 => (idx (a928.2.set a928.1.toNat v952) (w64 (a928.1 - 1))).bind fun v958 => some (.inl (w64 (a928.1 + 1), (a928.2.set a928.1.toNat v952).set (w64 (a928.1 - 1)).toNat v954)))) (some (.inr (b684, a928.2)))

noncomputable def g_partialInsertionSort_L1 {T : Type} (p2 : Int) (q1 : T → T → Option Int) (p1 : Int) (a438 : Int × Int × List T) : Option ((Int × Int × List T) ⊕ ((List T) ⊕ (Bool × List T))) :=
  cond (decide (a438.2.1 < 5)) (((loop (g_partialInsertionSort_L2 p2 a438 q1) a438.1).bind fun b684 => cond (b684 == p2) (some (.inr (true, a438.2.2))) (cond (decide ((w64 (p2 - p1)) < 50)) (some (.inr (false, a438.2.2))) ((idx a438.2.2 (w64 (b684 - 1))).bind fun v713 => (idx a438.2.2 b684).bind fun v715 => (idx a438.2.2 b684).bind fun v717 => (idx (a438.2.2.set b684.toNat v713) (w64 (b684 - 1))).bind fun v719 => (cond (decide ((w64 (b684 - p1)) ≥ 2)) ((loop (g_partialInsertionSort_L3 q1) (w64 (b684 - 1), (a438.2.2.set b684.toNat v713).set (w64 (b684 - 1)).toNat v715)).bind fun x0 => some x0) (some ((a438.2.2.set b684.toNat v713).set (w64 (b684 - 1)).toNat v715))).bind fun b779 => cond (decide ((w64 (p2 - b684)) ≥ 2)) ((loop (g_partialInsertionSort_L4 p2 q1 b684) (w64 (b684 + 1), b779)).bind fun x0 => some (.inl x0)) (some (.inl (b684, b779))))) : Option ((Int × List T) ⊕ (Bool × List T))).bind fun m621 => (match m621 with | .inl b622 => some (.inl (b622.1, w64 (a438.2.1 + 1), b622.2)) | .inr x1 => some (.inr (.inr x1)))) (some (.inr (.inl a438.2.2)))

noncomputable def g_partialInsertionSort {T : Type} (q1 : T → T → Option Int) (p0 : List T) (p1 : Int) (p2 : Int) : Option (Bool × List T) :=
  (loop (g_partialInsertionSort_L1 p2 q1 p1) (w64 (p1 + 1), 0, p0) : Option ((List T) ⊕ (Bool × List T))).bind fun m439 => (match m439 with | .inl b441 => some (false, b441) | .inr x1 => some x1)

noncomputable def g_partitionEqual_L2 {T : Type} (a318 : Int × Int × List T) (p1 : Int) (q1 : T → T → Option Int) (a378 : Int) : Option ((Int) ⊕ (Int)) :=
  (cond (decide (a378 ≤ a318.2.1)) ((idx a318.2.2 p1).bind fun v403 => (idx a318.2.2 a378).bind fun v405 => (q1 v403 v405).bind fun r407 => some (!(decide (r407 < 0)))) (some false)).bind fun c388 => cond c388 (some (.inl (w64 (a378 + 1)))) (some (.inr a378))

noncomputable def g_partitionEqual_L3 {T : Type} (b381 : Int) (a318 : Int × Int × List T) (p1 : Int) (q1 : T → T → Option Int) (a463 : Int) : Option ((Int) ⊕ (Int)) :=
  (cond (decide (b381 ≤ a463)) ((idx a318.2.2 p1).bind fun v487 => (idx a318.2.2 a463).bind fun v489 => (q1 v487 v489).bind fun r491 => some (decide (r491 < 0))) (some false)).bind fun c473 => cond c473 (some (.inl (w64 (a463 - 1)))) (some (.inr a463))

noncomputable def g_partitionEqual_L1 {T : Type} (p1 : Int) (q1 : T → T → Option Int) (a318 : Int × Int × List T) : Option ((Int × Int × List T) ⊕ (Int × List T)) :=
  (loop (g_partitionEqual_L2 a318 p1 q1) a318.1).bind fun b381 => (loop (g_partitionEqual_L3 b381 a318 p1 q1) a318.2.1).bind fun b466 => cond (decide (b381 > b466)) (some (.inr (b381, a318.2.2))) ((idx a318.2.2 b466).bind fun v493 => (idx a318.2.2 b381).bind fun v495 => (idx a318.2.2 b381).bind fun v497 => (idx (a318.2.2.set b381.toNat v493) b466).bind fun v499 => some (.inl (w64 (b381 + 1), w64 (b466 - 1), (a318.2.2.set b381.toNat v493).set b466.toNat v495)))

noncomputable def g_partitionEqual {T : Type} (q1 : T → T → Option Int) (p0 : List T) (p1 : Int) (p2 : Int) (p3 : Int) : Option (Int × List T) :=
  (idx p0 p3).bind fun v101 => (idx p0 p1).bind fun v103 => (idx p0 p1).bind fun v105 => (idx (p0.set p1.toNat v101) p3).bind fun v107 => (loop (g_partitionEqual_L1 p1 q1) (w64 (p1 + 1), w64 (p2 - 1), (p0.set p1.toNat v101).set p3.toNat v103)).bind fun b321 => some (b321.1, b321.2)

noncomputable def g_partition_L1 {T : Type} (p2 : Int) (p0 : List T) (p1 : Int) (v101 : T) (p3 : Int) (v103 : T) (q1 : T → T → Option Int) (a163 : Int) : Option ((Int) ⊕ (Int)) :=
  (cond (decide (a163 ≤ (w64 (p2 - 1)))) ((idx ((p0.set p1.toNat v101).set p3.toNat v103) a163).bind fun v187 => (idx ((p0.set p1.toNat v101).set p3.toNat v103) p1).bind fun v189 => (q1 v187 v189).bind fun r191 => some (decide (r191 < 0))) (some false)).bind fun c173 => cond c173 (some (.inl (w64 (a163 + 1)))) (some (.inr a163))

noncomputable def g_partition_L2 {T : Type} (b166 : Int) (p0 : List T) (p1 : Int) (v101 : T) (p3 : Int) (v103 : T) (q1 : T → T → Option Int) (a249 : Int) : Option ((Int) ⊕ (Int)) :=
  (cond (decide (b166 ≤ a249)) ((idx ((p0.set p1.toNat v101).set p3.toNat v103) a249).bind fun v274 => (idx ((p0.set p1.toNat v101).set p3.toNat v103) p1).bind fun v276 => (q1 v274 v276).bind fun r278 => some (!(decide (r278 < 0)))) (some false)).bind fun c259 => cond c259 (some (.inl (w64 (a249 - 1)))) (some (.inr a249))

noncomputable def g_partition_L4 {T : Type} (a514 : Int × Int × List T) (p1 : Int) (q1 : T → T → Option Int) (a572 : Int) : Option ((Int) ⊕ (Int)) :=
  (cond (decide (a572 ≤ a514.2.1)) ((idx a514.2.2 a572).bind fun v596 => (idx a514.2.2 p1).bind fun v598 => (q1 v596 v598).bind fun r600 => some (decide (r600 < 0))) (some false)).bind fun c582 => cond c582 (some (.inl (w64 (a572 + 1)))) (some (.inr a572))

noncomputable def g_partition_L5 {T : Type} (b575 : Int) (a514 : Int × Int × List T) (p1 : Int) (q1 : T → T → Option Int) (a658 : Int) : Option ((Int) ⊕ (Int)) :=
  (cond (decide (b575 ≤ a658)) ((idx a514.2.2 a658).bind fun v683 => (idx a514.2.2 p1).bind fun v685 => (q1 v683 v685).bind fun r687 => some (!(decide (r687 < 0)))) (some false)).bind fun c668 => cond c668 (some (.inl (w64 (a658 - 1)))) (some (.inr a658))

noncomputable def g_partition_L3 {T : Type} (p1 : Int) (q1 : T → T → Option Int) (a514 : Int × Int × List T) : Option ((Int × Int × List T) ⊕ (Int × List T)) :=
  (loop (g_partition_L4 a514 p1 q1) a514.1).bind fun b575 => (loop (g_partition_L5 b575 a514 p1 q1) a514.2.1).bind fun b661 => cond (decide (b575 > b661)) (some (.inr (b661, a514.2.2))) ((idx a514.2.2 b661).bind fun v689 => (idx a514.2.2 b575).bind fun v691 => (idx a514.2.2 b575).bind fun v693 => (idx (a514.2.2.set b575.toNat v689) b661).bind fun v695 => some (.inl (w64 (b575 + 1), w64 (b661 - 1), (a514.2.2.set b575.toNat v689).set b661.toNat v691)))

noncomputable def g_partition {T : Type} (q1 : T → T → Option Int) (p0 : List T) (p1 : Int) (p2 : Int) (p3 : Int) : Option (Int × Bool × List T) :=
  (idx p0 p3).bind fun v101 => (idx p0 p1).bind fun v103 => (idx p0 p1).bind fun v105 => (idx (p0.set p1.toNat v101) p3).bind fun v107 => (loop (g_partition_L1 p2 p0 p1 v101 p3 v103 q1) (w64 (p1 + 1))).bind fun b166 => (loop (g_partition_L2 b166 p0 p1 v101 p3 v103 q1) (w64 (p2 - 1))).bind fun b252 => cond (decide (b166 > b252)) ((idx ((p0.set p1.toNat v101).set p3.toNat v103) p1).bind fun v288 => (idx ((p0.set p1.toNat v101).set p3.toNat v103) b252).bind fun v290 => (idx ((p0.set p1.toNat v101).set p3.toNat v103) b252).bind fun v292 => (idx (((p0.set p1.toNat v101).set p3.toNat v103).set b252.toNat v288) p1).bind fun v294 => some (b252, true, (((p0.set p1.toNat v101).set p3.toNat v103).set b252.toNat v288).set p1.toNat v290)) ((idx ((p0.set p1.toNat v101).set p3.toNat v103) b252).bind fun v296 => (idx ((p0.set p1.toNat v101).set p3.toNat v103) b166).bind fun v298 => (idx ((p0.set p1.toNat v101).set p3.toNat v103) b166).bind fun v300 => (idx (((p0.set p1.toNat v101).set p3.toNat v103).set b166.toNat v296) b252).bind fun v302 => (loop (g_partition_L3 p1 q1) (w64 (b166 + 1), w64 (b252 - 1), (((p0.set p1.toNat v101).set p3.toNat v103).set b166.toNat v296).set b252.toNat v298)).bind fun b517 => (idx b517.2 p1).bind fun v697 => (idx b517.2 b517.1).bind fun v699 => (idx b517.2 b517.1).bind fun v701 => (idx (b517.2.set b517.1.toNat v697) p1).bind fun v703 => some (b517.1, false, (b517.2.set b517.1.toNat v697).set p1.toNat v699))

noncomputable def g_pdqsort_L1 {T : Type} (q1 : T → T → Option Int) (rec : List T → Int → Int → Int → Option (List T)) (a309 : Int × Int × Int × Bool × Bool × List T) : Option ((Int × Int × Int × Bool × Bool × List T) ⊕ (List T)) :=
  cond (decide ((w64 (a309.2.1 - a309.1)) ≤ 12)) ((g_insertionSort q1 a309.2.2.2.2.2 a309.1 a309.2.1).bind fun e318 => (lenEq e318.length a309.2.2.2.2.2.length).bind fun u320 => some (.inr e318)) (cond (a309.2.2.1 == 0) ((g_heapSort q1 a309.2.2.2.2.2 a309.1 a309.2.1).bind fun e328 => (lenEq e328.length a309.2.2.2.2.2.length).bind fun u330 => some (.inr e328)) ((cond (!a309.2.2.2.1) ((g_breakPatterns q1 a309.2.2.2.2.2 a309.1 a309.2.1).bind fun e341 => (lenEq e341.length a309.2.2.2.2.2.length).bind fun u343 => some (w64 (a309.2.2.1 - 1), e341)) (some (a309.2.2.1, a309.2.2.2.2.2))).bind fun b340 => (g_choosePivot b340.2 a309.1 a309.2.1 q1).bind fun r346 => (cond (r346.2 == 2) ((g_reverseRange q1 b340.2 a309.1 a309.2.1).bind fun e356 => (lenEq e356.length b340.2.length).bind fun u358 => some (w64 ((w64 (a309.2.1 - 1)) - (w64 (r346.1 - a309.1))), 1, e356)) (some (r346.1, r346.2, b340.2))).bind fun b355 => (cond a309.2.2.2.1 (some a309.2.2.2.2.1) (some false)).bind fun c361 => (cond c361 (some (b355.2.1 == 1)) (some false)).bind fun c365 => (cond c365 ((g_partialInsertionSort q1 b355.2.2 a309.1 a309.2.1).bind fun e378 => (lenEq e378.2.length b355.2.2.length).bind fun u380 => cond e378.1 (some (.inr e378.2)) (some (.inl e378.2))) (some (.inl b355.2.2)) : Option ((List T) ⊕ (List T))).bind fun m376 => (match m376 with | .inl b377 => (cond (decide (a309.1 > 0)) ((idx b377 (w64 (a309.1 - 1))).bind fun v405 => (idx b377 b355.1).bind fun v407 => (q1 v405 v407).bind fun r409 => some (!(decide (r409 < 0)))) (some false)).bind fun c389 => cond c389 ((g_partitionEqual q1 b377 a309.1 a309.2.1 b355.1).bind fun e416 => (lenEq e416.2.length b377.length).bind fun u418 => some (.inl (e416.1, a309.2.1, b340.1, a309.2.2.2.1, a309.2.2.2.2.1, e416.2))) ((g_partition q1 b377 a309.1 a309.2.1 b355.1).bind fun e421 => (lenEq e421.2.2.length b377.length).bind fun u423 => cond (decide ((w64 (e421.1 - a309.1)) < (w64 (a309.2.1 - e421.1)))) ((rec e421.2.2 a309.1 e421.1 b340.1).bind fun e426 => (lenEq e426.length e421.2.2.length).bind fun u428 => some (.inl (w64 (e421.1 + 1), a309.2.1, b340.1, decide ((w64 (e421.1 - a309.1)) ≥ (w64 (Int.tdiv (w64 (a309.2.1 - a309.1)) 8))), e421.2.1, e426))) ((rec e421.2.2 (w64 (e421.1 + 1)) a309.2.1 b340.1).bind fun e431 => (lenEq e431.length e421.2.2.length).bind fun u433 => some (.inl (a309.1, e421.1, b340.1, decide ((w64 (a309.2.1 - e421.1)) ≥ (w64 (Int.tdiv (w64 (a309.2.1 - a309.1)) 8))), e421.2.1, e431)))) | .inr x1 => some (.inr x1))))

noncomputable def g_pdqsort_b {T : Type} (rec : List T → Int → Int → Int → Option (List T)) (q1 : T → T → Option Int) (p0 : List T) (p1 : Int) (p2 : Int) (p3 : Int) : Option (List T) :=
  (loop (g_pdqsort_L1 q1 rec) (p1, p2, p3, true, true, p0)).bind fun x0 => some x0

noncomputable def g_pdqsort {T : Type} : Nat → (T → T → Option Int) → List T → Int → Int → Int → Option (List T)
  | 0, _, _, _, _, _ => none
  | n + 1, q1, p0, p1, p2, p3 => g_pdqsort_b (g_pdqsort n q1) q1 p0 p1 p2 p3

noncomputable def g_SortFunc {T : Type} (q1 : T → T → Option Int) (p0 : List T) : Option (List T) :=
  (g_Len (IntKind.wrap .u64 (p0.length : Int))).bind fun r101 => (lim (fun n => g_pdqsort n q1 p0 0 (p0.length : Int) r101)).bind fun e103 => (lenEq e103.length p0.length).bind fun u105 => some e103

end Go.Sh