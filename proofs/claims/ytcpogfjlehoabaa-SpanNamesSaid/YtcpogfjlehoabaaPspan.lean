/- PLAIN FUNCTIONS, lifted by program. -/
import Derived.Test.YtcpogfjlehoabaaLf4
namespace Go.Sh
open Go Go.Am
structure api_Span where
  Lo : Int
  Hi : Int
  deriving DecidableEq

def enc_api_Span (x : api_Span) : List DV := [.int .i64 x.Lo, .int .i64 x.Hi]

/-- gambrel/span.valid -/
noncomputable def span_valid (p0 : api_Span) : Option Bool :=
  (cond (decide (p0.Lo < p0.Hi)) (some (decide (p0.Lo ≥ (-1000000)))) (some false)).bind fun c1 => (cond c1 (some (decide (p0.Hi ≤ 1000000))) (some false)).bind fun c7 => some c7

noncomputable def span_Check_L1 (p0 : List api_Span) (a211 : Int) : Option ((Int) ⊕ ((Unit) ⊕ (Int))) :=
  cond (decide (a211 < (p0.length : Int))) ((idx p0 a211).bind fun v267 => (span_valid v267).bind fun r269 => (cond (!r269) (some true) ((cond (decide (a211 > 0)) ((idx p0 (w64 (a211 - 1))).bind fun v317 => some (decide (v317.Hi ≥ v267.Lo))) (some false)).bind fun c305 => some c305)).bind fun c287 => cond c287 (some (.inr (.inr 8))) (some (.inl (w64 (a211 + 1))))) (some (.inr (.inl ())))

/-- gambrel/span.Check -/
noncomputable def span_Check (p0 : List api_Span) : Option Int :=
  cond (decide ((p0.length : Int) > 400)) (some 4) ((loop (span_Check_L1 p0) 0 : Option ((Unit) ⊕ (Int))).bind fun m212 => (match m212 with | .inl b214 => some 0 | .inr x1 => some x1))

noncomputable def span_Gaps_L1 (p0 : List api_Span) (a29 : Int × List api_Span) : Option ((Int × List api_Span) ⊕ (List api_Span)) :=
  cond (decide (a29.1 < (p0.length : Int))) ((idx p0 (w64 (a29.1 - 1))).bind fun v39 => (idx p0 a29.1).bind fun v41 => (app 16 a29.2 [({ Lo := v39.Hi, Hi := v41.Lo } : api_Span)]).bind fun z43 => some (.inl (w64 (a29.1 + 1), z43))) (some (.inr a29.2))

/-- gambrel/span.Gaps -/
noncomputable def span_Gaps (p0 : List api_Span) : Option (List api_Span × Int) :=
  (span_Check p0).bind fun r1 => cond (r1 != 0) (some ([], r1)) ((loop (span_Gaps_L1 p0) (1, [])).bind fun b32 => some (b32, 0))

/-- gambrel/gambrelref11.Valid -/
noncomputable def r11_Valid (p0 : api_Span) : Option Bool :=
  (cond (decide (p0.Lo < p0.Hi)) (some (decide (p0.Lo ≥ (-1000000)))) (some false)).bind fun c1 => (cond c1 (some (decide (p0.Hi ≤ 1000000))) (some false)).bind fun c7 => some c7

noncomputable def r11_Check_L1 (p0 : List api_Span) (a279 : Int) : Option ((Int) ⊕ ((Unit) ⊕ (Int))) :=
  cond (decide (a279 < (p0.length : Int))) ((idx p0 a279).bind fun v352 => (r11_Valid v352).bind fun r354 => (cond (!r354) (some true) ((cond (decide (a279 > 0)) ((idx p0 (w64 (a279 - 1))).bind fun v417 => (idx p0 a279).bind fun v419 => some (decide (v417.Hi ≥ v419.Lo))) (some false)).bind fun c402 => some c402)).bind fun c379 => cond c379 (some (.inr (.inr 8))) (some (.inl (w64 (a279 + 1))))) (some (.inr (.inl ())))

/-- gambrel/gambrelref11.Check -/
noncomputable def r11_Check (p0 : List api_Span) : Option Int :=
  cond (decide ((p0.length : Int) > 400)) (some 4) ((loop (r11_Check_L1 p0) 0 : Option ((Unit) ⊕ (Int))).bind fun m280 => (match m280 with | .inl b282 => some 0 | .inr x1 => some x1))

noncomputable def r11_Sorted_L2 (a113 : Int × List Int) (p0 : List Int) (a239 : Int) : Option ((Int) ⊕ (Int)) :=
  (cond (decide (a239 > 0)) ((idx a113.2 (w64 (a239 - 1))).bind fun v260 => (idx p0 a113.1).bind fun v262 => some (decide (v260 > v262))) (some false)).bind fun c247 => cond c247 (some (.inl (w64 (a239 - 1)))) (some (.inr a239))

noncomputable def r11_Sorted_L1 (p0 : List Int) (a113 : Int × List Int) : Option ((Int × List Int) ⊕ (List Int)) :=
  cond (decide (a113.1 < (p0.length : Int))) (((loop (r11_Sorted_L2 a113 p0) (a113.2.length : Int)).bind fun b242 => (cond (decide (b242 > 0)) ((idx a113.2 (w64 (b242 - 1))).bind fun v281 => (idx p0 a113.1).bind fun v283 => some (v281 == v283)) (some false)).bind fun c268 => cond c268 (some a113.2) ((app 8 a113.2 [0]).bind fun z285 => (sub2 z285.length (w64 (b242 + 1)) z285.length).bind fun w287 => (sub2 z285.length b242 z285.length).bind fun w289 => (idx p0 a113.1).bind fun v292 => (idx (cpyw z285 w287 ((z285.drop w289.1).take w289.2)) b242).bind fun _ => some ((cpyw z285 w287 ((z285.drop w289.1).take w289.2)).set b242.toNat v292))).bind fun b194 => some (.inl (w64 (a113.1 + 1), b194))) (some (.inr a113.2))

/-- gambrel/gambrelref11.Sorted -/
noncomputable def r11_Sorted (p0 : List Int) : Option (List Int) :=
  (loop (r11_Sorted_L1 p0) (0, [])).bind fun b116 => some b116

noncomputable def r11_Ends_L1 (p0 : List api_Span) (a27 : Int × List Int) : Option ((Int × List Int) ⊕ (List Int)) :=
  cond (decide (a27.1 < (p0.length : Int))) ((idx p0 a27.1).bind fun v37 => (idx p0 a27.1).bind fun v39 => (app 8 a27.2 [v37.Lo, v39.Hi]).bind fun z41 => some (.inl (w64 (a27.1 + 1), z41))) (some (.inr a27.2))

noncomputable def r11_Ends_L2 (p1 : List api_Span) (a69 : Int × List Int) : Option ((Int × List Int) ⊕ (List Int)) :=
  cond (decide (a69.1 < (p1.length : Int))) ((idx p1 a69.1).bind fun v79 => (idx p1 a69.1).bind fun v81 => (app 8 a69.2 [v79.Lo, v81.Hi]).bind fun z83 => some (.inl (w64 (a69.1 + 1), z83))) (some (.inr a69.2))

/-- gambrel/gambrelref11.Ends -/
noncomputable def r11_Ends (p0 : List api_Span) (p1 : List api_Span) : Option (List Int) :=
  (loop (r11_Ends_L1 p0) (0, [])).bind fun b30 => (loop (r11_Ends_L2 p1) (0, b30)).bind fun b72 => (r11_Sorted b72).bind fun r85 => some r85

noncomputable def r11_Has_L1 (p0 : List api_Span) (p1 : Int) (a67 : Int) : Option ((Int) ⊕ ((Unit) ⊕ (Bool))) :=
  cond (decide (a67 < (p0.length : Int))) ((idx p0 a67).bind fun v87 => (cond (decide (v87.Lo ≤ p1)) ((idx p0 a67).bind fun v101 => some (decide (p1 < v101.Hi))) (some false)).bind fun c91 => cond c91 (some (.inr (.inr true))) (some (.inl (w64 (a67 + 1))))) (some (.inr (.inl ())))

/-- gambrel/gambrelref11.Has -/
noncomputable def r11_Has (p0 : List api_Span) (p1 : Int) : Option Bool :=
  (loop (r11_Has_L1 p0 p1) 0 : Option ((Unit) ⊕ (Bool))).bind fun m68 => (match m68 with | .inl b70 => some false | .inr x1 => some x1)

/-- gambrel/gambrelref11.Holds -/
noncomputable def r11_Holds (p0 : Int) (p1 : Bool) (p2 : Bool) : Option Bool :=
  cond (p0 == 1) ((cond p1 (some p2) (some false)).bind fun c5 => some c5) (cond (p0 == 2) ((cond p1 (some true) (some p2)).bind fun c13 => some c13) ((cond p1 (some (!p2)) (some false)).bind fun c17 => some c17))

noncomputable def r11_Canon_L1 (p0 : List Int) (p1 : List Bool) (a64 : Int × List api_Span) : Option ((Int × List api_Span) ⊕ (List api_Span)) :=
  cond (decide ((w64 (a64.1 + 1)) < (p0.length : Int))) (((idx p1 a64.1).bind fun v105 => cond (!v105) (some a64.2) ((cond (decide ((a64.2.length : Int) > 0)) ((idx a64.2 (w64 ((a64.2.length : Int) - 1))).bind fun v125 => (idx p0 a64.1).bind fun v127 => some (v125.Hi == v127)) (some false)).bind fun c111 => cond c111 ((idx p0 (w64 (a64.1 + 1))).bind fun v129 => (idx a64.2 (w64 ((a64.2.length : Int) - 1))).bind fun v131 => some (a64.2.set (w64 ((a64.2.length : Int) - 1)).toNat ({ Lo := v131.Lo, Hi := v129 } : api_Span))) ((idx p0 a64.1).bind fun v133 => (idx p0 (w64 (a64.1 + 1))).bind fun v135 => (app 16 a64.2 [({ Lo := v133, Hi := v135 } : api_Span)]).bind fun z137 => some z137))).bind fun b104 => some (.inl (w64 (a64.1 + 1), b104))) (some (.inr a64.2))

/-- gambrel/gambrelref11.Canon -/
noncomputable def r11_Canon (p0 : List Int) (p1 : List Bool) : Option (List api_Span) :=
  (loop (r11_Canon_L1 p0 p1) (0, [])).bind fun b67 => some b67

noncomputable def r11_Joined_L1 (r1 : List Int) (p1 : List api_Span) (p2 : List api_Span) (p0 : Int) (a53 : Int × List Bool) : Option ((Int × List Bool) ⊕ (List Bool)) :=
  cond (decide (a53.1 < (r1.length : Int))) ((idx r1 a53.1).bind fun v69 => (r11_Has p1 v69).bind fun r71 => (idx r1 a53.1).bind fun v73 => (r11_Has p2 v73).bind fun r75 => (r11_Holds p0 r71 r75).bind fun r77 => (app 1 a53.2 [r77]).bind fun z79 => some (.inl (w64 (a53.1 + 1), z79))) (some (.inr a53.2))

/-- gambrel/gambrelref11.Joined -/
noncomputable def r11_Joined (p0 : Int) (p1 : List api_Span) (p2 : List api_Span) : Option (List api_Span) :=
  (r11_Ends p1 p2).bind fun r1 => (loop (r11_Joined_L1 r1 p1 p2 p0) (0, [])).bind fun b56 => (r11_Canon r1 b56).bind fun r81 => some r81

/-- gambrel/gambrelref11.Gaps -/
noncomputable def r11_Gaps (p0 : List api_Span) : Option (List api_Span × Int) :=
  (r11_Check p0).bind fun r1 => cond (r1 != 0) ((r11_Check p0).bind fun r5 => some ([], r5)) (cond ((p0.length : Int) == 0) (some ([], 0)) ((idx p0 0).bind fun v7 => (idx p0 (w64 ((p0.length : Int) - 1))).bind fun v9 => (r11_Joined 3 [({ Lo := v7.Lo, Hi := v9.Hi } : api_Span)] p0).bind fun r11 => some (r11, 0)))

noncomputable def span_Move_L1 (p0 : List api_Span) (p1 : Int) (a48 : Int × List api_Span) : Option ((Int × List api_Span) ⊕ ((List api_Span) ⊕ (List api_Span × Int))) :=
  cond (decide (a48.1 < (p0.length : Int))) ((idx p0 a48.1).bind fun v58 => (span_valid ({ Lo := w64 (v58.Lo + p1), Hi := w64 (v58.Hi + p1) } : api_Span)).bind fun r60 => cond (!r60) (some (.inr (.inr ([], 16)))) ((app 16 a48.2 [({ Lo := w64 (v58.Lo + p1), Hi := w64 (v58.Hi + p1) } : api_Span)]).bind fun z62 => some (.inl (w64 (a48.1 + 1), z62)))) (some (.inr (.inl a48.2)))

/-- gambrel/span.Move -/
noncomputable def span_Move (p0 : List api_Span) (p1 : Int) : Option (List api_Span × Int) :=
  (span_Check p0).bind fun r1 => cond (r1 != 0) (some ([], r1)) ((cond (decide ((p0.length : Int) > 0)) ((cond (decide (p1 > 2000000)) (some true) (some (decide (p1 < (-2000000))))).bind fun c17 => some c17) (some false)).bind fun c8 => cond c8 (some ([], 16)) ((loop (span_Move_L1 p0 p1) (0, []) : Option ((List api_Span) ⊕ (List api_Span × Int))).bind fun m49 => (match m49 with | .inl b51 => some (b51, 0) | .inr x1 => some x1)))

noncomputable def r11_Move_L1 (p0 : List api_Span) (p1 : Int) (a181 : Int × List api_Span) : Option ((Int × List api_Span) ⊕ ((List api_Span) ⊕ (List api_Span × Int))) :=
  cond (decide (a181.1 < (p0.length : Int))) ((cond (decide (p1 > 2000000)) (some true) (some (decide (p1 < (-2000000))))).bind fun c228 => (cond c228 (some true) ((idx p0 a181.1).bind fun v259 => (idx p0 a181.1).bind fun v261 => (r11_Valid ({ Lo := w64 (v259.Lo + p1), Hi := w64 (v261.Hi + p1) } : api_Span)).bind fun r263 => some (!r263))).bind fun c239 => cond c239 (some (.inr (.inr ([], 16)))) ((idx p0 a181.1).bind fun v265 => (idx p0 a181.1).bind fun v267 => (app 16 a181.2 [({ Lo := w64 (v265.Lo + p1), Hi := w64 (v267.Hi + p1) } : api_Span)]).bind fun z269 => some (.inl (w64 (a181.1 + 1), z269)))) (some (.inr (.inl a181.2)))

/-- gambrel/gambrelref11.Move -/
noncomputable def r11_Move (p0 : List api_Span) (p1 : Int) : Option (List api_Span × Int) :=
  (r11_Check p0).bind fun r1 => cond (r1 != 0) ((r11_Check p0).bind fun r5 => some ([], r5)) ((loop (r11_Move_L1 p0 p1) (0, []) : Option ((List api_Span) ⊕ (List api_Span × Int))).bind fun m182 => (match m182 with | .inl b184 => some (b184, 0) | .inr x1 => some x1))

noncomputable def span_Near_L1 (p0 : List api_Span) (p1 : Int) (a29 : Int × Int) : Option ((Int × Int) ⊕ (Int)) :=
  cond (decide (a29.2 < (p0.length : Int))) (((idx p0 a29.2).bind fun v44 => (cond (decide (a29.1 < 0)) (some true) (some (decide ((max (max (w64 (v44.Lo - p1)) (w64 ((w64 (p1 - v44.Hi)) + 1))) 0) < a29.1)))).bind fun c46 => cond c46 (some (max (max (w64 (v44.Lo - p1)) (w64 ((w64 (p1 - v44.Hi)) + 1))) 0)) (some a29.1)).bind fun b43 => some (.inl (b43, w64 (a29.2 + 1)))) (some (.inr a29.1))

/-- gambrel/span.Near -/
noncomputable def span_Near (p0 : List api_Span) (p1 : Int) : Option (Int × Int) :=
  (span_Check p0).bind fun r1 => cond (r1 != 0) (some (0, r1)) ((cond (decide (p1 < (-1000000))) (some true) (some (decide (p1 > 1000000)))).bind fun c3 => cond c3 (some (0, 2)) ((loop (span_Near_L1 p0 p1) ((-1), 0)).bind fun b32 => cond (decide (b32 < 0)) (some (0, 6)) (some (b32, 0))))

noncomputable def r11_Near_L1 (p0 : List api_Span) (p1 : Int) (a31 : Int × Int) : Option ((Int × Int) ⊕ (Int)) :=
  cond (decide (a31.2 < (p0.length : Int))) (((idx p0 a31.2).bind fun v44 => cond (decide (v44.Lo > p1)) ((idx p0 a31.2).bind fun v46 => some (min a31.1 (w64 (v46.Lo - p1)))) ((idx p0 a31.2).bind fun v48 => some (min a31.1 (w64 (p1 - (w64 (v48.Hi - 1))))))).bind fun b43 => some (.inl (b43, w64 (a31.2 + 1)))) (some (.inr a31.1))

/-- gambrel/gambrelref11.Near -/
noncomputable def r11_Near (p0 : List api_Span) (p1 : Int) : Option (Int × Int) :=
  (r11_Check p0).bind fun r1 => cond (r1 != 0) ((r11_Check p0).bind fun r5 => some (0, r5)) ((cond (decide (p1 < (-1000000))) (some true) (some (decide (p1 > 1000000)))).bind fun c7 => cond c7 (some (0, 2)) (cond ((p0.length : Int) == 0) (some (0, 6)) ((r11_Has p0 p1).bind fun r12 => cond r12 (some (0, 0)) ((loop (r11_Near_L1 p0 p1) (4000000, 0)).bind fun b34 => some (b34, 0)))))

noncomputable def r11_Same_L1 (p0 : List api_Span) (p1 : List api_Span) (a19 : Int) : Option ((Int) ⊕ ((Unit) ⊕ (Bool))) :=
  cond (decide (a19 < (p0.length : Int))) ((idx p0 a19).bind fun v27 => (idx p1 a19).bind fun v29 => cond (!((v27.Lo == v29.Lo) && ((v27.Hi == v29.Hi) && true))) (some (.inr (.inr false))) (some (.inl (w64 (a19 + 1))))) (some (.inr (.inl ())))

/-- gambrel/gambrelref11.Same -/
noncomputable def r11_Same (p0 : List api_Span) (p1 : List api_Span) : Option Bool :=
  cond ((p0.length : Int) != (p1.length : Int)) (some false) ((loop (r11_Same_L1 p0 p1) 0 : Option ((Unit) ⊕ (Bool))).bind fun m20 => (match m20 with | .inl b22 => some true | .inr x1 => some x1))

/-- gambrel/gambrellaw11.SpanMoves -/
noncomputable def l11_SpanMoves (p0 : List api_Span) (p1 : Int) (p2 : Int) : Option Bool :=
  cond (decide ((p0.length : Int) > 450)) (some true) ((span_Gaps p0).bind fun r1 => (r11_Gaps p0).bind fun r3 => (span_Move p0 p1).bind fun r5 => (r11_Move p0 p1).bind fun r7 => (span_Near p0 p2).bind fun r9 => (r11_Near p0 p2).bind fun r11 => (r11_Same r1.1 r3.1).bind fun r13 => (cond r13 (some (r1.2 == r3.2)) (some false)).bind fun c15 => (cond c15 ((r11_Same r5.1 r7.1).bind fun r29 => some r29) (some false)).bind fun c23 => (cond c23 (some (r5.2 == r7.2)) (some false)).bind fun c31 => (cond c31 (some (r9.1 == r11.1)) (some false)).bind fun c37 => (cond c37 (some (r9.2 == r11.2)) (some false)).bind fun c43 => some c43)

def enc_sl_List_api_Span (x : List api_Span) : List DV := [.sl 2 (x.map enc_api_Span)]

structure span_end where
  at_ : Int
  list_ : Int
  by_ : Int
  deriving DecidableEq

def enc_span_end (x : span_end) : List DV := [.int .i64 x.at_, .int .i64 x.list_, .int .i64 x.by_]

/-- gambrel/span.ends$1 -/
noncomputable def span_ends_1 (p0 : span_end) (p1 : span_end) : Option Int :=
  some (w64 (p0.at_ - p1.at_))

def str_256_0_1_2_2_3_3 : ByteArray := ⟨#[0, 1, 2, 2, 3, 3, 3, 3, 4, 4, 4, 4, 4, 4, 4, 4, 5, 5, 5, 5, 5, 5, 5, 5, 5, 5, 5, 5, 5, 5, 5, 5, 6, 6, 6, 6, 6, 6, 6, 6, 6, 6, 6, 6, 6, 6, 6, 6, 6, 6, 6, 6, 6, 6, 6, 6, 6, 6, 6, 6, 6, 6, 6, 6, 7, 7, 7, 7, 7, 7, 7, 7, 7, 7, 7, 7, 7, 7, 7, 7, 7, 7, 7, 7, 7, 7, 7, 7, 7, 7, 7, 7, 7, 7, 7, 7, 7, 7, 7, 7, 7, 7, 7, 7, 7, 7, 7, 7, 7, 7, 7, 7, 7, 7, 7, 7, 7, 7, 7, 7, 7, 7, 7, 7, 7, 7, 7, 7, 8, 8, 8, 8, 8, 8, 8, 8, 8, 8, 8, 8, 8, 8, 8, 8, 8, 8, 8, 8, 8, 8, 8, 8, 8, 8, 8, 8, 8, 8, 8, 8, 8, 8, 8, 8, 8, 8, 8, 8, 8, 8, 8, 8, 8, 8, 8, 8, 8, 8, 8, 8, 8, 8, 8, 8, 8, 8, 8, 8, 8, 8, 8, 8, 8, 8, 8, 8, 8, 8, 8, 8, 8, 8, 8, 8, 8, 8, 8, 8, 8, 8, 8, 8, 8, 8, 8, 8, 8, 8, 8, 8, 8, 8, 8, 8, 8, 8, 8, 8, 8, 8, 8, 8, 8, 8, 8, 8, 8, 8, 8, 8, 8, 8, 8, 8, 8, 8, 8, 8, 8, 8, 8, 8, 8, 8, 8, 8]⟩

/-- math/bits.Len64 -/
noncomputable def math_bits_Len64 (p0 : Int) : Option Int :=
  (cond (decide (p0 ≥ 4294967296)) (some (Int.fdiv p0 (2 ^ 32), 32)) (some (p0, 0))).bind fun b3 => (cond (decide (b3.1 ≥ 65536)) (some (Int.fdiv b3.1 (2 ^ 16), w64 (b3.2 + 16))) (some (b3.1, b3.2))).bind fun b6 => (cond (decide (b6.1 ≥ 256)) (some (Int.fdiv b6.1 (2 ^ 8), w64 (b6.2 + 8))) (some (b6.1, b6.2))).bind fun b9 => (strIdx str_256_0_1_2_2_3_3 (IntKind.wrap .u8 b9.1)).bind fun v10 => some (w64 (b9.2 + (w64 v10)))

/-- math/bits.Len -/
noncomputable def math_bits_Len (p0 : Int) : Option Int :=
  (math_bits_Len64 p0).bind fun r1 => some r1

noncomputable def slices_insertionSortCmpFunc_span_end_e1_L2 (p1 : Int) (q1 : span_end → span_end → Option Int) (a459 : Int × List span_end) : Option ((Int × List span_end) ⊕ (List span_end)) :=
  (cond (decide (a459.1 > p1)) ((idx a459.2 a459.1).bind fun v484 => (idx a459.2 (w64 (a459.1 - 1))).bind fun v486 => (q1 v484 v486).bind fun r488 => some (decide (r488 < 0))) (some false)).bind fun c469 => cond c469 ((idx a459.2 (w64 (a459.1 - 1))).bind fun v498 => (idx a459.2 a459.1).bind fun v500 => (idx a459.2 a459.1).bind fun _ => (idx (a459.2.set a459.1.toNat v498) (w64 (a459.1 - 1))).bind fun _ => some (.inl (w64 (a459.1 - 1), (a459.2.set a459.1.toNat v498).set (w64 (a459.1 - 1)).toNat v500))) (some (.inr a459.2))

noncomputable def slices_insertionSortCmpFunc_span_end_e1_L1 (p2 : Int) (p1 : Int) (q1 : span_end → span_end → Option Int) (a278 : Int × List span_end) : Option ((Int × List span_end) ⊕ (List span_end)) :=
  cond (decide (a278.1 < p2)) (((loop (slices_insertionSortCmpFunc_span_end_e1_L2 p1 q1) (a278.1, a278.2)).bind fun x0 => some x0).bind fun b370 => some (.inl (w64 (a278.1 + 1), b370))) (some (.inr a278.2))

/-- slices.insertionSortCmpFunc[gambrel/span.end] -/
noncomputable def slices_insertionSortCmpFunc_span_end_e1 (q1 : span_end → span_end → Option Int) (p0 : List span_end) (p1 : Int) (p2 : Int) : Option (List span_end) :=
  (loop (slices_insertionSortCmpFunc_span_end_e1_L1 p2 p1 q1) (w64 (p1 + 1), p0)).bind fun x0 => some x0

noncomputable def slices_siftDownCmpFunc_span_end_e1_L1 (p2 : Int) (p3 : Int) (q1 : span_end → span_end → Option Int) (a197 : Int × List span_end) : Option ((Int × List span_end) ⊕ (List span_end)) :=
  cond (decide ((w64 ((w64 (2 * a197.1)) + 1)) ≥ p2)) (some (.inr a197.2)) ((cond (decide ((w64 ((w64 ((w64 (2 * a197.1)) + 1)) + 1)) < p2)) ((idx a197.2 (w64 (p3 + (w64 ((w64 (2 * a197.1)) + 1))))).bind fun v226 => (idx a197.2 (w64 ((w64 (p3 + (w64 ((w64 (2 * a197.1)) + 1)))) + 1))).bind fun v228 => (q1 v226 v228).bind fun r230 => some (decide (r230 < 0))) (some false)).bind fun c207 => (cond c207 (some (w64 ((w64 ((w64 (2 * a197.1)) + 1)) + 1))) (some (w64 ((w64 (2 * a197.1)) + 1)))).bind fun b234 => (idx a197.2 (w64 (p3 + a197.1))).bind fun v235 => (idx a197.2 (w64 (p3 + b234))).bind fun v237 => (q1 v235 v237).bind fun r239 => cond (!(decide (r239 < 0))) (some (.inr a197.2)) ((idx a197.2 (w64 (p3 + b234))).bind fun v241 => (idx a197.2 (w64 (p3 + a197.1))).bind fun v243 => (idx a197.2 (w64 (p3 + a197.1))).bind fun _ => (idx (a197.2.set (w64 (p3 + a197.1)).toNat v241) (w64 (p3 + b234))).bind fun _ => some (.inl (b234, (a197.2.set (w64 (p3 + a197.1)).toNat v241).set (w64 (p3 + b234)).toNat v243))))

/-- slices.siftDownCmpFunc[gambrel/span.end] -/
noncomputable def slices_siftDownCmpFunc_span_end_e1 (q1 : span_end → span_end → Option Int) (p0 : List span_end) (p1 : Int) (p2 : Int) (p3 : Int) : Option (List span_end) :=
  (loop (slices_siftDownCmpFunc_span_end_e1_L1 p2 p3 q1) (p1, p0)).bind fun x0 => some x0

noncomputable def slices_heapSortCmpFunc_span_end_e1_L1 (q1 : span_end → span_end → Option Int) (p2 : Int) (p1 : Int) (a123 : Int × List span_end) : Option ((Int × List span_end) ⊕ (List span_end)) :=
  cond (decide (a123.1 ≥ 0)) ((slices_siftDownCmpFunc_span_end_e1 q1 a123.2 a123.1 (w64 (p2 - p1)) p1).bind fun e132 => (lenEq e132.length a123.2.length).bind fun _ => some (.inl (w64 (a123.1 - 1), e132))) (some (.inr a123.2))

noncomputable def slices_heapSortCmpFunc_span_end_e1_L2 (p1 : Int) (q1 : span_end → span_end → Option Int) (a191 : Int × List span_end) : Option ((Int × List span_end) ⊕ (List span_end)) :=
  cond (decide (a191.1 ≥ 0)) ((idx a191.2 (w64 (p1 + a191.1))).bind fun v208 => (idx a191.2 p1).bind fun v210 => (idx a191.2 p1).bind fun _ => (idx (a191.2.set p1.toNat v208) (w64 (p1 + a191.1))).bind fun _ => (slices_siftDownCmpFunc_span_end_e1 q1 ((a191.2.set p1.toNat v208).set (w64 (p1 + a191.1)).toNat v210) 0 a191.1 p1).bind fun e216 => (lenEq e216.length ((a191.2.set p1.toNat v208).set (w64 (p1 + a191.1)).toNat v210).length).bind fun _ => some (.inl (w64 (a191.1 - 1), e216))) (some (.inr a191.2))

/-- slices.heapSortCmpFunc[gambrel/span.end] -/
noncomputable def slices_heapSortCmpFunc_span_end_e1 (q1 : span_end → span_end → Option Int) (p0 : List span_end) (p1 : Int) (p2 : Int) : Option (List span_end) :=
  (loop (slices_heapSortCmpFunc_span_end_e1_L1 q1 p2 p1) (w64 (Int.tdiv (w64 ((w64 (p2 - p1)) - 1)) 2), p0)).bind fun b126 => (loop (slices_heapSortCmpFunc_span_end_e1_L2 p1 q1) (w64 ((w64 (p2 - p1)) - 1), b126)).bind fun x0 => some x0

/-- slices.nextPowerOfTwo -/
noncomputable def slices_nextPowerOfTwo (p0 : Int) : Option Int :=
  (math_bits_Len (IntKind.wrap .u64 p0)).bind fun r1 => (shlK .u64 1 r1).bind fun q3 => some q3

/-- (*slices.xorshift).Next -/
noncomputable def slices_xorshift_Next_e1 (p0 : Int) : Option Int :=
  some (xorI .u64 (xorI .u64 (xorI .u64 p0 (IntKind.wrap .u64 (p0 * (2 ^ 13)))) (Int.fdiv (xorI .u64 p0 (IntKind.wrap .u64 (p0 * (2 ^ 13)))) (2 ^ 7))) (IntKind.wrap .u64 ((xorI .u64 (xorI .u64 p0 (IntKind.wrap .u64 (p0 * (2 ^ 13)))) (Int.fdiv (xorI .u64 p0 (IntKind.wrap .u64 (p0 * (2 ^ 13)))) (2 ^ 7))) * (2 ^ 17))))

noncomputable def slices_breakPatternsCmpFunc_span_end_e1_L1 (p1 : Int) (p2 : Int) (r101 : Int) (a153 : Int × List span_end × Int) : Option ((Int × List span_end × Int) ⊕ (List span_end)) :=
  cond (decide (a153.1 ≤ (w64 ((w64 (p1 + (w64 ((w64 (Int.tdiv (w64 (p2 - p1)) 4)) * 2)))) + 1)))) ((slices_xorshift_Next_e1 a153.2.2).bind fun e168 => (cond (decide ((w64 (andI .u64 e168 (IntKind.wrap .u64 (r101 - 1)))) ≥ (w64 (p2 - p1)))) (some (w64 ((w64 (andI .u64 e168 (IntKind.wrap .u64 (r101 - 1)))) - (w64 (p2 - p1))))) (some (w64 (andI .u64 e168 (IntKind.wrap .u64 (r101 - 1)))))).bind fun b172 => (idx a153.2.1 (w64 (p1 + b172))).bind fun v173 => (idx a153.2.1 a153.1).bind fun v175 => (idx a153.2.1 a153.1).bind fun _ => (idx (a153.2.1.set a153.1.toNat v173) (w64 (p1 + b172))).bind fun _ => some (.inl (w64 (a153.1 + 1), (a153.2.1.set a153.1.toNat v173).set (w64 (p1 + b172)).toNat v175, e168))) (some (.inr a153.2.1))

/-- slices.breakPatternsCmpFunc[gambrel/span.end] -/
noncomputable def slices_breakPatternsCmpFunc_span_end_e1 (q1 : span_end → span_end → Option Int) (p0 : List span_end) (p1 : Int) (p2 : Int) : Option (List span_end) :=
  cond (decide ((w64 (p2 - p1)) ≥ 8)) ((slices_nextPowerOfTwo (w64 (p2 - p1))).bind fun r101 => (loop (slices_breakPatternsCmpFunc_span_end_e1_L1 p1 p2 r101) (w64 ((w64 (p1 + (w64 ((w64 (Int.tdiv (w64 (p2 - p1)) 4)) * 2)))) - 1), p0, IntKind.wrap .u64 (w64 (p2 - p1)))).bind fun x0 => some x0) (some p0)

/-- slices.order2CmpFunc[gambrel/span.end] -/
noncomputable def slices_order2CmpFunc_span_end_e1 (q1 : span_end → span_end → Option Int) (p0 : List span_end) (p1 : Int) (p2 : Int) (p3 : Int) : Option (Int × Int × Int) :=
  (idx p0 p2).bind fun v101 => (idx p0 p1).bind fun v103 => (q1 v101 v103).bind fun r105 => cond (decide (r105 < 0)) (some (p2, p1, w64 (p3 + 1))) (some (p1, p2, p3))

/-- slices.medianCmpFunc[gambrel/span.end] -/
noncomputable def slices_medianCmpFunc_span_end_e1 (q1 : span_end → span_end → Option Int) (p0 : List span_end) (p1 : Int) (p2 : Int) (p3 : Int) (p4 : Int) : Option (Int × Int) :=
  (slices_order2CmpFunc_span_end_e1 q1 p0 p1 p2 p4).bind fun e101 => (slices_order2CmpFunc_span_end_e1 q1 p0 e101.2.1 p3 e101.2.2).bind fun e103 => (slices_order2CmpFunc_span_end_e1 q1 p0 e101.1 e103.1 e103.2.2).bind fun e105 => some (e105.2.1, e105.2.2)

/-- slices.medianAdjacentCmpFunc[gambrel/span.end] -/
noncomputable def slices_medianAdjacentCmpFunc_span_end_e1 (q1 : span_end → span_end → Option Int) (p0 : List span_end) (p1 : Int) (p2 : Int) : Option (Int × Int) :=
  (slices_medianCmpFunc_span_end_e1 q1 p0 (w64 (p1 - 1)) p1 (w64 (p1 + 1)) p2).bind fun e101 => some (e101.1, e101.2)

/-- slices.choosePivotCmpFunc[gambrel/span.end] -/
noncomputable def slices_choosePivotCmpFunc_span_end (p0 : List span_end) (p1 : Int) (p2 : Int) (p3 : span_end → span_end → Option Int) : Option (Int × Int) :=
  (cond (decide ((w64 (p2 - p1)) ≥ 8)) ((cond (decide ((w64 (p2 - p1)) ≥ 50)) ((slices_medianAdjacentCmpFunc_span_end_e1 p3 p0 (w64 (p1 + (w64 ((w64 (Int.tdiv (w64 (p2 - p1)) 4)) * 1)))) 0).bind fun e25 => (slices_medianAdjacentCmpFunc_span_end_e1 p3 p0 (w64 (p1 + (w64 ((w64 (Int.tdiv (w64 (p2 - p1)) 4)) * 2)))) e25.2).bind fun e27 => (slices_medianAdjacentCmpFunc_span_end_e1 p3 p0 (w64 (p1 + (w64 ((w64 (Int.tdiv (w64 (p2 - p1)) 4)) * 3)))) e27.2).bind fun e29 => some (e25.1, e27.1, e29.1, e29.2)) (some (w64 (p1 + (w64 ((w64 (Int.tdiv (w64 (p2 - p1)) 4)) * 1))), w64 (p1 + (w64 ((w64 (Int.tdiv (w64 (p2 - p1)) 4)) * 2))), w64 (p1 + (w64 ((w64 (Int.tdiv (w64 (p2 - p1)) 4)) * 3))), 0))).bind fun b24 => (slices_medianCmpFunc_span_end_e1 p3 p0 b24.1 b24.2.1 b24.2.2.1 b24.2.2.2).bind fun e31 => some (e31.1, e31.2)) (some (w64 (p1 + (w64 ((w64 (Int.tdiv (w64 (p2 - p1)) 4)) * 2))), 0))).bind fun b15 => cond (b15.2 == 0) (some (b15.1, 1)) (cond (b15.2 == 12) (some (b15.1, 2)) (some (b15.1, 0)))

noncomputable def slices_reverseRangeCmpFunc_span_end_e1_L1 (a119 : Int × Int × List span_end) : Option ((Int × Int × List span_end) ⊕ (List span_end)) :=
  cond (decide (a119.1 < a119.2.1)) ((idx a119.2.2 a119.2.1).bind fun v123 => (idx a119.2.2 a119.1).bind fun v125 => (idx a119.2.2 a119.1).bind fun _ => (idx (a119.2.2.set a119.1.toNat v123) a119.2.1).bind fun _ => some (.inl (w64 (a119.1 + 1), w64 (a119.2.1 - 1), (a119.2.2.set a119.1.toNat v123).set a119.2.1.toNat v125))) (some (.inr a119.2.2))

/-- slices.reverseRangeCmpFunc[gambrel/span.end] -/
noncomputable def slices_reverseRangeCmpFunc_span_end_e1 (q1 : span_end → span_end → Option Int) (p0 : List span_end) (p1 : Int) (p2 : Int) : Option (List span_end) :=
  (loop slices_reverseRangeCmpFunc_span_end_e1_L1 (p1, w64 (p2 - 1), p0)).bind fun x0 => some x0

noncomputable def slices_partialInsertionSortCmpFunc_span_end_e1_L2 (p2 : Int) (a438 : Int × Int × List span_end) (q1 : span_end → span_end → Option Int) (a681 : Int) : Option ((Int) ⊕ (Int)) :=
  (cond (decide (a681 < p2)) ((idx a438.2.2 a681).bind fun v707 => (idx a438.2.2 (w64 (a681 - 1))).bind fun v709 => (q1 v707 v709).bind fun r711 => some (!(decide (r711 < 0)))) (some false)).bind fun c691 => cond c691 (some (.inl (w64 (a681 + 1)))) (some (.inr a681))

noncomputable def slices_partialInsertionSortCmpFunc_span_end_e1_L3 (q1 : span_end → span_end → Option Int) (a838 : Int × List span_end) : Option ((Int × List span_end) ⊕ (List span_end)) :=
  cond (decide (a838.1 ≥ 1)) ((idx a838.2 a838.1).bind fun v856 => (idx a838.2 (w64 (a838.1 - 1))).bind fun v858 => (q1 v856 v858).bind fun r860 => cond (!(decide (r860 < 0))) (some (.inr a838.2)) ((idx a838.2 (w64 (a838.1 - 1))).bind fun v862 => (idx a838.2 a838.1).bind fun v864 => (idx a838.2 a838.1).bind fun _ => (idx (a838.2.set a838.1.toNat v862) (w64 (a838.1 - 1))).bind fun _ => some (.inl (w64 (a838.1 - 1), (a838.2.set a838.1.toNat v862).set (w64 (a838.1 - 1)).toNat v864)))) (some (.inr a838.2))

noncomputable def slices_partialInsertionSortCmpFunc_span_end_e1_L4 (p2 : Int) (q1 : span_end → span_end → Option Int) (b684 : Int) (a928 : Int × List span_end) : Option ((Int × List span_end) ⊕ (Int × List span_end)) :=
  cond (decide (a928.1 < p2)) ((idx a928.2 a928.1).bind fun v946 => (idx a928.2 (w64 (a928.1 - 1))).bind fun v948 => (q1 v946 v948).bind fun r950 => cond (!(decide (r950 < 0))) (some (.inr (b684, a928.2))) ((idx a928.2 (w64 (a928.1 - 1))).bind fun v952 => (idx a928.2 a928.1).bind fun v954 => (idx a928.2 a928.1).bind fun _ => (idx (a928.2.set a928.1.toNat v952) (w64 (a928.1 - 1))).bind fun _ => some (.inl (w64 (a928.1 + 1), (a928.2.set a928.1.toNat v952).set (w64 (a928.1 - 1)).toNat v954)))) (some (.inr (b684, a928.2)))

noncomputable def slices_partialInsertionSortCmpFunc_span_end_e1_L1 (p2 : Int) (q1 : span_end → span_end → Option Int) (p1 : Int) (a438 : Int × Int × List span_end) : Option ((Int × Int × List span_end) ⊕ ((List span_end) ⊕ (Bool × List span_end))) :=
  cond (decide (a438.2.1 < 5)) (((loop (slices_partialInsertionSortCmpFunc_span_end_e1_L2 p2 a438 q1) a438.1).bind fun b684 => cond (b684 == p2) (some (.inr (true, a438.2.2))) (cond (decide ((w64 (p2 - p1)) < 50)) (some (.inr (false, a438.2.2))) ((idx a438.2.2 (w64 (b684 - 1))).bind fun v713 => (idx a438.2.2 b684).bind fun v715 => (idx a438.2.2 b684).bind fun _ => (idx (a438.2.2.set b684.toNat v713) (w64 (b684 - 1))).bind fun _ => (cond (decide ((w64 (b684 - p1)) ≥ 2)) ((loop (slices_partialInsertionSortCmpFunc_span_end_e1_L3 q1) (w64 (b684 - 1), (a438.2.2.set b684.toNat v713).set (w64 (b684 - 1)).toNat v715)).bind fun x0 => some x0) (some ((a438.2.2.set b684.toNat v713).set (w64 (b684 - 1)).toNat v715))).bind fun b779 => cond (decide ((w64 (p2 - b684)) ≥ 2)) ((loop (slices_partialInsertionSortCmpFunc_span_end_e1_L4 p2 q1 b684) (w64 (b684 + 1), b779)).bind fun x0 => some (.inl x0)) (some (.inl (b684, b779))))) : Option ((Int × List span_end) ⊕ (Bool × List span_end))).bind fun m621 => (match m621 with | .inl b622 => some (.inl (b622.1, w64 (a438.2.1 + 1), b622.2)) | .inr x1 => some (.inr (.inr x1)))) (some (.inr (.inl a438.2.2)))

/-- slices.partialInsertionSortCmpFunc[gambrel/span.end] -/
noncomputable def slices_partialInsertionSortCmpFunc_span_end_e1 (q1 : span_end → span_end → Option Int) (p0 : List span_end) (p1 : Int) (p2 : Int) : Option (Bool × List span_end) :=
  (loop (slices_partialInsertionSortCmpFunc_span_end_e1_L1 p2 q1 p1) (w64 (p1 + 1), 0, p0) : Option ((List span_end) ⊕ (Bool × List span_end))).bind fun m439 => (match m439 with | .inl b441 => some (false, b441) | .inr x1 => some x1)

noncomputable def slices_partitionEqualCmpFunc_span_end_e1_L2 (a318 : Int × Int × List span_end) (p1 : Int) (q1 : span_end → span_end → Option Int) (a378 : Int) : Option ((Int) ⊕ (Int)) :=
  (cond (decide (a378 ≤ a318.2.1)) ((idx a318.2.2 p1).bind fun v403 => (idx a318.2.2 a378).bind fun v405 => (q1 v403 v405).bind fun r407 => some (!(decide (r407 < 0)))) (some false)).bind fun c388 => cond c388 (some (.inl (w64 (a378 + 1)))) (some (.inr a378))

noncomputable def slices_partitionEqualCmpFunc_span_end_e1_L3 (b381 : Int) (a318 : Int × Int × List span_end) (p1 : Int) (q1 : span_end → span_end → Option Int) (a463 : Int) : Option ((Int) ⊕ (Int)) :=
  (cond (decide (b381 ≤ a463)) ((idx a318.2.2 p1).bind fun v487 => (idx a318.2.2 a463).bind fun v489 => (q1 v487 v489).bind fun r491 => some (decide (r491 < 0))) (some false)).bind fun c473 => cond c473 (some (.inl (w64 (a463 - 1)))) (some (.inr a463))

noncomputable def slices_partitionEqualCmpFunc_span_end_e1_L1 (p1 : Int) (q1 : span_end → span_end → Option Int) (a318 : Int × Int × List span_end) : Option ((Int × Int × List span_end) ⊕ (Int × List span_end)) :=
  (loop (slices_partitionEqualCmpFunc_span_end_e1_L2 a318 p1 q1) a318.1).bind fun b381 => (loop (slices_partitionEqualCmpFunc_span_end_e1_L3 b381 a318 p1 q1) a318.2.1).bind fun b466 => cond (decide (b381 > b466)) (some (.inr (b381, a318.2.2))) ((idx a318.2.2 b466).bind fun v493 => (idx a318.2.2 b381).bind fun v495 => (idx a318.2.2 b381).bind fun _ => (idx (a318.2.2.set b381.toNat v493) b466).bind fun _ => some (.inl (w64 (b381 + 1), w64 (b466 - 1), (a318.2.2.set b381.toNat v493).set b466.toNat v495)))

/-- slices.partitionEqualCmpFunc[gambrel/span.end] -/
noncomputable def slices_partitionEqualCmpFunc_span_end_e1 (q1 : span_end → span_end → Option Int) (p0 : List span_end) (p1 : Int) (p2 : Int) (p3 : Int) : Option (Int × List span_end) :=
  (idx p0 p3).bind fun v101 => (idx p0 p1).bind fun v103 => (idx p0 p1).bind fun _ => (idx (p0.set p1.toNat v101) p3).bind fun _ => (loop (slices_partitionEqualCmpFunc_span_end_e1_L1 p1 q1) (w64 (p1 + 1), w64 (p2 - 1), (p0.set p1.toNat v101).set p3.toNat v103)).bind fun b321 => some (b321.1, b321.2)

noncomputable def slices_partitionCmpFunc_span_end_e1_L1 (p2 : Int) (p0 : List span_end) (p1 : Int) (v101 : span_end) (p3 : Int) (v103 : span_end) (q1 : span_end → span_end → Option Int) (a163 : Int) : Option ((Int) ⊕ (Int)) :=
  (cond (decide (a163 ≤ (w64 (p2 - 1)))) ((idx ((p0.set p1.toNat v101).set p3.toNat v103) a163).bind fun v187 => (idx ((p0.set p1.toNat v101).set p3.toNat v103) p1).bind fun v189 => (q1 v187 v189).bind fun r191 => some (decide (r191 < 0))) (some false)).bind fun c173 => cond c173 (some (.inl (w64 (a163 + 1)))) (some (.inr a163))

noncomputable def slices_partitionCmpFunc_span_end_e1_L2 (b166 : Int) (p0 : List span_end) (p1 : Int) (v101 : span_end) (p3 : Int) (v103 : span_end) (q1 : span_end → span_end → Option Int) (a249 : Int) : Option ((Int) ⊕ (Int)) :=
  (cond (decide (b166 ≤ a249)) ((idx ((p0.set p1.toNat v101).set p3.toNat v103) a249).bind fun v274 => (idx ((p0.set p1.toNat v101).set p3.toNat v103) p1).bind fun v276 => (q1 v274 v276).bind fun r278 => some (!(decide (r278 < 0)))) (some false)).bind fun c259 => cond c259 (some (.inl (w64 (a249 - 1)))) (some (.inr a249))

noncomputable def slices_partitionCmpFunc_span_end_e1_L4 (a514 : Int × Int × List span_end) (p1 : Int) (q1 : span_end → span_end → Option Int) (a572 : Int) : Option ((Int) ⊕ (Int)) :=
  (cond (decide (a572 ≤ a514.2.1)) ((idx a514.2.2 a572).bind fun v596 => (idx a514.2.2 p1).bind fun v598 => (q1 v596 v598).bind fun r600 => some (decide (r600 < 0))) (some false)).bind fun c582 => cond c582 (some (.inl (w64 (a572 + 1)))) (some (.inr a572))

noncomputable def slices_partitionCmpFunc_span_end_e1_L5 (b575 : Int) (a514 : Int × Int × List span_end) (p1 : Int) (q1 : span_end → span_end → Option Int) (a658 : Int) : Option ((Int) ⊕ (Int)) :=
  (cond (decide (b575 ≤ a658)) ((idx a514.2.2 a658).bind fun v683 => (idx a514.2.2 p1).bind fun v685 => (q1 v683 v685).bind fun r687 => some (!(decide (r687 < 0)))) (some false)).bind fun c668 => cond c668 (some (.inl (w64 (a658 - 1)))) (some (.inr a658))

noncomputable def slices_partitionCmpFunc_span_end_e1_L3 (p1 : Int) (q1 : span_end → span_end → Option Int) (a514 : Int × Int × List span_end) : Option ((Int × Int × List span_end) ⊕ (Int × List span_end)) :=
  (loop (slices_partitionCmpFunc_span_end_e1_L4 a514 p1 q1) a514.1).bind fun b575 => (loop (slices_partitionCmpFunc_span_end_e1_L5 b575 a514 p1 q1) a514.2.1).bind fun b661 => cond (decide (b575 > b661)) (some (.inr (b661, a514.2.2))) ((idx a514.2.2 b661).bind fun v689 => (idx a514.2.2 b575).bind fun v691 => (idx a514.2.2 b575).bind fun _ => (idx (a514.2.2.set b575.toNat v689) b661).bind fun _ => some (.inl (w64 (b575 + 1), w64 (b661 - 1), (a514.2.2.set b575.toNat v689).set b661.toNat v691)))

/-- slices.partitionCmpFunc[gambrel/span.end] -/
noncomputable def slices_partitionCmpFunc_span_end_e1 (q1 : span_end → span_end → Option Int) (p0 : List span_end) (p1 : Int) (p2 : Int) (p3 : Int) : Option (Int × Bool × List span_end) :=
  (idx p0 p3).bind fun v101 => (idx p0 p1).bind fun v103 => (idx p0 p1).bind fun _ => (idx (p0.set p1.toNat v101) p3).bind fun _ => (loop (slices_partitionCmpFunc_span_end_e1_L1 p2 p0 p1 v101 p3 v103 q1) (w64 (p1 + 1))).bind fun b166 => (loop (slices_partitionCmpFunc_span_end_e1_L2 b166 p0 p1 v101 p3 v103 q1) (w64 (p2 - 1))).bind fun b252 => cond (decide (b166 > b252)) ((idx ((p0.set p1.toNat v101).set p3.toNat v103) p1).bind fun v288 => (idx ((p0.set p1.toNat v101).set p3.toNat v103) b252).bind fun v290 => (idx ((p0.set p1.toNat v101).set p3.toNat v103) b252).bind fun _ => (idx (((p0.set p1.toNat v101).set p3.toNat v103).set b252.toNat v288) p1).bind fun _ => some (b252, true, (((p0.set p1.toNat v101).set p3.toNat v103).set b252.toNat v288).set p1.toNat v290)) ((idx ((p0.set p1.toNat v101).set p3.toNat v103) b252).bind fun v296 => (idx ((p0.set p1.toNat v101).set p3.toNat v103) b166).bind fun v298 => (idx ((p0.set p1.toNat v101).set p3.toNat v103) b166).bind fun _ => (idx (((p0.set p1.toNat v101).set p3.toNat v103).set b166.toNat v296) b252).bind fun _ => (loop (slices_partitionCmpFunc_span_end_e1_L3 p1 q1) (w64 (b166 + 1), w64 (b252 - 1), (((p0.set p1.toNat v101).set p3.toNat v103).set b166.toNat v296).set b252.toNat v298)).bind fun b517 => (idx b517.2 p1).bind fun v697 => (idx b517.2 b517.1).bind fun v699 => (idx b517.2 b517.1).bind fun _ => (idx (b517.2.set b517.1.toNat v697) p1).bind fun _ => some (b517.1, false, (b517.2.set b517.1.toNat v697).set p1.toNat v699))

noncomputable def slices_pdqsortCmpFunc_span_end_e2_L1 (q1 : span_end → span_end → Option Int) (rec : List span_end → Int → Int → Int → Option (List span_end)) (a309 : Int × Int × Int × Bool × Bool × List span_end) : Option ((Int × Int × Int × Bool × Bool × List span_end) ⊕ (List span_end)) :=
  cond (decide ((w64 (a309.2.1 - a309.1)) ≤ 12)) ((slices_insertionSortCmpFunc_span_end_e1 q1 a309.2.2.2.2.2 a309.1 a309.2.1).bind fun e318 => (lenEq e318.length a309.2.2.2.2.2.length).bind fun _ => some (.inr e318)) (cond (a309.2.2.1 == 0) ((slices_heapSortCmpFunc_span_end_e1 q1 a309.2.2.2.2.2 a309.1 a309.2.1).bind fun e328 => (lenEq e328.length a309.2.2.2.2.2.length).bind fun _ => some (.inr e328)) ((cond (!a309.2.2.2.1) ((slices_breakPatternsCmpFunc_span_end_e1 q1 a309.2.2.2.2.2 a309.1 a309.2.1).bind fun e341 => (lenEq e341.length a309.2.2.2.2.2.length).bind fun _ => some (w64 (a309.2.2.1 - 1), e341)) (some (a309.2.2.1, a309.2.2.2.2.2))).bind fun b340 => (slices_choosePivotCmpFunc_span_end b340.2 a309.1 a309.2.1 q1).bind fun r346 => (cond (r346.2 == 2) ((slices_reverseRangeCmpFunc_span_end_e1 q1 b340.2 a309.1 a309.2.1).bind fun e356 => (lenEq e356.length b340.2.length).bind fun _ => some (w64 ((w64 (a309.2.1 - 1)) - (w64 (r346.1 - a309.1))), 1, e356)) (some (r346.1, r346.2, b340.2))).bind fun b355 => (cond a309.2.2.2.1 (some a309.2.2.2.2.1) (some false)).bind fun c361 => (cond c361 (some (b355.2.1 == 1)) (some false)).bind fun c365 => (cond c365 ((slices_partialInsertionSortCmpFunc_span_end_e1 q1 b355.2.2 a309.1 a309.2.1).bind fun e378 => (lenEq e378.2.length b355.2.2.length).bind fun _ => cond e378.1 (some (.inr e378.2)) (some (.inl e378.2))) (some (.inl b355.2.2)) : Option ((List span_end) ⊕ (List span_end))).bind fun m376 => (match m376 with | .inl b377 => (cond (decide (a309.1 > 0)) ((idx b377 (w64 (a309.1 - 1))).bind fun v405 => (idx b377 b355.1).bind fun v407 => (q1 v405 v407).bind fun r409 => some (!(decide (r409 < 0)))) (some false)).bind fun c389 => cond c389 ((slices_partitionEqualCmpFunc_span_end_e1 q1 b377 a309.1 a309.2.1 b355.1).bind fun e416 => (lenEq e416.2.length b377.length).bind fun _ => some (.inl (e416.1, a309.2.1, b340.1, a309.2.2.2.1, a309.2.2.2.2.1, e416.2))) ((slices_partitionCmpFunc_span_end_e1 q1 b377 a309.1 a309.2.1 b355.1).bind fun e421 => (lenEq e421.2.2.length b377.length).bind fun _ => cond (decide ((w64 (e421.1 - a309.1)) < (w64 (a309.2.1 - e421.1)))) ((rec e421.2.2 a309.1 e421.1 b340.1).bind fun e426 => (lenEq e426.length e421.2.2.length).bind fun _ => some (.inl (w64 (e421.1 + 1), a309.2.1, b340.1, decide ((w64 (e421.1 - a309.1)) ≥ (w64 (Int.tdiv (w64 (a309.2.1 - a309.1)) 8))), e421.2.1, e426))) ((rec e421.2.2 (w64 (e421.1 + 1)) a309.2.1 b340.1).bind fun e431 => (lenEq e431.length e421.2.2.length).bind fun _ => some (.inl (a309.1, e421.1, b340.1, decide ((w64 (a309.2.1 - e421.1)) ≥ (w64 (Int.tdiv (w64 (a309.2.1 - a309.1)) 8))), e421.2.1, e431)))) | .inr x1 => some (.inr x1))))

/-- slices.pdqsortCmpFunc[gambrel/span.end] -/
noncomputable def slices_pdqsortCmpFunc_span_end_e2_b (rec : List span_end → Int → Int → Int → Option (List span_end)) (q1 : span_end → span_end → Option Int) (p0 : List span_end) (p1 : Int) (p2 : Int) (p3 : Int) : Option (List span_end) :=
  (loop (slices_pdqsortCmpFunc_span_end_e2_L1 q1 rec) (p1, p2, p3, true, true, p0)).bind fun x0 => some x0

noncomputable def slices_pdqsortCmpFunc_span_end_e2 : Nat → (span_end → span_end → Option Int) → List span_end → Int → Int → Int → Option (List span_end)
  | 0, _, _, _, _, _ => none
  | n + 1, q1, p0, p1, p2, p3 => slices_pdqsortCmpFunc_span_end_e2_b (slices_pdqsortCmpFunc_span_end_e2 n q1) q1 p0 p1 p2 p3

/-- slices.SortFunc[[]gambrel/span.end,gambrel/span.end] -/
noncomputable def slices_SortFunc_span_end_span_end_e1 (q1 : span_end → span_end → Option Int) (p0 : List span_end) : Option (List span_end) :=
  (math_bits_Len (IntKind.wrap .u64 (p0.length : Int))).bind fun r101 => (lim (fun n => slices_pdqsortCmpFunc_span_end_e2 n q1 p0 0 (p0.length : Int) r101)).bind fun e103 => (lenEq e103.length p0.length).bind fun _ => some e103

/-- slices.Values[[]gambrel/span.end,gambrel/span.end] -/
noncomputable def slices_Values_span_end_span_end_e1 (p0 : List span_end) : Option (List span_end) :=
  some p0

noncomputable def span_ends_e1_L2 (v167 : List api_Span) (a142 : Int × List span_end) (a187 : Int × List span_end) : Option ((Int × List span_end) ⊕ (List span_end)) :=
  cond (decide (a187.1 < (v167.length : Int))) ((idx v167 a187.1).bind fun v195 => (app 24 a187.2 [({ at_ := v195.Lo, list_ := a142.1, by_ := 1 } : span_end), ({ at_ := v195.Hi, list_ := a142.1, by_ := (-1) } : span_end)]).bind fun z197 => some (.inl (w64 (a187.1 + 1), z197))) (some (.inr a187.2))

noncomputable def span_ends_e1_L1 (p0 : List (List api_Span)) (a142 : Int × List span_end) : Option ((Int × List span_end) ⊕ (List span_end)) :=
  cond (decide (a142.1 < (p0.length : Int))) (((idx p0 a142.1).bind fun v167 => (loop (span_ends_e1_L2 v167 a142) (0, a142.2)).bind fun x0 => some x0).bind fun b166 => some (.inl (w64 (a142.1 + 1), b166))) (some (.inr a142.2))

/-- gambrel/span.ends -/
noncomputable def span_ends_e1 (p0 : List (List api_Span)) : Option (List (List api_Span) × List span_end) :=
  (loop (span_ends_e1_L1 p0) (0, [])).bind fun b145 => (slices_SortFunc_span_end_span_end_e1 (fun x0 x1 => span_ends_1 x0 x1) b145).bind fun e199 => (lenEq e199.length b145.length).bind fun _ => (slices_Values_span_end_span_end_e1 e199).bind fun e204 => (lenEq e204.length e199.length).bind fun _ => some (p0, e204)

/-- gambrel/span.join$1 -/
noncomputable def span_join_1_e1 (p0 : Int) (p1 : Bool) (p2 : Int) : Option (Bool × Int × List api_Span) :=
  (cond (!p1) (some true) (some (p2 == p0))).bind fun c101 => cond c101 (some (p1, p2, [])) ((cond (decide (0 > 0)) none (some false)).bind fun c107 => cond c107 none ((app 16 [] [({ Lo := p2, Hi := p0 } : api_Span)]).bind fun z118 => some (p1, p2, z118)))

/-- gambrel/span.join$1 -/
noncomputable def span_join_1_e2 (p0 : Int) (p1 : Bool) (p2 : Int) (p3 : List api_Span) : Option (Bool × Int × List api_Span) :=
  (cond (!p1) (some true) (some (p2 == p0))).bind fun c101 => cond c101 (some (p1, p2, p3)) ((cond (decide ((p3.length : Int) > 0)) ((idx p3 (w64 ((p3.length : Int) - 1))).bind fun v120 => some (v120.Hi == p2)) (some false)).bind fun c109 => cond c109 ((idx p3 (w64 ((p3.length : Int) - 1))).bind fun v122 => some (p1, p2, p3.set (w64 ((p3.length : Int) - 1)).toNat ({ Lo := v122.Lo, Hi := p0 } : api_Span))) ((app 16 p3 [({ Lo := p2, Hi := p0 } : api_Span)]).bind fun z124 => some (p1, p2, z124)))

noncomputable def span_join_L1 (e1 : List (List api_Span) × List span_end) (p2 : Bool → Bool → Option Bool) (a228 : Int × List Int × Int × Bool × List api_Span) : Option ((Int × List Int × Int × Bool × List api_Span) ⊕ (List api_Span)) :=
  cond (decide (a228.1 < (e1.2.length : Int))) ((idx e1.2 a228.1).bind fun v249 => ((span_join_1_e2 v249.at_ a228.2.2.2.1 a228.2.2.1 a228.2.2.2.2).bind fun e266 => (idxA 2 a228.2.1 v249.list_).bind fun v268 => (idxA 2 a228.2.1 v249.list_).bind fun _ => (idxA 2 (a228.2.1.set v249.list_.toNat (w64 (v268 + v249.by_))) 0).bind fun v272 => (idxA 2 (a228.2.1.set v249.list_.toNat (w64 (v268 + v249.by_))) 1).bind fun v274 => (p2 (decide (v272 > 0)) (decide (v274 > 0))).bind fun r276 => some (a228.2.1.set v249.list_.toNat (w64 (v268 + v249.by_)), r276, e266.2.2)).bind fun b265 => cond (!true) (some (.inr b265.2.2)) (some (.inl (w64 (a228.1 + 1), b265.1, v249.at_, b265.2.1, b265.2.2)))) (some (.inr a228.2.2.2.2))

/-- gambrel/span.join -/
noncomputable def span_join (p0 : List api_Span) (p1 : List api_Span) (p2 : Bool → Bool → Option Bool) : Option (List api_Span) :=
  (span_ends_e1 [p0, p1]).bind fun e1 => (lenEq e1.1.length [p0, p1].length).bind fun _ => ((loop (span_join_L1 e1 p2) (0, [0, 0], 0, false, [])).bind fun x0 => some x0).bind fun b153 => some b153

/-- gambrel/span.checked -/
noncomputable def span_checked (p0 : List api_Span) (p1 : List api_Span) (p2 : Bool → Bool → Option Bool) : Option (List api_Span × Int) :=
  (span_Check p0).bind fun r1 => cond (r1 != 0) (some ([], r1)) ((span_Check p1).bind fun r3 => cond (r3 != 0) (some ([], r3)) ((span_join p0 p1 p2).bind fun r5 => cond (decide ((r5.length : Int) > 400)) (some ([], 4)) (some (r5, 0))))

/-- gambrel/span.Union$1 -/
noncomputable def span_Union_1 (p0 : Bool) (p1 : Bool) : Option Bool :=
  (cond p0 (some true) (some p1)).bind fun c1 => some c1

/-- gambrel/span.Union -/
noncomputable def span_Union (p0 : List api_Span) (p1 : List api_Span) : Option (List api_Span × Int) :=
  (span_checked p0 p1 (fun x0 x1 => span_Union_1 x0 x1)).bind fun r1 => some (r1.1, r1.2)

/-- gambrel/gambrelref11.Join -/
noncomputable def r11_Join (p0 : Int) (p1 : List api_Span) (p2 : List api_Span) : Option (List api_Span × Int) :=
  (r11_Check p1).bind fun r1 => cond (r1 != 0) ((r11_Check p1).bind fun r5 => some ([], r5)) ((r11_Check p2).bind fun r7 => cond (r7 != 0) ((r11_Check p2).bind fun r11 => some ([], r11)) ((r11_Joined p0 p1 p2).bind fun r13 => cond (decide ((r13.length : Int) > 400)) (some ([], 4)) (some (r13, 0))))

/-- gambrel/span.Meet$1 -/
noncomputable def span_Meet_1 (p0 : Bool) (p1 : Bool) : Option Bool :=
  (cond p0 (some p1) (some false)).bind fun c1 => some c1

/-- gambrel/span.Meet -/
noncomputable def span_Meet (p0 : List api_Span) (p1 : List api_Span) : Option (List api_Span × Int) :=
  (span_checked p0 p1 (fun x0 x1 => span_Meet_1 x0 x1)).bind fun r1 => some (r1.1, r1.2)

/-- gambrel/span.Minus$1 -/
noncomputable def span_Minus_1 (p0 : Bool) (p1 : Bool) : Option Bool :=
  (cond p0 (some (!p1)) (some false)).bind fun c1 => some c1

/-- gambrel/span.Minus -/
noncomputable def span_Minus (p0 : List api_Span) (p1 : List api_Span) : Option (List api_Span × Int) :=
  (span_checked p0 p1 (fun x0 x1 => span_Minus_1 x0 x1)).bind fun r1 => some (r1.1, r1.2)

/-- gambrel/gambrellaw11.SpanJoins -/
noncomputable def l11_SpanJoins (p0 : List api_Span) (p1 : List api_Span) : Option Bool :=
  (cond (decide ((p0.length : Int) > 450)) (some true) (some (decide ((p1.length : Int) > 450)))).bind fun c1 => cond c1 (some true) ((span_Union p0 p1).bind fun r7 => (r11_Join 2 p0 p1).bind fun r9 => (span_Meet p0 p1).bind fun r11 => (r11_Join 1 p0 p1).bind fun r13 => (span_Minus p0 p1).bind fun r15 => (r11_Join 3 p0 p1).bind fun r17 => (r11_Same r7.1 r9.1).bind fun r19 => (cond r19 (some (r7.2 == r9.2)) (some false)).bind fun c21 => (cond c21 ((r11_Same r11.1 r13.1).bind fun r35 => some r35) (some false)).bind fun c29 => (cond c29 (some (r11.2 == r13.2)) (some false)).bind fun c37 => (cond c37 ((r11_Same r15.1 r17.1).bind fun r51 => some r51) (some false)).bind fun c45 => (cond c45 (some (r15.2 == r17.2)) (some false)).bind fun c53 => some c53)

/-- gambrel/gambrellaw11.copied -/
noncomputable def l11_copied (p0 : List api_Span) : Option (List api_Span) :=
  (app 16 [] p0).bind fun z1 => some z1

noncomputable def slices_IndexFunc_api_Span_api_Span_L1 (p0 : List api_Span) (p1 : api_Span → Option Bool) (a19 : Int) : Option ((Int) ⊕ ((Unit) ⊕ (Int))) :=
  cond (decide (a19 < (p0.length : Int))) ((idx p0 a19).bind fun v27 => (p1 v27).bind fun r29 => cond r29 (some (.inr (.inr a19))) (some (.inl (w64 (a19 + 1))))) (some (.inr (.inl ())))

/-- slices.IndexFunc[[]gambrel/api.Span,gambrel/api.Span] -/
noncomputable def slices_IndexFunc_api_Span_api_Span (p0 : List api_Span) (p1 : api_Span → Option Bool) : Option Int :=
  (loop (slices_IndexFunc_api_Span_api_Span_L1 p0 p1) 0 : Option ((Unit) ⊕ (Int))).bind fun m20 => (match m20 with | .inl b22 => some (-1) | .inr x1 => some x1)

/-- slices.ContainsFunc[[]gambrel/api.Span,gambrel/api.Span] -/
noncomputable def slices_ContainsFunc_api_Span_api_Span (p0 : List api_Span) (p1 : api_Span → Option Bool) : Option Bool :=
  (slices_IndexFunc_api_Span_api_Span p0 p1).bind fun r1 => some (decide (r1 ≥ 0))

/-- gambrel/span.Make$1 -/
noncomputable def span_Make_1 (p0 : api_Span) : Option Bool :=
  (span_valid p0).bind fun r1 => some (!r1)

/-- gambrel/span.Make$2 -/
noncomputable def span_Make_2 (p0 : Bool) (p1 : Bool) : Option Bool :=
  some p0

/-- gambrel/span.Make -/
noncomputable def span_Make (p0 : List api_Span) : Option (List api_Span × Int) :=
  cond (decide ((p0.length : Int) > 400)) (some ([], 4)) ((slices_ContainsFunc_api_Span_api_Span p0 (fun x0 => span_Make_1 x0)).bind fun r1 => cond r1 (some ([], 8)) ((span_join p0 [] (fun x0 x1 => span_Make_2 x0 x1)).bind fun r3 => some (r3, 0)))

noncomputable def r11_Make_L1 (p0 : List api_Span) (a19 : Int) : Option ((Int) ⊕ ((Unit) ⊕ (List api_Span × Int))) :=
  cond (decide (a19 < (p0.length : Int))) ((idx p0 a19).bind fun v27 => (r11_Valid v27).bind fun r29 => cond (!r29) (some (.inr (.inr ([], 8)))) (some (.inl (w64 (a19 + 1))))) (some (.inr (.inl ())))

/-- gambrel/gambrelref11.Make -/
noncomputable def r11_Make (p0 : List api_Span) : Option (List api_Span × Int) :=
  cond (decide ((p0.length : Int) > 400)) (some ([], 4)) ((loop (r11_Make_L1 p0) 0 : Option ((Unit) ⊕ (List api_Span × Int))).bind fun m20 => (match m20 with | .inl b22 => (r11_Joined 2 p0 []).bind fun r31 => some (r31, 0) | .inr x1 => some x1))

noncomputable def span_Length_L1 (p0 : List api_Span) (a13 : Int × Int) : Option ((Int × Int) ⊕ (Int)) :=
  cond (decide (a13.2 < (p0.length : Int))) ((idx p0 a13.2).bind fun v19 => some (.inl (w64 (a13.1 + (w64 (v19.Hi - v19.Lo))), w64 (a13.2 + 1)))) (some (.inr a13.1))

/-- gambrel/span.Length -/
noncomputable def span_Length (p0 : List api_Span) : Option (Int × Int) :=
  (span_Check p0).bind fun r1 => cond (r1 != 0) (some (0, r1)) ((loop (span_Length_L1 p0) (0, 0)).bind fun b16 => some (b16, 0))

noncomputable def r11_Length_L1 (p0 : List api_Span) (a25 : Int × Int) : Option ((Int × Int) ⊕ (Int)) :=
  cond (decide (a25.2 < (p0.length : Int))) ((idx p0 a25.2).bind fun v33 => (idx p0 a25.2).bind fun v35 => some (.inl (w64 ((w64 (a25.1 + v33.Hi)) - v35.Lo), w64 (a25.2 + 1)))) (some (.inr a25.1))

/-- gambrel/gambrelref11.Length -/
noncomputable def r11_Length (p0 : List api_Span) : Option (Int × Int) :=
  (r11_Check p0).bind fun r1 => cond (r1 != 0) ((r11_Check p0).bind fun r5 => some (0, r5)) ((loop (r11_Length_L1 p0) (0, 0)).bind fun b28 => some (b28, 0))

/-- gambrel/span.Has$1 -/
noncomputable def span_Has_1 (p0 : api_Span) (p1 : Int) : Option Bool :=
  (cond (decide (p0.Lo ≤ p1)) (some (decide (p1 < p0.Hi))) (some false)).bind fun c1 => some c1

/-- gambrel/span.Has -/
noncomputable def span_Has (p0 : List api_Span) (p1 : Int) : Option Bool :=
  (slices_ContainsFunc_api_Span_api_Span p0 (fun x0 => span_Has_1 x0 p1)).bind fun r1 => some r1

/-- gambrel/gambrellaw11.SpanMakes -/
noncomputable def l11_SpanMakes (p0 : List api_Span) (p1 : Int) : Option Bool :=
  cond (decide ((p0.length : Int) > 450)) (some true) ((l11_copied p0).bind fun r1 => (span_Make r1).bind fun r3 => (r11_Make p0).bind fun r5 => (span_Length r1).bind fun r7 => (r11_Length p0).bind fun r9 => (span_Check r1).bind fun r11 => (r11_Check p0).bind fun r13 => (cond (r11 == r13) ((r11_Same r3.1 r5.1).bind fun r23 => some r23) (some false)).bind fun c17 => (cond c17 (some (r3.2 == r5.2)) (some false)).bind fun c25 => (cond c25 (some (r7.1 == r9.1)) (some false)).bind fun c31 => (cond c31 (some (r7.2 == r9.2)) (some false)).bind fun c37 => (cond c37 ((span_Has r1 p1).bind fun r57 => (r11_Has p0 p1).bind fun r59 => some (r57 == r59)) (some false)).bind fun c47 => (cond c47 ((r11_Same r1 p0).bind fun r69 => some r69) (some false)).bind fun c63 => some c63)

/-- gambrel/gambrellaw11.pair -/
noncomputable def l11_pair : Option (List api_Span) :=
  some [({ Lo := 0, Hi := 2 } : api_Span), ({ Lo := 4, Hi := 7 } : api_Span)]

/-- gambrel/gambrellaw11.alive -/
noncomputable def l11_alive : Option Bool :=
  (span_Make [({ Lo := 0, Hi := 3 } : api_Span), ({ Lo := 5, Hi := 6 } : api_Span), ({ Lo := 2, Hi := 5 } : api_Span)]).bind fun r1 => l11_pair.bind fun r3 => (span_Length r3).bind fun r5 => l11_pair.bind fun r7 => (span_Gaps r7).bind fun r9 => l11_pair.bind fun r11 => (span_Minus r11 [({ Lo := 1, Hi := 5 } : api_Span)]).bind fun r13 => l11_pair.bind fun r15 => (span_Near r15 3).bind fun r17 => (cond (r1.2 == 0) (some (r5.2 == 0)) (some false)).bind fun c19 => (cond c19 (some (r9.2 == 0)) (some false)).bind fun c24 => (cond c24 (some (r13.2 == 0)) (some false)).bind fun c29 => (cond c29 (some (r17.2 == 0)) (some false)).bind fun c34 => (cond c34 (some (r5.1 == 5)) (some false)).bind fun c39 => (cond c39 (some (r17.1 == 1)) (some false)).bind fun c44 => (cond c44 (l11_pair.bind fun r58 => (span_Has r58 6).bind fun r60 => some r60) (some false)).bind fun c53 => (cond c53 (l11_pair.bind fun r72 => (span_Has r72 7).bind fun r74 => some (!r74)) (some false)).bind fun c66 => cond c66 ((r11_Same r1.1 [({ Lo := 0, Hi := 6 } : api_Span)]).bind fun r78 => cond r78 ((r11_Same r9.1 [({ Lo := 2, Hi := 4 } : api_Span)]).bind fun r82 => cond r82 ((r11_Same r13.1 [({ Lo := 0, Hi := 1 } : api_Span), ({ Lo := 5, Hi := 7 } : api_Span)]).bind fun r86 => some r86) (some false)) (some false)) (some false)

noncomputable def l11_SpanNear_L1 (r53 : Int × Int) (p0 : List api_Span) (p1 : Int) (a170 : Int) : Option ((Int) ⊕ ((Unit) ⊕ (Bool))) :=
  cond (decide (a170 < r53.1)) ((span_Has p0 (w64 (p1 - a170))).bind fun r188 => (cond r188 (some true) ((span_Has p0 (w64 (p1 + a170))).bind fun r200 => some r200)).bind fun c192 => cond c192 (some (.inr (.inr false))) (some (.inl (w64 (a170 + 1))))) (some (.inr (.inl ())))

/-- gambrel/gambrellaw11.SpanNear -/
noncomputable def l11_SpanNear (p0 : List api_Span) (p1 : Int) : Option Bool :=
  l11_alive.bind fun r1 => (r11_Check p0).bind fun r3 => (cond (r3 != 0) (some true) (some ((p0.length : Int) == 0))).bind fun c5 => (cond c5 (some true) ((idx p0 0).bind fun v21 => some (decide (v21.Lo < (-1000))))).bind fun c13 => (cond c13 (some true) ((idx p0 (w64 ((p0.length : Int) - 1))).bind fun v36 => some (decide (v36.Hi > 1000)))).bind fun c25 => (cond c25 (some true) (some (decide (p1 < (-1000))))).bind fun c38 => (cond c38 (some true) (some (decide (p1 > 1000)))).bind fun c43 => (cond c43 (some true) (some (!r1))).bind fun c48 => cond c48 (some r1) ((span_Near p0 p1).bind fun r53 => (cond (r53.2 != 0) (some true) (some (decide (r53.1 < 0)))).bind fun c55 => (cond c55 (some true) (some (decide (r53.1 > 2000)))).bind fun c60 => (cond c60 (some true) ((span_Has p0 (w64 (p1 - r53.1))).bind fun r97 => (cond (!r97) ((span_Has p0 (w64 (p1 + r53.1))).bind fun r110 => some (!r110)) (some false)).bind fun c101 => some c101)).bind fun c80 => cond c80 (some false) ((loop (l11_SpanNear_L1 r53 p0 p1) 0 : Option ((Unit) ⊕ (Bool))).bind fun m171 => (match m171 with | .inl b173 => some r1 | .inr x1 => some x1)))

/-- gambrel/gambrellaw11.fit -/
noncomputable def l11_fit (p0 : List api_Span) (p1 : List api_Span) : Option Bool :=
  (r11_Check p0).bind fun r1 => (cond (r1 == 0) ((r11_Check p1).bind fun r11 => some (r11 == 0)) (some false)).bind fun c5 => some c5

/-- gambrel/gambrellaw11.SpanPoints -/
noncomputable def l11_SpanPoints (p0 : List api_Span) (p1 : List api_Span) (p2 : Int) : Option Bool :=
  l11_alive.bind fun r1 => (l11_fit p0 p1).bind fun r3 => (cond (!r3) (some true) (some (!r1))).bind fun c5 => cond c5 (some r1) ((span_Union p0 p1).bind fun r10 => (span_Meet p0 p1).bind fun r12 => (span_Minus p0 p1).bind fun r14 => (span_Has p0 p2).bind fun r16 => (span_Has p1 p2).bind fun r18 => (cond (r10.2 == 0) ((r11_Check r10.1).bind fun r61 => (cond (r61 != 0) (some true) ((span_Has r10.1 p2).bind fun r80 => (cond r16 (some true) (some r18)).bind fun c82 => some (!(r80 == c82)))).bind fun c69 => some c69) (some false)).bind fun c45 => cond c45 (some false) ((cond (r12.2 == 0) ((r11_Check r12.1).bind fun r127 => (cond (r127 != 0) (some true) ((span_Has r12.1 p2).bind fun r146 => (cond r16 (some r18) (some false)).bind fun c148 => some (!(r146 == c148)))).bind fun c135 => some c135) (some false)).bind fun c111 => cond c111 (some false) ((cond (r14.2 == 0) ((r11_Check r14.1).bind fun r197 => (cond (r197 != 0) (some true) ((span_Has r14.1 p2).bind fun r218 => (cond r16 (some (!r18)) (some false)).bind fun c220 => some (!(r218 == c220)))).bind fun c206 => some c206) (some false)).bind fun c180 => cond c180 (some false) ((cond r1 ((cond (r10.2 == 0) (some true) (some (r10.2 == 4))).bind fun c239 => some c239) (some false)).bind fun c230 => (cond c230 ((cond (r12.2 == 0) (some true) (some (r12.2 == 4))).bind fun c258 => some c258) (some false)).bind fun c249 => (cond c249 ((cond (r14.2 == 0) (some true) (some (r14.2 == 4))).bind fun c277 => some c277) (some false)).bind fun c268 => some c268))))

/-- gambrel/gambrellaw11.SpanLengths -/
noncomputable def l11_SpanLengths (p0 : List api_Span) (p1 : List api_Span) : Option Bool :=
  l11_alive.bind fun r1 => (l11_fit p0 p1).bind fun r3 => (cond (!r3) (some true) (some (!r1))).bind fun c5 => cond c5 (some r1) ((span_Union p0 p1).bind fun r10 => (span_Meet p0 p1).bind fun r12 => (span_Minus p0 p1).bind fun r14 => (cond (r10.2 != 0) (some true) (some (r12.2 != 0))).bind fun c16 => (cond c16 (some true) (some (r14.2 != 0))).bind fun c21 => cond c21 ((cond r1 ((cond (r10.2 == 4) (some true) (some (r12.2 == 4))).bind fun c82 => (cond c82 (some true) (some (r14.2 == 4))).bind fun c87 => some c87) (some false)).bind fun c69 => some c69) ((span_Length r10.1).bind fun r92 => (span_Length r12.1).bind fun r94 => (span_Length p0).bind fun r96 => (span_Length p1).bind fun r98 => (span_Union r12.1 r14.1).bind fun r100 => (span_Meet r12.1 r14.1).bind fun r102 => (cond r1 (some (r92.2 == 0)) (some false)).bind fun c104 => (cond c104 (some (r94.2 == 0)) (some false)).bind fun c109 => (cond c109 (some (r96.2 == 0)) (some false)).bind fun c114 => (cond c114 (some (r98.2 == 0)) (some false)).bind fun c119 => (cond c119 (some ((w64 (r92.1 + r94.1)) == (w64 (r96.1 + r98.1)))) (some false)).bind fun c124 => (cond c124 (some (r100.2 == 0)) (some false)).bind fun c134 => (cond c134 ((r11_Same r100.1 p0).bind fun r147 => some r147) (some false)).bind fun c141 => (cond c141 (some (r102.2 == 0)) (some false)).bind fun c149 => (cond c149 (some ((r102.1.length : Int) == 0)) (some false)).bind fun c154 => some c154))

/-- gambrel/gambrellaw11.SpanHull -/
noncomputable def l11_SpanHull (p0 : List api_Span) (p1 : Int) : Option Bool :=
  l11_alive.bind fun r1 => (r11_Check p0).bind fun r3 => (cond (r3 != 0) (some true) (some (!r1))).bind fun c5 => cond c5 (some r1) ((span_Make p0).bind fun r10 => (span_Gaps p0).bind fun r12 => (span_Length p0).bind fun r14 => (cond (r10.2 != 0) (some true) (some (r12.2 != 0))).bind fun c16 => (cond c16 (some true) (some (r14.2 != 0))).bind fun c21 => (cond c21 (some true) ((r11_Same r10.1 p0).bind fun r35 => some (!r35))).bind fun c28 => cond c28 (some false) ((cond (decide ((p0.length : Int) > 0)) ((span_Union p0 r12.1).bind fun r122 => (span_Length r12.1).bind fun r124 => (cond (r122.2 != 0) (some true) (some (r124.2 != 0))).bind fun c126 => (cond c126 (some true) (some ((r122.1.length : Int) != 1))).bind fun c131 => (cond c131 (some true) ((idx r122.1 0).bind fun v153 => (idx p0 0).bind fun v155 => some (v153.Lo != v155.Lo))).bind fun c141 => (cond c141 (some true) ((idx r122.1 0).bind fun v176 => (idx p0 (w64 ((p0.length : Int) - 1))).bind fun v178 => some (v176.Hi != v178.Hi))).bind fun c161 => (cond c161 (some true) ((idx r122.1 0).bind fun v200 => (idx r122.1 0).bind fun v202 => some ((w64 (r14.1 + r124.1)) != (w64 (v200.Hi - v202.Lo))))).bind fun c184 => cond c184 (some (.inr false)) (some (.inl ()))) (some (.inl ())) : Option ((Unit) ⊕ (Bool))).bind fun m120 => (match m120 with | .inl b121 => (span_Move p0 p1).bind fun r204 => cond (r204.2 != 0) ((cond r1 (some (r204.2 == 16)) (some false)).bind fun c211 => some c211) ((span_Move r204.1 (w64 (0 - p1))).bind fun r216 => (cond r1 ((cond ((p0.length : Int) == 0) (some true) ((cond (r216.2 == 0) ((r11_Same r216.1 p0).bind fun r291 => some r291) (some false)).bind fun c285 => some c285)).bind fun c273 => some c273) (some false)).bind fun c248 => some c248) | .inr x1 => some x1)))
end Go.Sh
