/- PLAIN FUNCTIONS, lifted by program. -/
import Derived.Test.YtcpogfjlehoabaaLf1
namespace Go.Sh
open Go Go.Am
structure api_Span where
  Lo : Int
  Hi : Int
  deriving DecidableEq

def enc_api_Span (x : api_Span) : List DV := [.int .i64 x.Lo, .int .i64 x.Hi]

/-- gambrel/span.valid -/
noncomputable def span_valid (p0 : api_Span) : Option Bool :=
  (cond (decide (p0.Lo < p0.Hi)) (some (decide (p0.Lo ≥ (-1000000)))) (some false)).bind fun c1 => (cond c1 (some (decide (p0.Hi ≤ 1000000))) (some false)).bind fun c7 => some c7

noncomputable def span_Check_L1 (p0 : List api_Span) (a211 : Int) : Option ((Int) ⊕ ((Unit) ⊕ (Int))) :=
  cond (decide (a211 < (p0.length : Int))) ((idx p0 a211).bind fun v267 => (span_valid v267).bind fun r269 => (cond (!r269) (some true) ((cond (decide (a211 > 0)) ((idx p0 (w64 (a211 - 1))).bind fun v317 => some (decide (v317.Hi ≥ v267.Lo))) (some false)).bind fun c305 => some c305)).bind fun c287 => cond c287 (some (.inr (.inr 8))) (some (.inl (w64 (a211 + 1))))) (some (.inr (.inl ())))

/-- gambrel/span.Check -/
noncomputable def span_Check (p0 : List api_Span) : Option Int :=
  cond (decide ((p0.length : Int) > 400)) (some 4) ((loop (span_Check_L1 p0) 0).bind fun m212 => match m212 with | .inl b214 => some 0 | .inr x1 => some x1)

noncomputable def span_Gaps_L1 (p0 : List api_Span) (a29 : Int × List api_Span) : Option ((Int × List api_Span) ⊕ (List api_Span)) :=
  cond (decide (a29.1 < (p0.length : Int))) ((idx p0 (w64 (a29.1 - 1))).bind fun v39 => (idx p0 a29.1).bind fun v41 => (app 16 a29.2 [({ Lo := v39.Hi, Hi := v41.Lo } : api_Span)]).bind fun z43 => some (.inl (w64 (a29.1 + 1), z43))) (some (.inr a29.2))

/-- gambrel/span.Gaps -/
noncomputable def span_Gaps (p0 : List api_Span) : Option (List api_Span × Int) :=
  (span_Check p0).bind fun r1 => cond (r1 != 0) (some ([], r1)) ((loop (span_Gaps_L1 p0) (1, [])).bind fun b32 => some (b32, 0))

/-- gambrel/gambrelref11.Valid -/
noncomputable def r11_Valid (p0 : api_Span) : Option Bool :=
  (cond (decide (p0.Lo < p0.Hi)) (some (decide (p0.Lo ≥ (-1000000)))) (some false)).bind fun c1 => (cond c1 (some (decide (p0.Hi ≤ 1000000))) (some false)).bind fun c7 => some c7

noncomputable def r11_Check_L1 (p0 : List api_Span) (a279 : Int) : Option ((Int) ⊕ ((Unit) ⊕ (Int))) :=
  cond (decide (a279 < (p0.length : Int))) ((idx p0 a279).bind fun v352 => (r11_Valid v352).bind fun r354 => (cond (!r354) (some true) ((cond (decide (a279 > 0)) ((idx p0 (w64 (a279 - 1))).bind fun v417 => (idx p0 a279).bind fun v419 => some (decide (v417.Hi ≥ v419.Lo))) (some false)).bind fun c402 => some c402)).bind fun c379 => cond c379 (some (.inr (.inr 8))) (some (.inl (w64 (a279 + 1))))) (some (.inr (.inl ())))

/-- gambrel/gambrelref11.Check -/
noncomputable def r11_Check (p0 : List api_Span) : Option Int :=
  cond (decide ((p0.length : Int) > 400)) (some 4) ((loop (r11_Check_L1 p0) 0).bind fun m280 => match m280 with | .inl b282 => some 0 | .inr x1 => some x1)

noncomputable def r11_Sorted_L2 (a113 : Int × List Int) (p0 : List Int) (a239 : Int) : Option ((Int) ⊕ (Int)) :=
  (cond (decide (a239 > 0)) ((idx a113.2 (w64 (a239 - 1))).bind fun v260 => (idx p0 a113.1).bind fun v262 => some (decide (v260 > v262))) (some false)).bind fun c247 => cond c247 (some (.inl (w64 (a239 - 1)))) (some (.inr a239))

noncomputable def r11_Sorted_L1 (p0 : List Int) (a113 : Int × List Int) : Option ((Int × List Int) ⊕ (List Int)) :=
  cond (decide (a113.1 < (p0.length : Int))) (((loop (r11_Sorted_L2 a113 p0) (a113.2.length : Int)).bind fun b242 => (cond (decide (b242 > 0)) ((idx a113.2 (w64 (b242 - 1))).bind fun v281 => (idx p0 a113.1).bind fun v283 => some (v281 == v283)) (some false)).bind fun c268 => cond c268 (some a113.2) ((app 8 a113.2 [0]).bind fun z285 => (sub2 z285.length (w64 (b242 + 1)) z285.length).bind fun w287 => (sub2 z285.length b242 z285.length).bind fun w289 => (idx p0 a113.1).bind fun v292 => (idx (cpyw z285 w287 ((z285.drop w289.1).take w289.2)) b242).bind fun v294 => some ((cpyw z285 w287 ((z285.drop w289.1).take w289.2)).set b242.toNat v292))).bind fun b194 => some (.inl (w64 (a113.1 + 1), b194))) (some (.inr a113.2))

/-- gambrel/gambrelref11.Sorted -/
noncomputable def r11_Sorted (p0 : List Int) : Option (List Int) :=
  (loop (r11_Sorted_L1 p0) (0, [])).bind fun b116 => some b116

noncomputable def r11_Ends_L1 (p0 : List api_Span) (a27 : Int × List Int) : Option ((Int × List Int) ⊕ (List Int)) :=
  cond (decide (a27.1 < (p0.length : Int))) ((idx p0 a27.1).bind fun v37 => (idx p0 a27.1).bind fun v39 => (app 8 a27.2 [v37.Lo, v39.Hi]).bind fun z41 => some (.inl (w64 (a27.1 + 1), z41))) (some (.inr a27.2))

noncomputable def r11_Ends_L2 (p1 : List api_Span) (a69 : Int × List Int) : Option ((Int × List Int) ⊕ (List Int)) :=
  cond (decide (a69.1 < (p1.length : Int))) ((idx p1 a69.1).bind fun v79 => (idx p1 a69.1).bind fun v81 => (app 8 a69.2 [v79.Lo, v81.Hi]).bind fun z83 => some (.inl (w64 (a69.1 + 1), z83))) (some (.inr a69.2))

/-- gambrel/gambrelref11.Ends -/
noncomputable def r11_Ends (p0 : List api_Span) (p1 : List api_Span) : Option (List Int) :=
  (loop (r11_Ends_L1 p0) (0, [])).bind fun b30 => (loop (r11_Ends_L2 p1) (0, b30)).bind fun b72 => (r11_Sorted b72).bind fun r85 => some r85

noncomputable def r11_Has_L1 (p0 : List api_Span) (p1 : Int) (a67 : Int) : Option ((Int) ⊕ ((Unit) ⊕ (Bool))) :=
  cond (decide (a67 < (p0.length : Int))) ((idx p0 a67).bind fun v87 => (cond (decide (v87.Lo ≤ p1)) ((idx p0 a67).bind fun v101 => some (decide (p1 < v101.Hi))) (some false)).bind fun c91 => cond c91 (some (.inr (.inr true))) (some (.inl (w64 (a67 + 1))))) (some (.inr (.inl ())))

/-- gambrel/gambrelref11.Has -/
noncomputable def r11_Has (p0 : List api_Span) (p1 : Int) : Option Bool :=
  (loop (r11_Has_L1 p0 p1) 0).bind fun m68 => match m68 with | .inl b70 => some false | .inr x1 => some x1

/-- gambrel/gambrelref11.Holds -/
noncomputable def r11_Holds (p0 : Int) (p1 : Bool) (p2 : Bool) : Option Bool :=
  cond (p0 == 1) ((cond p1 (some p2) (some false)).bind fun c5 => some c5) (cond (p0 == 2) ((cond p1 (some true) (some p2)).bind fun c13 => some c13) ((cond p1 (some (!p2)) (some false)).bind fun c17 => some c17))

noncomputable def r11_Canon_L1 (p0 : List Int) (p1 : List Bool) (a64 : Int × List api_Span) : Option ((Int × List api_Span) ⊕ (List api_Span)) :=
  cond (decide ((w64 (a64.1 + 1)) < (p0.length : Int))) (((idx p1 a64.1).bind fun v105 => cond (!v105) (some a64.2) ((cond (decide ((a64.2.length : Int) > 0)) ((idx a64.2 (w64 ((a64.2.length : Int) - 1))).bind fun v125 => (idx p0 a64.1).bind fun v127 => some (v125.Hi == v127)) (some false)).bind fun c111 => cond c111 ((idx p0 (w64 (a64.1 + 1))).bind fun v129 => (idx a64.2 (w64 ((a64.2.length : Int) - 1))).bind fun v131 => some (a64.2.set (w64 ((a64.2.length : Int) - 1)).toNat ({ Lo := v131.Lo, Hi := v129 } : api_Span))) ((idx p0 a64.1).bind fun v133 => (idx p0 (w64 (a64.1 + 1))).bind fun v135 => (app 16 a64.2 [({ Lo := v133, Hi := v135 } : api_Span)]).bind fun z137 => some z137))).bind fun b104 => some (.inl (w64 (a64.1 + 1), b104))) (some (.inr a64.2))

/-- gambrel/gambrelref11.Canon -/
noncomputable def r11_Canon (p0 : List Int) (p1 : List Bool) : Option (List api_Span) :=
  (loop (r11_Canon_L1 p0 p1) (0, [])).bind fun b67 => some b67

noncomputable def r11_Joined_L1 (r1 : List Int) (p1 : List api_Span) (p2 : List api_Span) (p0 : Int) (a53 : Int × List Bool) : Option ((Int × List Bool) ⊕ (List Bool)) :=
  cond (decide (a53.1 < (r1.length : Int))) ((idx r1 a53.1).bind fun v69 => (r11_Has p1 v69).bind fun r71 => (idx r1 a53.1).bind fun v73 => (r11_Has p2 v73).bind fun r75 => (r11_Holds p0 r71 r75).bind fun r77 => (app 1 a53.2 [r77]).bind fun z79 => some (.inl (w64 (a53.1 + 1), z79))) (some (.inr a53.2))

/-- gambrel/gambrelref11.Joined -/
noncomputable def r11_Joined (p0 : Int) (p1 : List api_Span) (p2 : List api_Span) : Option (List api_Span) :=
  (r11_Ends p1 p2).bind fun r1 => (loop (r11_Joined_L1 r1 p1 p2 p0) (0, [])).bind fun b56 => (r11_Canon r1 b56).bind fun r81 => some r81

/-- gambrel/gambrelref11.Gaps -/
noncomputable def r11_Gaps (p0 : List api_Span) : Option (List api_Span × Int) :=
  (r11_Check p0).bind fun r1 => cond (r1 != 0) ((r11_Check p0).bind fun r5 => some ([], r5)) (cond ((p0.length : Int) == 0) (some ([], 0)) ((idx p0 0).bind fun v7 => (idx p0 (w64 ((p0.length : Int) - 1))).bind fun v9 => (r11_Joined 3 [({ Lo := v7.Lo, Hi := v9.Hi } : api_Span)] p0).bind fun r11 => some (r11, 0)))

noncomputable def span_Move_L1 (p0 : List api_Span) (p1 : Int) (a48 : Int × List api_Span) : Option ((Int × List api_Span) ⊕ ((List api_Span) ⊕ (List api_Span × Int))) :=
  cond (decide (a48.1 < (p0.length : Int))) ((idx p0 a48.1).bind fun v58 => (span_valid ({ Lo := w64 (v58.Lo + p1), Hi := w64 (v58.Hi + p1) } : api_Span)).bind fun r60 => cond (!r60) (some (.inr (.inr ([], 16)))) ((app 16 a48.2 [({ Lo := w64 (v58.Lo + p1), Hi := w64 (v58.Hi + p1) } : api_Span)]).bind fun z62 => some (.inl (w64 (a48.1 + 1), z62)))) (some (.inr (.inl a48.2)))

/-- gambrel/span.Move -/
noncomputable def span_Move (p0 : List api_Span) (p1 : Int) : Option (List api_Span × Int) :=
  (span_Check p0).bind fun r1 => cond (r1 != 0) (some ([], r1)) ((cond (decide ((p0.length : Int) > 0)) ((cond (decide (p1 > 2000000)) (some true) (some (decide (p1 < (-2000000))))).bind fun c17 => some c17) (some false)).bind fun c8 => cond c8 (some ([], 16)) ((loop (span_Move_L1 p0 p1) (0, [])).bind fun m49 => match m49 with | .inl b51 => some (b51, 0) | .inr x1 => some x1))

noncomputable def r11_Move_L1 (p0 : List api_Span) (p1 : Int) (a181 : Int × List api_Span) : Option ((Int × List api_Span) ⊕ ((List api_Span) ⊕ (List api_Span × Int))) :=
  cond (decide (a181.1 < (p0.length : Int))) ((cond (decide (p1 > 2000000)) (some true) (some (decide (p1 < (-2000000))))).bind fun c228 => (cond c228 (some true) ((idx p0 a181.1).bind fun v259 => (idx p0 a181.1).bind fun v261 => (r11_Valid ({ Lo := w64 (v259.Lo + p1), Hi := w64 (v261.Hi + p1) } : api_Span)).bind fun r263 => some (!r263))).bind fun c239 => cond c239 (some (.inr (.inr ([], 16)))) ((idx p0 a181.1).bind fun v265 => (idx p0 a181.1).bind fun v267 => (app 16 a181.2 [({ Lo := w64 (v265.Lo + p1), Hi := w64 (v267.Hi + p1) } : api_Span)]).bind fun z269 => some (.inl (w64 (a181.1 + 1), z269)))) (some (.inr (.inl a181.2)))

/-- gambrel/gambrelref11.Move -/
noncomputable def r11_Move (p0 : List api_Span) (p1 : Int) : Option (List api_Span × Int) :=
  (r11_Check p0).bind fun r1 => cond (r1 != 0) ((r11_Check p0).bind fun r5 => some ([], r5)) ((loop (r11_Move_L1 p0 p1) (0, [])).bind fun m182 => match m182 with | .inl b184 => some (b184, 0) | .inr x1 => some x1)

noncomputable def span_Near_L1 (p0 : List api_Span) (p1 : Int) (a29 : Int × Int) : Option ((Int × Int) ⊕ (Int)) :=
  cond (decide (a29.2 < (p0.length : Int))) (((idx p0 a29.2).bind fun v44 => (cond (decide (a29.1 < 0)) (some true) (some (decide ((max (max (w64 (v44.Lo - p1)) (w64 ((w64 (p1 - v44.Hi)) + 1))) 0) < a29.1)))).bind fun c46 => cond c46 (some (max (max (w64 (v44.Lo - p1)) (w64 ((w64 (p1 - v44.Hi)) + 1))) 0)) (some a29.1)).bind fun b43 => some (.inl (b43, w64 (a29.2 + 1)))) (some (.inr a29.1))

/-- gambrel/span.Near -/
noncomputable def span_Near (p0 : List api_Span) (p1 : Int) : Option (Int × Int) :=
  (span_Check p0).bind fun r1 => cond (r1 != 0) (some (0, r1)) ((cond (decide (p1 < (-1000000))) (some true) (some (decide (p1 > 1000000)))).bind fun c3 => cond c3 (some (0, 2)) ((loop (span_Near_L1 p0 p1) ((-1), 0)).bind fun b32 => cond (decide (b32 < 0)) (some (0, 6)) (some (b32, 0))))

noncomputable def r11_Near_L1 (p0 : List api_Span) (p1 : Int) (a31 : Int × Int) : Option ((Int × Int) ⊕ (Int)) :=
  cond (decide (a31.2 < (p0.length : Int))) (((idx p0 a31.2).bind fun v44 => cond (decide (v44.Lo > p1)) ((idx p0 a31.2).bind fun v46 => some (min a31.1 (w64 (v46.Lo - p1)))) ((idx p0 a31.2).bind fun v48 => some (min a31.1 (w64 (p1 - (w64 (v48.Hi - 1))))))).bind fun b43 => some (.inl (b43, w64 (a31.2 + 1)))) (some (.inr a31.1))

/-- gambrel/gambrelref11.Near -/
noncomputable def r11_Near (p0 : List api_Span) (p1 : Int) : Option (Int × Int) :=
  (r11_Check p0).bind fun r1 => cond (r1 != 0) ((r11_Check p0).bind fun r5 => some (0, r5)) ((cond (decide (p1 < (-1000000))) (some true) (some (decide (p1 > 1000000)))).bind fun c7 => cond c7 (some (0, 2)) (cond ((p0.length : Int) == 0) (some (0, 6)) ((r11_Has p0 p1).bind fun r12 => cond r12 (some (0, 0)) ((loop (r11_Near_L1 p0 p1) (4000000, 0)).bind fun b34 => some (b34, 0)))))

noncomputable def r11_Same_L1 (p0 : List api_Span) (p1 : List api_Span) (a19 : Int) : Option ((Int) ⊕ ((Unit) ⊕ (Bool))) :=
  cond (decide (a19 < (p0.length : Int))) ((idx p0 a19).bind fun v27 => (idx p1 a19).bind fun v29 => cond (!((v27.Lo == v29.Lo) && ((v27.Hi == v29.Hi) && true))) (some (.inr (.inr false))) (some (.inl (w64 (a19 + 1))))) (some (.inr (.inl ())))

/-- gambrel/gambrelref11.Same -/
noncomputable def r11_Same (p0 : List api_Span) (p1 : List api_Span) : Option Bool :=
  cond ((p0.length : Int) != (p1.length : Int)) (some false) ((loop (r11_Same_L1 p0 p1) 0).bind fun m20 => match m20 with | .inl b22 => some true | .inr x1 => some x1)

/-- gambrel/gambrellaw11.SpanMoves -/
noncomputable def l11_SpanMoves (p0 : List api_Span) (p1 : Int) (p2 : Int) : Option Bool :=
  cond (decide ((p0.length : Int) > 450)) (some true) ((span_Gaps p0).bind fun r1 => (r11_Gaps p0).bind fun r3 => (span_Move p0 p1).bind fun r5 => (r11_Move p0 p1).bind fun r7 => (span_Near p0 p2).bind fun r9 => (r11_Near p0 p2).bind fun r11 => (r11_Same r1.1 r3.1).bind fun r13 => (cond r13 (some (r1.2 == r3.2)) (some false)).bind fun c15 => (cond c15 ((r11_Same r5.1 r7.1).bind fun r29 => some r29) (some false)).bind fun c23 => (cond c23 (some (r5.2 == r7.2)) (some false)).bind fun c31 => (cond c31 (some (r9.1 == r11.1)) (some false)).bind fun c37 => (cond c37 (some (r9.2 == r11.2)) (some false)).bind fun c43 => some c43)
end Go.Sh
