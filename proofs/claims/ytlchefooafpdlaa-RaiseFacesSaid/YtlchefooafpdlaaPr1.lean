/- PLAIN, RAISE: the law RaiseFaces. -/
import Derived.Test.YtlchefooafpdlaaPf1r
namespace Go.Sh
open Go Go.Am

/-! ### The reference's frames -/
theorem bne_all {a b : V3} (hne : a ≠ b) : (a.1.X == b.1.X && (a.1.Y == b.1.Y && (a.1.Z == b.1.Z && (a.2.1.X == b.2.1.X && (a.2.1.Y == b.2.1.Y && (a.2.1.Z == b.2.1.Z && (a.2.2.X == b.2.2.X && (a.2.2.Y == b.2.2.Y && (a.2.2.Z == b.2.2.Z && true))))))))) = false := by
  rw [Bool.eq_false_iff]
  intro hh
  simp only [Bool.and_eq_true, beq_iff_eq] at hh
  apply hne
  obtain ⟨⟨a1, a2, a3⟩, ⟨a4, a5, a6⟩, ⟨a7, a8, a9⟩⟩ := a
  obtain ⟨⟨b1, b2, b3⟩, ⟨b4, b5, b6⟩, ⟨b7, b8, b9⟩⟩ := b
  simp only at hh
  obtain ⟨rfl, rfl, rfl, rfl, rfl, rfl, rfl, rfl, rfl, _⟩ := hh
  rfl
theorem turned_eq {u : Nat} (h : u < 24) : r16_Turned (axT u) = some (u : Int) := by
  have key := loop_rng (f := r16_Turned_L1 (axT u)) (σ := Unit) (fun k _ => (k : Int)) 24 (fun k _ => k ≤ u) (fun b => b = .inr (u : Int)) ?_ ?_ (k0 := 0) (c0 := ()) (by omega) (by omega)
  · obtain ⟨b, h1, rfl⟩ := key
    have h1 : loop (r16_Turned_L1 (axT u)) 0 = some (.inr (u : Int)) := h1
    unfold r16_Turned; rw [h1]; rfl
  · intro k _ hk hku
    have hb : decide ((k : Int) < 24) = true := decide_eq_true (by omega)
    simp only [r16_Turned_L1, hb, cond_true, images_nat k hk, Option.bind_some]
    by_cases e : k = u
    · subst e
      exact .inr ⟨.inr (k : Int), by simp, rfl⟩
    · refine .inl ⟨(), ?_, by omega⟩
      have hw : w64 ((k : Int) + 1) = ((k + 1 : Nat) : Int) := by rw [w64_id (by omega)]; omega
      rw [bne_all (fun he => e (axT_inj k hk u h he)), hw]; rfl
  · intro _ hi; omega
theorem u8_nat {u : Nat} (h : u < 24) : IntKind.u8.wrap (u : Int) = (u : Int) := by
  simp [IntKind.wrap, IntKind.bits, IntKind.signed]; omega
theorem r16_Within_eq {f g : api_Frame} {t u : Nat} (ht : f.Turn = t) (hu : g.Turn = u) (hf : FOk f) (hg : FOk g) :
    r16_Within f g = some (if FOk ⟨(compI t u : Nat), imageT u g.At f.At⟩ then (⟨(compI t u : Nat), imageT u g.At f.At⟩, 0) else (zeroF, 16)) := by
  unfold r16_Within
  rw [r16_Check_eq, r16_Check_eq, if_pos hf, if_pos hg]
  have h1 : ((0 : Int) != 0) = false := rfl
  simp only [Option.bind_some, h1, cond_false]
  have t24 : t < 24 := by have := hf.1; omega
  have u24 : u < 24 := by have := hg.1; omega
  have au := axT_unit u u24
  obtain ⟨b1, b2, b3⟩ := axT_unit t t24
  have s1 := r16_Sum_eq au (unit_in b1)
  have s2 := r16_Sum_eq au (unit_in b2)
  have s3 := r16_Sum_eq au (unit_in b3)
  have hwt : w64 f.Turn = (t : Int) := by rw [ht, w64_id (by omega)]
  have hwu : w64 g.Turn = (u : Int) := by rw [hu, w64_id (by omega)]
  have im := images_nat u u24
  rw [hwt, images_nat t t24]
  have key : loop (r16_Within_L1 g) (0, [(axT t).1, (axT t).2.1, (axT t).2.2]) = some [mulV (axT u) (axT t).1, mulV (axT u) (axT t).2.1, mulV (axT u) (axT t).2.2] := by
    rw [loop_next (a' := ((1 : Int), [mulV (axT u) (axT t).1, (axT t).2.1, (axT t).2.2])) (by simp [r16_Within_L1, idxA, s1, w64_id, hwu, im])]
    rw [loop_next (a' := ((2 : Int), [mulV (axT u) (axT t).1, mulV (axT u) (axT t).2.1, (axT t).2.2])) (by simp [r16_Within_L1, idxA, s2, w64_id, hwu, im])]
    rw [loop_next (a' := ((3 : Int), [mulV (axT u) (axT t).1, mulV (axT u) (axT t).2.1, mulV (axT u) (axT t).2.2])) (by simp [r16_Within_L1, idxA, s3, w64_id, hwu, im])]
    exact loop_done (by simp [r16_Within_L1])
  simp only [Option.bind_some, key, arr3]
  obtain ⟨c1, c2⟩ := compI_ok t t24 u u24
  have : (mulV (axT u) (axT t).1, mulV (axT u) (axT t).2.1, mulV (axT u) (axT t).2.2) = axT (compI t u) := c2.symm
  rw [this, turned_eq c1, r16_Image_eq hu u24 (in_within hg.2 (by omega)) (in_within hf.2 (by omega))]
  simp only [Option.bind_some, u8_nat c1, r16_Check_eq]
  by_cases h : FOk ⟨(compI t u : Nat), imageT u g.At f.At⟩
  · simp only [if_pos h]; rfl
  · simp only [if_neg h]; rfl
theorem r16_Inside_eq {s : api_Scope} {a z : api_Vec} {t u : Nat} (hu : s.Frame.Turn = u) (hs : SOk s) (h24 : t < 24) (ha : InV a (-1000000)) (hz : InV z 0) :
    r16_Inside s a z (t : Int) = some (if FOk ⟨(compI t u : Nat), imageT u s.Frame.At a⟩ then (⟨⟨(compI t u : Nat), imageT u s.Frame.At a⟩, z⟩, 0) else (zeroS, 16)) := by
  unfold r16_Inside
  have hf : FOk ⟨(t : Int), a⟩ := ⟨by show (t : Int) < 24; omega, ha⟩
  have h24' : decide ((t : Int) ≥ 24) = false := decide_eq_false (by omega)
  rw [Scoped_eq, if_pos hs, In_eq, In_eq, decide_eq_true ha, decide_eq_true hz, h24']
  have h1 : ((0 : Int) != 0) = false := rfl
  simp only [Option.bind_some, h1, cond_false, Bool.not_true]
  rw [r16_Within_eq (f := ⟨(t : Int), a⟩) rfl hu hf hs.1]
  by_cases h : FOk ⟨(compI t u : Nat), imageT u s.Frame.At a⟩
  · simp only [if_pos h]; rfl
  · simp only [if_neg h]; rfl
theorem inside_same {s : api_Scope} {a z : api_Vec} {t : Nat} (ht : 0 ≤ s.Frame.Turn) (hs : SOk s) (h24 : t < 24) (ha : InV a (-1000000)) (hz : InV z 0) : ∃ r, frame_Inside s a z (t : Int) = some r ∧ r16_Inside s a z (t : Int) = some r := by
  obtain ⟨u, hu⟩ : ∃ u : Nat, s.Frame.Turn = u := ⟨s.Frame.Turn.toNat, by omega⟩
  exact ⟨_, Inside_eq hu hs h24 ha hz, r16_Inside_eq hu hs h24 ha hz⟩
theorem raise_checked_eq {s : api_Scope} (ht : 0 ≤ s.Frame.Turn) : raise_checked s = some (if SOk s then 0 else 8) := by
  unfold raise_checked
  by_cases hs : SOk s
  · obtain ⟨u, hu⟩ : ∃ u : Nat, s.Frame.Turn = u := ⟨s.Frame.Turn.toNat, by omega⟩
    have h : frame_Inside s ⟨0, 0, 0⟩ ⟨0, 0, 0⟩ ((0 : Nat) : Int) = _ := Inside_eq (t := 0) hu hs (by omega) (by unfold InV; simp) (by unfold InV; simp)
    have u24 : u < 24 := by have := hs.1.1; omega
    rw [compI_zero u u24, image_zero, ← hu, if_pos hs.1] at h
    have h : frame_Inside s ⟨0, 0, 0⟩ ⟨0, 0, 0⟩ 0 = some (⟨⟨s.Frame.Turn, s.Frame.At⟩, ⟨0, 0, 0⟩⟩, 0) := h
    rw [h, if_pos hs]; rfl
  · rw [Inside_bad hs, if_neg hs]; rfl

/-! ### The six faces -/
def zero6 : api_Scope × api_Scope × api_Scope × api_Scope × api_Scope × api_Scope := (zeroS, zeroS, zeroS, zeroS, zeroS, zeroS)
/-- What is done with a face. -/
noncomputable def faceK (d : Int) (out : List api_Scope) (o : Option (api_Scope × Int)) : Option ((Int × List api_Scope) ⊕ ((List api_Scope) ⊕ ((api_Scope × api_Scope × api_Scope × api_Scope × api_Scope × api_Scope) × Int))) :=
  o.bind fun r => cond (r.2 != 0) (some (.inr (.inr (zero6, r.2)))) ((idxA 6 out d).bind fun _ => some (.inl (w64 (d + 1), out.set d.toNat r.1)))
theorem r20_step_0 (s : api_Scope) (out : List api_Scope) : r20_Faces_L1 s (0, out) = faceK 0 out (r16_Inside s ⟨s.Size.X, 0, 0⟩ ⟨s.Size.Y, s.Size.Z, 0⟩ 10) := by
  have e : r20_Faces_L1 s (0, out) = (r16_Turned (⟨0, 1, 0⟩, ⟨0, 0, 1⟩, ⟨1, 0, 0⟩)).bind fun r => faceK 0 out (r16_Inside s ⟨s.Size.X, 0, 0⟩ ⟨s.Size.Y, s.Size.Z, 0⟩ (IntKind.wrap .u8 r)) := rfl
  rw [e, show ((⟨0, 1, 0⟩, ⟨0, 0, 1⟩, ⟨1, 0, 0⟩) : V3) = axT 10 by decide +kernel, turned_eq (by omega)]
  rfl
theorem face_0 (s : api_Scope) : raise_face s.Size 0 = some (10, ⟨s.Size.X, 0, 0⟩, ⟨s.Size.Y, s.Size.Z, 0⟩) := rfl
theorem r20_step_1 (s : api_Scope) (out : List api_Scope) : r20_Faces_L1 s (1, out) = faceK 1 out (r16_Inside s ⟨0, 0, s.Size.Z⟩ ⟨s.Size.Y, s.Size.Z, 0⟩ 11) := by
  have e : r20_Faces_L1 s (1, out) = (r16_Turned (⟨0, 1, 0⟩, ⟨0, 0, -1⟩, ⟨-1, 0, 0⟩)).bind fun r => faceK 1 out (r16_Inside s ⟨0, 0, s.Size.Z⟩ ⟨s.Size.Y, s.Size.Z, 0⟩ (IntKind.wrap .u8 r)) := rfl
  rw [e, show ((⟨0, 1, 0⟩, ⟨0, 0, -1⟩, ⟨-1, 0, 0⟩) : V3) = axT 11 by decide +kernel, turned_eq (by omega)]
  rfl
theorem face_1 (s : api_Scope) : raise_face s.Size 1 = some (11, ⟨0, 0, s.Size.Z⟩, ⟨s.Size.Y, s.Size.Z, 0⟩) := rfl
theorem r20_step_2 (s : api_Scope) (out : List api_Scope) : r20_Faces_L1 s (2, out) = faceK 2 out (r16_Inside s ⟨0, s.Size.Y, s.Size.Z⟩ ⟨s.Size.X, s.Size.Z, 0⟩ 3) := by
  have e : r20_Faces_L1 s (2, out) = (r16_Turned (⟨1, 0, 0⟩, ⟨0, 0, -1⟩, ⟨0, 1, 0⟩)).bind fun r => faceK 2 out (r16_Inside s ⟨0, s.Size.Y, s.Size.Z⟩ ⟨s.Size.X, s.Size.Z, 0⟩ (IntKind.wrap .u8 r)) := rfl
  rw [e, show ((⟨1, 0, 0⟩, ⟨0, 0, -1⟩, ⟨0, 1, 0⟩) : V3) = axT 3 by decide +kernel, turned_eq (by omega)]
  rfl
theorem face_2 (s : api_Scope) : raise_face s.Size 2 = some (3, ⟨0, s.Size.Y, s.Size.Z⟩, ⟨s.Size.X, s.Size.Z, 0⟩) := rfl
theorem r20_step_3 (s : api_Scope) (out : List api_Scope) : r20_Faces_L1 s (3, out) = faceK 3 out (r16_Inside s ⟨0, 0, 0⟩ ⟨s.Size.X, s.Size.Z, 0⟩ 2) := by
  have e : r20_Faces_L1 s (3, out) = (r16_Turned (⟨1, 0, 0⟩, ⟨0, 0, 1⟩, ⟨0, -1, 0⟩)).bind fun r => faceK 3 out (r16_Inside s ⟨0, 0, 0⟩ ⟨s.Size.X, s.Size.Z, 0⟩ (IntKind.wrap .u8 r)) := rfl
  rw [e, show ((⟨1, 0, 0⟩, ⟨0, 0, 1⟩, ⟨0, -1, 0⟩) : V3) = axT 2 by decide +kernel, turned_eq (by omega)]
  rfl
theorem face_3 (s : api_Scope) : raise_face s.Size 3 = some (2, ⟨0, 0, 0⟩, ⟨s.Size.X, s.Size.Z, 0⟩) := rfl
theorem r20_step_4 (s : api_Scope) (out : List api_Scope) : r20_Faces_L1 s (4, out) = faceK 4 out (r16_Inside s ⟨0, 0, s.Size.Z⟩ ⟨s.Size.X, s.Size.Y, 0⟩ 0) := by
  have e : r20_Faces_L1 s (4, out) = (r16_Turned (⟨1, 0, 0⟩, ⟨0, 1, 0⟩, ⟨0, 0, 1⟩)).bind fun r => faceK 4 out (r16_Inside s ⟨0, 0, s.Size.Z⟩ ⟨s.Size.X, s.Size.Y, 0⟩ (IntKind.wrap .u8 r)) := rfl
  rw [e, show ((⟨1, 0, 0⟩, ⟨0, 1, 0⟩, ⟨0, 0, 1⟩) : V3) = axT 0 by decide +kernel, turned_eq (by omega)]
  rfl
theorem face_4 (s : api_Scope) : raise_face s.Size 4 = some (0, ⟨0, 0, s.Size.Z⟩, ⟨s.Size.X, s.Size.Y, 0⟩) := rfl
theorem r20_step_5 (s : api_Scope) (out : List api_Scope) : r20_Faces_L1 s (5, out) = faceK 5 out (r16_Inside s ⟨0, s.Size.Y, 0⟩ ⟨s.Size.X, s.Size.Y, 0⟩ 1) := by
  have e : r20_Faces_L1 s (5, out) = (r16_Turned (⟨1, 0, 0⟩, ⟨0, -1, 0⟩, ⟨0, 0, -1⟩)).bind fun r => faceK 5 out (r16_Inside s ⟨0, s.Size.Y, 0⟩ ⟨s.Size.X, s.Size.Y, 0⟩ (IntKind.wrap .u8 r)) := rfl
  rw [e, show ((⟨1, 0, 0⟩, ⟨0, -1, 0⟩, ⟨0, 0, -1⟩) : V3) = axT 1 by decide +kernel, turned_eq (by omega)]
  rfl
theorem face_5 (s : api_Scope) : raise_face s.Size 5 = some (1, ⟨0, s.Size.Y, 0⟩, ⟨s.Size.X, s.Size.Y, 0⟩) := rfl
/-- The program's walk at face d. -/
theorem raise_step {s : api_Scope} {d : Int} {t : Int} {at_ flat : api_Vec} {out : List api_Scope} {r : api_Scope × Int} (hd : d < 6) (hf : raise_face s.Size d = some (t, at_, flat)) (hi : frame_Inside s at_ flat t = some r) (hx : ∃ v, idxA 6 out d = some v) :
    raise_Faces_L1 (d, out, s.Frame.Turn, s.Frame.At.X, s.Frame.At.Y, s.Frame.At.Z, s.Size.X, s.Size.Y, s.Size.Z) =
      cond (r.2 != 0) (some (.inr (.inr (zero6, r.2)))) (some (.inl (w64 (d + 1), out.set d.toNat r.1, s.Frame.Turn, s.Frame.At.X, s.Frame.At.Y, s.Frame.At.Z, s.Size.X, s.Size.Y, s.Size.Z))) := by
  obtain ⟨v, hv⟩ := hx
  have e : raise_Faces_1_e1 d s.Frame.Turn s.Frame.At.X s.Frame.At.Y s.Frame.At.Z s.Size.X s.Size.Y s.Size.Z out = some (r.2, s.Frame.Turn, s.Frame.At.X, s.Frame.At.Y, s.Frame.At.Z, s.Size.X, s.Size.Y, s.Size.Z, out.set d.toNat r.1) := by
    unfold raise_Faces_1_e1
    have h1 : raise_face ({ X := s.Size.X, Y := s.Size.Y, Z := s.Size.Z } : api_Vec) d = some (t, at_, flat) := hf
    have h2 : frame_Inside ({ Frame := ({ Turn := s.Frame.Turn, At := ({ X := s.Frame.At.X, Y := s.Frame.At.Y, Z := s.Frame.At.Z } : api_Vec) } : api_Frame), Size := ({ X := s.Size.X, Y := s.Size.Y, Z := s.Size.Z } : api_Vec) } : api_Scope) at_ flat t = some r := hi
    simp only [h1, h2, hv, Option.bind_some]
  unfold raise_Faces_L1
  simp only [decide_eq_true hd, cond_true, e, Option.bind_some]
  rfl
theorem idx6 {out : List api_Scope} (h : out.length = 6) {k : Nat} (hk : k < 6) : ∃ v, idxA 6 out (k : Int) = some v := by
  unfold idxA
  rw [if_pos ⟨by omega, by omega⟩]
  exact ⟨_, List.getElem?_eq_getElem (by simpa using (by omega : k < out.length))⟩
theorem faces_step {s : api_Scope} (ht : 0 ≤ s.Frame.Turn) (hs : SOk s) {k : Nat} (hk : k < 6) {out : List api_Scope} (ho : out.length = 6) : ∃ r : api_Scope × Int,
    raise_Faces_L1 ((k : Int), out, s.Frame.Turn, s.Frame.At.X, s.Frame.At.Y, s.Frame.At.Z, s.Size.X, s.Size.Y, s.Size.Z) =
      cond (r.2 != 0) (some (.inr (.inr (zero6, r.2)))) (some (.inl (((k + 1 : Nat) : Int), out.set k r.1, s.Frame.Turn, s.Frame.At.X, s.Frame.At.Y, s.Frame.At.Z, s.Size.X, s.Size.Y, s.Size.Z))) ∧
    r20_Faces_L1 s ((k : Int), out) = cond (r.2 != 0) (some (.inr (.inr (zero6, r.2)))) (some (.inl (((k + 1 : Nat) : Int), out.set k r.1))) := by
  obtain ⟨v, hv⟩ := idx6 ho hk
  have hw : w64 ((k : Int) + 1) = ((k + 1 : Nat) : Int) := by rw [w64_id (by omega)]; omega
  have sz := hs.2
  have key : ∀ (t : Nat) (a z : api_Vec), t < 24 → InV a (-1000000) → InV z 0 → raise_face s.Size (k : Int) = some ((t : Int), a, z) → r20_Faces_L1 s ((k : Int), out) = faceK (k : Int) out (r16_Inside s a z (t : Int)) → ∃ r : api_Scope × Int,
      raise_Faces_L1 ((k : Int), out, s.Frame.Turn, s.Frame.At.X, s.Frame.At.Y, s.Frame.At.Z, s.Size.X, s.Size.Y, s.Size.Z) =
      cond (r.2 != 0) (some (.inr (.inr (zero6, r.2)))) (some (.inl (((k + 1 : Nat) : Int), out.set k r.1, s.Frame.Turn, s.Frame.At.X, s.Frame.At.Y, s.Frame.At.Z, s.Size.X, s.Size.Y, s.Size.Z))) ∧
      r20_Faces_L1 s ((k : Int), out) = cond (r.2 != 0) (some (.inr (.inr (zero6, r.2)))) (some (.inl (((k + 1 : Nat) : Int), out.set k r.1))) := by
    intro t a z h24 ha hz hf hr
    obtain ⟨r, r1, r2⟩ := inside_same ht hs h24 ha hz
    refine ⟨r, ?_, ?_⟩
    · rw [raise_step (by omega) hf r1 ⟨v, hv⟩, hw]; rfl
    · rw [hr, r2]
      unfold faceK
      simp only [Option.bind_some, hv, hw]
      rfl
  have : k = 0 ∨ k = 1 ∨ k = 2 ∨ k = 3 ∨ k = 4 ∨ k = 5 := by omega
  unfold InV at sz
  rcases this with rfl | rfl | rfl | rfl | rfl | rfl
  · exact key 10 _ _ (by omega) (by unfold InV; simp only; omega) (by unfold InV; simp only; omega) (face_0 s) (r20_step_0 s out)
  · exact key 11 _ _ (by omega) (by unfold InV; simp only; omega) (by unfold InV; simp only; omega) (face_1 s) (r20_step_1 s out)
  · exact key 3 _ _ (by omega) (by unfold InV; simp only; omega) (by unfold InV; simp only; omega) (face_2 s) (r20_step_2 s out)
  · exact key 2 _ _ (by omega) (by unfold InV; simp only; omega) (by unfold InV; simp only; omega) (face_3 s) (r20_step_3 s out)
  · exact key 0 _ _ (by omega) (by unfold InV; simp only; omega) (by unfold InV; simp only; omega) (face_4 s) (r20_step_4 s out)
  · exact key 1 _ _ (by omega) (by unfold InV; simp only; omega) (by unfold InV; simp only; omega) (face_5 s) (r20_step_5 s out)
theorem faces_loops {s : api_Scope} (ht : 0 ≤ s.Frame.Turn) (hs : SOk s) : ∀ (m k : Nat) (out : List api_Scope), 6 - k = m → k ≤ 6 → out.length = 6 →
    ∃ b, loop raise_Faces_L1 ((k : Int), out, s.Frame.Turn, s.Frame.At.X, s.Frame.At.Y, s.Frame.At.Z, s.Size.X, s.Size.Y, s.Size.Z) = some b ∧ loop (r20_Faces_L1 s) ((k : Int), out) = some b ∧ ∀ o, b = .inl o → o.length = 6 := by
  intro m
  induction m with
  | zero =>
    intro k out hm hk ho
    obtain rfl : k = 6 := by omega
    exact ⟨.inl out, loop_done rfl, loop_done rfl, fun o h => by cases h; exact ho⟩
  | succ m ih =>
    intro k out hm hk ho
    obtain ⟨r, r1, r2⟩ := faces_step ht hs (show k < 6 by omega) ho
    by_cases e : (r.2 != 0) = true
    · rw [e, cond_true] at r1 r2
      exact ⟨_, loop_done r1, loop_done r2, fun o h => by cases h⟩
    · have e : (r.2 != 0) = false := by simpa using e
      rw [e, cond_false] at r1 r2
      rw [loop_next r1, loop_next r2]
      exact ih (k + 1) _ (by omega) (by omega) (by simpa using ho)
theorem faces_same (s : api_Scope) (ht : 0 ≤ s.Frame.Turn) : ∃ r, raise_Faces s = some r ∧ r20_Faces s = some r := by
  unfold raise_Faces r20_Faces
  rw [raise_checked_eq ht, Scoped_eq]
  by_cases hs : SOk s
  · rw [if_pos hs]
    have h0 : ((0 : Int) != 0) = false := rfl
    simp only [Option.bind_some, h0, cond_false]
    obtain ⟨b, b1, b2, b3⟩ := faces_loops ht hs 6 0 [zeroS, zeroS, zeroS, zeroS, zeroS, zeroS] (by omega) (by omega) rfl
    have b1 : loop raise_Faces_L1 (0, [zeroS, zeroS, zeroS, zeroS, zeroS, zeroS], s.Frame.Turn, s.Frame.At.X, s.Frame.At.Y, s.Frame.At.Z, s.Size.X, s.Size.Y, s.Size.Z) = some b := b1
    have b2 : loop (r20_Faces_L1 s) (0, [zeroS, zeroS, zeroS, zeroS, zeroS, zeroS]) = some b := b2
    unfold zeroS at b1 b2
    rw [b1, b2]
    cases b with
    | inr x => exact ⟨x, rfl, rfl⟩
    | inl o =>
      have ho := b3 o rfl
      match o, ho with
      | [a0, a1, a2, a3, a4, a5], _ => exact ⟨_, rfl, rfl⟩
  · rw [if_neg hs]; exact ⟨(zero6, 8), rfl, rfl⟩
theorem raise_same (s : api_Scope) (n : Int) (ht : 0 ≤ s.Frame.Turn) : ∃ r, raise_Raise s n = some r ∧ r20_Raise s n = some r := by
  unfold raise_Raise r20_Raise
  rw [raise_checked_eq ht, Scoped_eq]
  by_cases hs : SOk s
  · rw [if_pos hs]
    by_cases a : n < 0
    · simp only [decide_eq_true a]; exact ⟨_, rfl, rfl⟩
    · by_cases b : n > 1000000
      · simp only [decide_eq_false a, decide_eq_true b]; exact ⟨_, rfl, rfl⟩
      · simp only [decide_eq_false a, decide_eq_false b]; exact ⟨_, rfl, rfl⟩
  · rw [if_neg hs]; exact ⟨_, rfl, rfl⟩
theorem inset_same (s : api_Scope) (n : Int) (ht : 0 ≤ s.Frame.Turn) : ∃ r, raise_Inset s n = some r ∧ r20_Inset s n = some r := by
  unfold raise_Inset r20_Inset
  rw [raise_checked_eq ht, Scoped_eq]
  by_cases hs : SOk s
  · rw [if_pos hs]
    have h0 : ((0 : Int) != 0) = false := rfl
    simp only [Option.bind_some, h0, cond_false]
    by_cases a : n < 0
    · simp only [decide_eq_true a]; exact ⟨_, rfl, rfl⟩
    · by_cases b : n > 1000000
      · simp only [decide_eq_false a, decide_eq_true b]; exact ⟨_, rfl, rfl⟩
      · have i := hs.2
        unfold InV at i
        have e2 : w64 (2 * n) = 2 * n := w64_id (by omega)
        have ex : w64 (s.Size.X - 2 * n) = s.Size.X - 2 * n := w64_id (by omega)
        have ey : w64 (s.Size.Y - 2 * n) = s.Size.Y - 2 * n := w64_id (by omega)
        simp only [decide_eq_false a, decide_eq_false b, cond_false, Option.bind_some, e2, ex, ey]
        by_cases c : s.Size.X < 2 * n
        · have m : min (s.Size.X - 2 * n) (s.Size.Y - 2 * n) < 0 := by omega
          simp only [decide_eq_true c, decide_eq_true m, cond_true, Option.bind_some]; exact ⟨_, rfl, rfl⟩
        · by_cases d : s.Size.Y < 2 * n
          · have m : min (s.Size.X - 2 * n) (s.Size.Y - 2 * n) < 0 := by omega
            simp only [decide_eq_false c, decide_eq_true d, decide_eq_true m, cond_true, cond_false, Option.bind_some]; exact ⟨_, rfl, rfl⟩
          · have m : ¬ min (s.Size.X - 2 * n) (s.Size.Y - 2 * n) < 0 := by omega
            obtain ⟨r, r1, r2⟩ := inside_same (t := 0) (a := ⟨n, n, 0⟩) (z := ⟨s.Size.X - 2 * n, s.Size.Y - 2 * n, s.Size.Z⟩) ht hs (by omega) (by unfold InV; simp only; omega) (by unfold InV; simp only; omega)
            have r1 : frame_Inside s ⟨n, n, 0⟩ ⟨s.Size.X - 2 * n, s.Size.Y - 2 * n, s.Size.Z⟩ 0 = some r := r1
            have r2 : r16_Inside s ⟨n, n, 0⟩ ⟨s.Size.X - 2 * n, s.Size.Y - 2 * n, s.Size.Z⟩ 0 = some r := r2
            simp only [decide_eq_false c, decide_eq_false d, decide_eq_false m, cond_false, Option.bind_some, r1, r2]
            exact ⟨_, rfl, rfl⟩
  · rw [if_neg hs]; exact ⟨_, rfl, rfl⟩
/-- **THE LAW RaiseFaces.** -/
theorem raiseFaces (s : api_Scope) (n : Int) (ht : 0 ≤ s.Frame.Turn) : l20_RaiseFaces s n = some true := by
  unfold l20_RaiseFaces
  obtain ⟨a, a1, a2⟩ := faces_same s ht
  obtain ⟨b, b1, b2⟩ := raise_same s n ht
  obtain ⟨c, c1, c2⟩ := inset_same s n ht
  rw [a1, a2, b1, b2, c1, c2]
  simp only [Option.bind_some, beq_self_eq_true, Bool.and_self, cond_true]
end Go.Sh
