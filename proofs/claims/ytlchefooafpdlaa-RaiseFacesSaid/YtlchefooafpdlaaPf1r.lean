/- PLAIN, FRAMES: turns by a table, images, frames within frames: both sides answer the same. -/
import Derived.Test.YtlchefooafpdlaaPl0
import Derived.Test.YtlchefooafpdlaaPraise
namespace Go.Sh
open Go Go.Am

theorem u8_nonneg {n : Int} (h : (Lit.int .u8 n).wf = true) : 0 ≤ n := by
  simp [Lit.wf, IntKind.min, IntKind.max, IntKind.signed, IntKind.bits] at h
  omega
abbrev V3 := api_Vec × api_Vec × api_Vec
def zeroV : api_Vec := ⟨0, 0, 0⟩
/-- The images of the axes by turn t. -/
noncomputable def axT (t : Nat) : V3 := match frame_axes (t : Int) with
  | some m => m
  | none => (zeroV, zeroV, zeroV)
theorem frame_axes_nat : ∀ t : Nat, t < 24 → frame_axes (t : Int) = some (axT t) := by decide +kernel
noncomputable def restT (t : Nat) : List Int := match iter (r16_Images_L1 (t : Int)) 7 (0, []) with
  | some b => b
  | none => []
theorem images_iter : ∀ t : Nat, t < 24 → iter (r16_Images_L1 (t : Int)) 7 (0, []) = some (restT t) := by decide +kernel
theorem images_rest : ∀ t : Nat, t < 24 → ((idx (restT t) (Int.tmod (t : Int) 4)).bind fun v21 => (r16_Direction (w64 (Int.tdiv (t : Int) 4))).bind fun r23 => (r16_Direction v21).bind fun r25 => (r16_Direction (w64 (Int.tdiv (t : Int) 4))).bind fun r27 => (r16_Direction v21).bind fun r29 => (r16_Cross r27 r29).bind fun r31 => some (r23, r25, r31)) = some (axT t) := by decide +kernel
theorem images_nat (t : Nat) (h : t < 24) : r16_Images (t : Int) = some (axT t) := by
  unfold r16_Images
  rw [loop_iff.2 ⟨7, images_iter t h⟩]
  exact images_rest t h
def Unit1 (v : api_Vec) : Prop := -1 ≤ v.X ∧ v.X ≤ 1 ∧ -1 ≤ v.Y ∧ v.Y ≤ 1 ∧ -1 ≤ v.Z ∧ v.Z ≤ 1
instance (v : api_Vec) : Decidable (Unit1 v) := by unfold Unit1; infer_instance
theorem axT_unit : ∀ t : Nat, t < 24 → Unit1 (axT t).1 ∧ Unit1 (axT t).2.1 ∧ Unit1 (axT t).2.2 := by decide +kernel
theorem axT_inj : ∀ t : Nat, t < 24 → ∀ u : Nat, u < 24 → axT t = axT u → t = u := by decide +kernel
theorem axT_zero : axT 0 = (⟨1, 0, 0⟩, ⟨0, 1, 0⟩, ⟨0, 0, 1⟩) := by decide +kernel

def mulV (m : V3) (v : api_Vec) : api_Vec := ⟨v.X * m.1.X + v.Y * m.2.1.X + v.Z * m.2.2.X, v.X * m.1.Y + v.Y * m.2.1.Y + v.Z * m.2.2.Y, v.X * m.1.Z + v.Y * m.2.1.Z + v.Z * m.2.2.Z⟩
def addV (a b : api_Vec) : api_Vec := ⟨a.X + b.X, a.Y + b.Y, a.Z + b.Z⟩
/-- All coordinates from -n to n. -/
def Within1 (v : api_Vec) (n : Int) : Prop := -n ≤ v.X ∧ v.X ≤ n ∧ -n ≤ v.Y ∧ v.Y ≤ n ∧ -n ≤ v.Z ∧ v.Z ≤ n
theorem mul_unit {a b : Int} {n : Int} (ha : -n ≤ a ∧ a ≤ n) (hb : -1 ≤ b ∧ b ≤ 1) : -n ≤ a * b ∧ a * b ≤ n := by
  have : b = -1 ∨ b = 0 ∨ b = 1 := by omega
  rcases this with rfl | rfl | rfl <;> simp <;> omega
theorem mulV_bd {m : V3} {v : api_Vec} {n : Int} (hm : Unit1 m.1 ∧ Unit1 m.2.1 ∧ Unit1 m.2.2) (hv : Within1 v n) :
    (∀ a ∈ [v.X * m.1.X, v.Y * m.2.1.X, v.Z * m.2.2.X, v.X * m.1.Y, v.Y * m.2.1.Y, v.Z * m.2.2.Y, v.X * m.1.Z, v.Y * m.2.1.Z, v.Z * m.2.2.Z], -n ≤ a ∧ a ≤ n) := by
  obtain ⟨⟨a1, a2, a3, a4, a5, a6⟩, ⟨b1, b2, b3, b4, b5, b6⟩, ⟨c1, c2, c3, c4, c5, c6⟩⟩ := hm
  obtain ⟨v1, v2, v3, v4, v5, v6⟩ := hv
  intro a ha
  simp only [List.mem_cons, List.not_mem_nil, or_false] at ha
  rcases ha with rfl | rfl | rfl | rfl | rfl | rfl | rfl | rfl | rfl <;> exact mul_unit ⟨by assumption, by assumption⟩ ⟨by assumption, by assumption⟩
theorem mulV_in {m : V3} {v : api_Vec} {n : Int} (hm : Unit1 m.1 ∧ Unit1 m.2.1 ∧ Unit1 m.2.2) (hv : Within1 v n) : Within1 (mulV m v) (3 * n) := by
  have b := mulV_bd hm hv
  simp only [List.mem_cons, List.not_mem_nil, or_false, forall_eq_or_imp, forall_eq] at b
  unfold Within1 mulV
  simp only
  omega
theorem frame_sum_eq {m : V3} {v : api_Vec} (hm : Unit1 m.1 ∧ Unit1 m.2.1 ∧ Unit1 m.2.2) (hv : Within1 v 1000000000000) : frame_sum m v = some (mulV m v) := by
  have b := mulV_bd hm hv
  simp only [List.mem_cons, List.not_mem_nil, or_false, forall_eq_or_imp, forall_eq] at b
  unfold frame_sum mulV
  congr 2
  · rw [w64_id (x := v.X * m.1.X) (by omega), w64_id (x := v.Y * m.2.1.X) (by omega), w64_id (x := v.Z * m.2.2.X) (by omega), w64_id (x := v.X * m.1.X + _) (by omega), w64_id (by omega)]
  · rw [w64_id (x := v.X * m.1.Y) (by omega), w64_id (x := v.Y * m.2.1.Y) (by omega), w64_id (x := v.Z * m.2.2.Y) (by omega), w64_id (x := v.X * m.1.Y + _) (by omega), w64_id (by omega)]
  · rw [w64_id (x := v.X * m.1.Z) (by omega), w64_id (x := v.Y * m.2.1.Z) (by omega), w64_id (x := v.Z * m.2.2.Z) (by omega), w64_id (x := v.X * m.1.Z + _) (by omega), w64_id (by omega)]
theorem r16_Sum_eq {m : V3} {v : api_Vec} (hm : Unit1 m.1 ∧ Unit1 m.2.1 ∧ Unit1 m.2.2) (hv : Within1 v 1000000000000) : r16_Sum m v = some (mulV m v) := by
  have b := mulV_bd hm hv
  simp only [List.mem_cons, List.not_mem_nil, or_false, forall_eq_or_imp, forall_eq] at b
  unfold r16_Sum r16_Times r16_Plus mulV
  simp only [Option.bind_some]
  congr 2
  · rw [w64_id (x := v.X * m.1.X) (by omega), w64_id (x := v.Y * m.2.1.X) (by omega), w64_id (x := v.Z * m.2.2.X) (by omega), w64_id (x := v.Y * m.2.1.X + _) (by omega), w64_id (by omega)]; omega
  · rw [w64_id (x := v.X * m.1.Y) (by omega), w64_id (x := v.Y * m.2.1.Y) (by omega), w64_id (x := v.Z * m.2.2.Y) (by omega), w64_id (x := v.Y * m.2.1.Y + _) (by omega), w64_id (by omega)]; omega
  · rw [w64_id (x := v.X * m.1.Z) (by omega), w64_id (x := v.Y * m.2.1.Z) (by omega), w64_id (x := v.Z * m.2.2.Z) (by omega), w64_id (x := v.Y * m.2.1.Z + _) (by omega), w64_id (by omega)]; omega

/-- The image of a vector. -/
noncomputable def imageT (t : Nat) (at_ v : api_Vec) : api_Vec := addV (mulV (axT t) v) at_
theorem frame_image_eq {f : api_Frame} {t : Nat} {v : api_Vec} (ht : f.Turn = t) (h : t < 24) (ha : Within1 f.At 1000000000000) (hv : Within1 v 1000000000000) : frame_image f v = some (imageT t f.At v) := by
  have hu := axT_unit t h
  unfold frame_image
  rw [ht, frame_axes_nat t h]
  simp only [Option.bind_some, frame_sum_eq hu hv]
  have b := mulV_in hu hv
  unfold Within1 at b ha
  unfold imageT addV
  rw [w64_id (by omega), w64_id (by omega), w64_id (by omega)]
theorem r16_Image_eq {f : api_Frame} {t : Nat} {v : api_Vec} (ht : f.Turn = t) (h : t < 24) (ha : Within1 f.At 1000000000000) (hv : Within1 v 1000000000000) : r16_Image f v = some (imageT t f.At v) := by
  have hu := axT_unit t h
  unfold r16_Image
  rw [ht, w64_id (by omega), images_nat t h]
  simp only [Option.bind_some, r16_Sum_eq hu hv]
  have b := mulV_in hu hv
  unfold Within1 at b ha
  unfold imageT addV r16_Plus
  simp only [Option.bind_some]
  rw [w64_id (by omega), w64_id (by omega), w64_id (by omega)]

/-- The turn with some images. -/
theorem named_eq {u : Nat} (h : u < 24) : frame_named (axT u) = some (u : Int) := by
  have key := loop_rng (f := frame_named_L1 (axT u)) (σ := Unit) (fun k _ => (k : Int)) 24 (fun k _ => k ≤ u) (fun b => b = .inr (u : Int)) ?_ ?_ (k0 := 0) (c0 := ()) (by omega) (by omega)
  · obtain ⟨b, h1, rfl⟩ := key
    have h1 : loop (frame_named_L1 (axT u)) 0 = some (.inr (u : Int)) := h1
    unfold frame_named; rw [h1]; rfl
  · intro k _ hk hku
    have hb : decide ((k : Int) < 24) = true := decide_eq_true (by omega)
    simp only [frame_named_L1, hb, cond_true, frame_axes_nat k hk, Option.bind_some]
    by_cases e : k = u
    · subst e
      exact .inr ⟨.inr (k : Int), by simp, rfl⟩
    · have hne : axT k ≠ axT u := fun he => e (axT_inj k hk u h he)
      refine .inl ⟨(), ?_, by omega⟩
      have hw : IntKind.u8.wrap ((k : Int) + 1) = ((k + 1 : Nat) : Int) := by
        simp [IntKind.wrap, IntKind.bits, IntKind.signed]; omega
      have hbeq : ((axT k).1.X == (axT u).1.X && ((axT k).1.Y == (axT u).1.Y && ((axT k).1.Z == (axT u).1.Z && ((axT k).2.1.X == (axT u).2.1.X && ((axT k).2.1.Y == (axT u).2.1.Y && ((axT k).2.1.Z == (axT u).2.1.Z && ((axT k).2.2.X == (axT u).2.2.X && ((axT k).2.2.Y == (axT u).2.2.Y && ((axT k).2.2.Z == (axT u).2.2.Z && true))))))))) = false := by
        rw [Bool.eq_false_iff]
        intro hh
        simp only [Bool.and_eq_true, beq_iff_eq] at hh
        apply hne
        generalize axT k = a at hh ⊢
        generalize axT u = b at hh ⊢
        obtain ⟨⟨a1, a2, a3⟩, ⟨a4, a5, a6⟩, ⟨a7, a8, a9⟩⟩ := a
        obtain ⟨⟨b1, b2, b3⟩, ⟨b4, b5, b6⟩, ⟨b7, b8, b9⟩⟩ := b
        simp only at hh
        obtain ⟨rfl, rfl, rfl, rfl, rfl, rfl, rfl, rfl, rfl, _⟩ := hh
        rfl
      rw [hbeq, hw]; rfl
  · intro _ hi; omega

/-! ### Turns one behind the other -/
def compV (n m : V3) : V3 := (mulV n m.1, mulV n m.2.1, mulV n m.2.2)
noncomputable def compI (t u : Nat) : Nat := match (List.range 24).find? (fun v => decide (axT v = compV (axT u) (axT t))) with
  | some v => v
  | none => 0
theorem compI_ok : ∀ t : Nat, t < 24 → ∀ u : Nat, u < 24 → compI t u < 24 ∧ axT (compI t u) = compV (axT u) (axT t) := by decide +kernel
theorem compI_zero : ∀ u : Nat, u < 24 → compI 0 u = u := by decide +kernel
theorem unit_in {v : api_Vec} (h : Unit1 v) : Within1 v 1000000000000 := by unfold Unit1 at h; unfold Within1; omega
theorem within_eq {f g : api_Frame} {t u : Nat} (ht : f.Turn = t) (hu : g.Turn = u) (h : t < 24) (h' : u < 24) (hf : Within1 f.At 1000000000000) (hg : Within1 g.At 1000000000000) : frame_within f g = some ⟨(compI t u : Nat), imageT u g.At f.At⟩ := by
  have au := axT_unit u h'
  obtain ⟨b1, b2, b3⟩ := axT_unit t h
  unfold frame_within
  rw [ht, hu, frame_axes_nat t h, frame_axes_nat u h']
  simp only [Option.bind_some]
  have s1 := frame_sum_eq au (unit_in b1)
  have s2 := frame_sum_eq au (unit_in b2)
  have s3 := frame_sum_eq au (unit_in b3)
  have key : loop (frame_within_L1 (axT u)) (0, [(axT t).1, (axT t).2.1, (axT t).2.2]) = some [mulV (axT u) (axT t).1, mulV (axT u) (axT t).2.1, mulV (axT u) (axT t).2.2] := by
    rw [loop_next (a' := ((1 : Int), [mulV (axT u) (axT t).1, (axT t).2.1, (axT t).2.2])) (by simp [frame_within_L1, idxA, s1, w64_id])]
    rw [loop_next (a' := ((2 : Int), [mulV (axT u) (axT t).1, mulV (axT u) (axT t).2.1, (axT t).2.2])) (by simp [frame_within_L1, idxA, s2, w64_id])]
    rw [loop_next (a' := ((3 : Int), [mulV (axT u) (axT t).1, mulV (axT u) (axT t).2.1, mulV (axT u) (axT t).2.2])) (by simp [frame_within_L1, idxA, s3, w64_id])]
    exact loop_done (by simp [frame_within_L1])
  rw [key]
  simp only [Option.bind_some, arr3]
  obtain ⟨c1, c2⟩ := compI_ok t h u h'
  have : (mulV (axT u) (axT t).1, mulV (axT u) (axT t).2.1, mulV (axT u) (axT t).2.2) = axT (compI t u) := c2.symm
  rw [this, named_eq c1, frame_image_eq hu h' hg hf]
  rfl

/-! ### Checks -/
def InV (v : api_Vec) (lo : Int) : Prop := lo ≤ v.X ∧ v.X ≤ 1000000 ∧ lo ≤ v.Y ∧ v.Y ≤ 1000000 ∧ lo ≤ v.Z ∧ v.Z ≤ 1000000
instance (v : api_Vec) (lo : Int) : Decidable (InV v lo) := by unfold InV; infer_instance
theorem fine_eq (v : api_Vec) (lo : Int) : frame_fine v lo = some (decide (InV v lo)) := by
  unfold frame_fine
  by_cases a : min (min v.X v.Y) v.Z ≥ lo
  · by_cases b : max (max v.X v.Y) v.Z ≤ 1000000
    · have : InV v lo := by unfold InV; omega
      simp only [decide_eq_true a, decide_eq_true b, decide_eq_true this, cond_true, Option.bind_some]
    · have : ¬ InV v lo := by unfold InV; omega
      simp only [decide_eq_true a, decide_eq_false b, decide_eq_false this, cond_true, Option.bind_some]
  · have : ¬ InV v lo := by unfold InV; omega
    simp only [decide_eq_false a, decide_eq_false this, cond_false, Option.bind_some]
theorem In_eq (v : api_Vec) (lo : Int) : r16_In v lo = some (decide (InV v lo)) := by
  unfold r16_In InV
  by_cases a : v.X ≥ lo <;> by_cases b : v.Y ≥ lo <;> by_cases c : v.Z ≥ lo <;> by_cases d : v.X ≤ 1000000 <;> by_cases e : v.Y ≤ 1000000 <;> by_cases f : v.Z ≤ 1000000 <;> simp [a, b, c, d, e, f] <;> omega
def FOk (f : api_Frame) : Prop := f.Turn < 24 ∧ InV f.At (-1000000)
instance (f : api_Frame) : Decidable (FOk f) := by unfold FOk; infer_instance
def SOk (s : api_Scope) : Prop := FOk s.Frame ∧ InV s.Size 0
instance (s : api_Scope) : Decidable (SOk s) := by unfold SOk; infer_instance
theorem check_any {P Q : Prop} [Decidable P] [Decidable Q] {R : Prop} [Decidable R] (h : R ↔ P ∧ Q) : ((cond (decide (¬ P)) (some true) ((some (decide Q)).bind fun r10 => some (!r10))).bind fun c3 => cond c3 (some (8 : Int)) (some 0)) = some (if R then 0 else 8) := by
  by_cases p : P <;> by_cases q : Q <;> simp [p, q, h]
theorem frame_Check_eq (f : api_Frame) : frame_Check f = some (if FOk f then 0 else 8) := by
  unfold frame_Check
  rw [fine_eq]
  have e : decide (f.Turn ≥ 24) = decide (¬ f.Turn < 24) := by rw [decide_eq_decide]; omega
  rw [e]
  exact check_any Iff.rfl
theorem r16_Check_eq (f : api_Frame) : r16_Check f = some (if FOk f then 0 else 8) := by
  unfold r16_Check
  rw [In_eq]
  have e : decide (f.Turn ≥ 24) = decide (¬ f.Turn < 24) := by rw [decide_eq_decide]; omega
  rw [e]
  exact check_any Iff.rfl
theorem ne_if {P : Prop} [Decidable P] {a : Int} (h : a ≠ 0) : ((if P then (0 : Int) else a) != 0) = decide (¬ P) := by
  by_cases p : P <;> simp [p, h]
theorem checked_eq (s : api_Scope) : frame_checked s = some (if SOk s then 0 else 8) := by
  unfold frame_checked
  rw [frame_Check_eq, fine_eq]
  simp only [Option.bind_some, ne_if (show (8 : Int) ≠ 0 by omega)]
  exact check_any Iff.rfl
theorem Scoped_eq (s : api_Scope) : r16_Scoped s = some (if SOk s then 0 else 8) := by
  unfold r16_Scoped
  rw [r16_Check_eq, In_eq]
  simp only [Option.bind_some, ne_if (show (8 : Int) ≠ 0 by omega)]
  exact check_any Iff.rfl
theorem in_within {v : api_Vec} {lo : Int} (h : InV v lo) (hl : -1000000 ≤ lo) : Within1 v 1000000000000 := by unfold InV at h; unfold Within1; omega

def zeroF : api_Frame := ⟨0, ⟨0, 0, 0⟩⟩
def zeroS : api_Scope := ⟨⟨0, ⟨0, 0, 0⟩⟩, ⟨0, 0, 0⟩⟩
theorem Within_eq {f g : api_Frame} {t u : Nat} (ht : f.Turn = t) (hu : g.Turn = u) (hf : FOk f) (hg : FOk g) :
    frame_Within f g = some (if FOk ⟨(compI t u : Nat), imageT u g.At f.At⟩ then (⟨(compI t u : Nat), imageT u g.At f.At⟩, 0) else (zeroF, 16)) := by
  unfold frame_Within
  rw [frame_Check_eq, frame_Check_eq, if_pos hf, if_pos hg]
  have h1 : ((0 : Int) != 0) = false := rfl
  simp only [Option.bind_some, h1, cond_false]
  have t24 : t < 24 := by have := hf.1; omega
  have u24 : u < 24 := by have := hg.1; omega
  rw [within_eq ht hu t24 u24 (in_within hf.2 (by omega)) (in_within hg.2 (by omega))]
  simp only [Option.bind_some, frame_Check_eq]
  by_cases h : FOk ⟨(compI t u : Nat), imageT u g.At f.At⟩
  · simp only [if_pos h]; rfl
  · simp only [if_neg h]; rfl
/-- A scope within another one. -/
theorem Inside_eq {s : api_Scope} {a z : api_Vec} {t u : Nat} (hu : s.Frame.Turn = u) (hs : SOk s) (h24 : t < 24) (ha : InV a (-1000000)) (hz : InV z 0) :
    frame_Inside s a z (t : Int) = some (if FOk ⟨(compI t u : Nat), imageT u s.Frame.At a⟩ then (⟨⟨(compI t u : Nat), imageT u s.Frame.At a⟩, z⟩, 0) else (zeroS, 16)) := by
  unfold frame_Inside
  have hf : FOk ⟨(t : Int), a⟩ := ⟨by show (t : Int) < 24; omega, ha⟩
  rw [checked_eq, if_pos hs, frame_Check_eq, if_pos hf, fine_eq, decide_eq_true hz]
  have h1 : ((0 : Int) != 0) = false := rfl
  simp only [Option.bind_some, h1, cond_false, Bool.not_true]
  rw [Within_eq (f := ⟨(t : Int), a⟩) rfl hu hf hs.1]
  by_cases h : FOk ⟨(compI t u : Nat), imageT u s.Frame.At a⟩
  · simp only [if_pos h]; rfl
  · simp only [if_neg h]; rfl
theorem Inside_bad {s : api_Scope} {a z : api_Vec} {t : Int} (hs : ¬ SOk s) : frame_Inside s a z t = some (zeroS, 8) := by
  unfold frame_Inside
  rw [checked_eq, if_neg hs]
  rfl
theorem image_zero (u : Nat) (a : api_Vec) : imageT u a ⟨0, 0, 0⟩ = a := by
  unfold imageT addV mulV; simp
end Go.Sh
