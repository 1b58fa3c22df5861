/- PLAIN, SPLIT: the check of a split's parts. -/
import Derived.Test.YtbfdjpffambpfaaPs1
namespace Go.Sh
open Go Go.Am

theorem u64w (n : Int) : IntKind.u64.wrap n = n % 18446744073709551616 := by simp [IntKind.wrap, IntKind.bits, IntKind.signed]
theorem size_eq {x : Int} (h : I64 x) : ratio_size x = some (x.natAbs : Int) := by
  unfold ratio_size
  unfold I64 at h
  rw [u64w, u64w]
  by_cases hx : x < 0
  · simp only [hx, decide_true, cond_true]; congr 1; omega
  · simp only [hx, decide_false, cond_false]; congr 1; omega
theorem tmod_nat (k m : Nat) : (k : Int).tmod (m : Int) = ((k % m : Nat) : Int) := by
  rw [Int.tmod_eq_emod_of_nonneg (by omega)]; simp
theorem gcd_loop : ∀ (m k : Nat), loop ratio_gcd_L1 ((k : Int), (m : Int)) = some ((Nat.gcd k m : Nat) : Int) := by
  intro m
  induction m using Nat.strongRecOn with
  | _ m ih =>
    intro k
    by_cases h : m = 0
    · subst h
      exact loop_done (by simp [ratio_gcd_L1])
    · have hne : (((m : Int)) != 0) = true := by simp; omega
      have hs : ratio_gcd_L1 ((k : Int), (m : Int)) = some (.inl ((m : Int), ((k % m : Nat) : Int))) := by
        simp only [ratio_gcd_L1, hne, cond_true, remK]
        rw [if_neg (by omega), tmod_nat]; rfl
      rw [loop_next hs, ih (k % m) (Nat.mod_lt _ (by omega)) m, Nat.gcd_comm m, ← Nat.gcd_rec m k, Nat.gcd_comm]
theorem common_loop : ∀ (n : Nat) (a b : Int), b.natAbs = n → ∃ c, loop r01_common_L1 (a, b) = some c ∧ c.natAbs = Nat.gcd a.natAbs b.natAbs := by
  intro n
  induction n using Nat.strongRecOn with
  | _ n ih =>
    intro a b hn
    by_cases h : b = 0
    · subst h
      exact ⟨a, loop_done (by simp [r01_common_L1]), by simp⟩
    · have hne : (b != 0) = true := by simpa using h
      have hs : r01_common_L1 (a, b) = some (.inl (b, a.tmod b)) := by
        simp only [r01_common_L1, hne, cond_true, rem64]
        rw [if_neg h]; rfl
      have hm : (a.tmod b).natAbs = a.natAbs % b.natAbs := Int.natAbs_tmod _ _
      obtain ⟨c, h1, h2⟩ := ih (a.tmod b).natAbs (by rw [hm, ← hn]; exact Nat.mod_lt _ (by omega)) b (a.tmod b) rfl
      refine ⟨c, by rw [loop_next hs]; exact h1, ?_⟩
      rw [h2, hm, Nat.gcd_comm, ← Nat.gcd_rec, Nat.gcd_comm]

/-- A ratio in order. -/
def ROk (r : api_Ratio) : Prop := 1 ≤ r.Den ∧ r.Den ≤ 1000000000 ∧ -1000000000 ≤ r.Num ∧ r.Num ≤ 1000000000 ∧ Nat.gcd r.Num.natAbs r.Den.natAbs = 1
instance (r : api_Ratio) : Decidable (ROk r) := by unfold ROk; infer_instance
theorem ratio_Check_eq {r : api_Ratio} (h : I64 r.Num) : ratio_Check r = some (if ROk r then 0 else 8) := by
  unfold ratio_Check
  rw [size_eq h]
  by_cases a : r.Den < 1
  · rw [if_neg (fun h => by have := h.1; omega)]; simp [a]
  by_cases b : r.Den > 1000000000
  · rw [if_neg (fun h => by have := h.2.1; omega)]; simp [a, b]
  by_cases c : (r.Num.natAbs : Int) > 1000000000
  · rw [if_neg (fun h => by obtain ⟨_, _, h1, h2, _⟩ := h; omega)]
    have e1 : decide ((r.Num.natAbs : Int) > 1000000000) = true := decide_eq_true c
    have a1 : decide (r.Den < 1) = false := decide_eq_false a
    have b1 : decide (r.Den > 1000000000) = false := decide_eq_false b
    simp only [a1, b1, e1, cond_false, cond_true, Option.bind_some]
  have hw : IntKind.u64.wrap r.Den = ((r.Den.natAbs : Nat) : Int) := by rw [u64w]; omega
  have e : ratio_gcd (r.Num.natAbs : Int) (IntKind.u64.wrap r.Den) = some ((Nat.gcd r.Num.natAbs r.Den.natAbs : Nat) : Int) := by
    unfold ratio_gcd; rw [hw, gcd_loop]; rfl
  have e1 : decide ((r.Num.natAbs : Int) > 1000000000) = false := decide_eq_false c
  have a1 : decide (r.Den < 1) = false := decide_eq_false a
  have b1 : decide (r.Den > 1000000000) = false := decide_eq_false b
  simp only [a1, b1, e1, e, cond_false, Option.bind_some]
  by_cases g : Nat.gcd r.Num.natAbs r.Den.natAbs = 1
  · rw [if_pos ⟨by omega, by omega, by omega, by omega, g⟩, g]; rfl
  · rw [if_neg (fun h => g h.2.2.2.2)]
    have : (((Nat.gcd r.Num.natAbs r.Den.natAbs : Nat) : Int) != 1) = true := by
      rw [bne_iff_ne]; intro e; exact g (by exact_mod_cast e)
    rw [this]; rfl
theorem r01_Check_eq {r : api_Ratio} : r01_Check r = some (if ROk r then 0 else 8) := by
  unfold r01_Check
  by_cases a : r.Den < 1
  · rw [if_neg (fun h => by have := h.1; omega)]; simp [a]
  by_cases b : r.Den > 1000000000
  · rw [if_neg (fun h => by have := h.2.1; omega)]; simp [a, b]
  have a1 : decide (r.Den < 1) = false := decide_eq_false a
  have b1 : decide (r.Den > 1000000000) = false := decide_eq_false b
  by_cases c : r.Num < -1000000000
  · rw [if_neg (fun h => by obtain ⟨_, _, h1, h2, _⟩ := h; omega)]
    have c1 : decide (r.Num < -1000000000) = true := decide_eq_true c
    simp only [a1, b1, c1, cond_false, cond_true, Option.bind_some]
  have c1 : decide (r.Num < -1000000000) = false := decide_eq_false c
  by_cases d : r.Num > 1000000000
  · rw [if_neg (fun h => by obtain ⟨_, _, h1, h2, _⟩ := h; omega)]
    have d1 : decide (r.Num > 1000000000) = true := decide_eq_true d
    simp only [a1, b1, c1, d1, cond_false, cond_true, Option.bind_some]
  have d1 : decide (r.Num > 1000000000) = false := decide_eq_false d
  obtain ⟨c, h1, h2⟩ := common_loop _ r.Num r.Den rfl
  have hg : Nat.gcd r.Num.natAbs r.Den.natAbs ≤ r.Den.natAbs := Nat.gcd_le_right _ (by omega)
  have e : r01_common r.Num r.Den = some ((Nat.gcd r.Num.natAbs r.Den.natAbs : Nat) : Int) := by
    unfold r01_common; rw [h1, ← h2]
    simp only [Option.bind_some]
    by_cases hc : c < 0
    · simp only [hc, decide_true, cond_true]; rw [w64_id (by omega)]; congr 1; omega
    · simp only [hc, decide_false, cond_false]; congr 1; omega
  simp only [a1, b1, c1, d1, e, cond_false, Option.bind_some]
  by_cases g : Nat.gcd r.Num.natAbs r.Den.natAbs = 1
  · rw [if_pos ⟨by omega, by omega, by omega, by omega, g⟩, g]; rfl
  · rw [if_neg (fun h => g h.2.2.2.2)]
    have : (((Nat.gcd r.Num.natAbs r.Den.natAbs : Nat) : Int) != 1) = true := by
      rw [bne_iff_ne]; intro e; exact g (by exact_mod_cast e)
    rw [this]; rfl

/-- A part in order. -/
def VOk (p : api_Part) : Prop := (p.Kind = 1 ∧ 0 ≤ p.Size ∧ p.Size ≤ 1000000 ∧ p.Share.Num = 0 ∧ p.Share.Den = 0) ∨ (p.Kind = 3 ∧ 1 ≤ p.Size ∧ p.Size ≤ 1000000 ∧ p.Share.Num = 0 ∧ p.Share.Den = 0) ∨
  (p.Kind = 2 ∧ p.Size = 0 ∧ ROk p.Share ∧ 0 ≤ p.Share.Num ∧ p.Share.Num ≤ p.Share.Den)
instance (p : api_Part) : Decidable (VOk p) := by unfold VOk; infer_instance
theorem yes {P : Prop} [Decidable P] (h : P) : some true = some (decide P) := by rw [decide_eq_true h]
theorem no {P : Prop} [Decidable P] (h : ¬ P) : some false = some (decide P) := by rw [decide_eq_false h]
theorem zero_eq {r : api_Ratio} : ((r.Num == 0) && ((r.Den == 0) && true)) = decide (r.Num = 0 ∧ r.Den = 0) := by
  by_cases a : r.Num = 0 <;> by_cases b : r.Den = 0 <;> simp [a, b]
theorem split_valid_eq {p : api_Part} (h : I64 p.Share.Num) : split_valid p = some (decide (VOk p)) := by
  unfold split_valid
  rw [ratio_Check_eq h, zero_eq]
  by_cases k1 : p.Kind = 1
  · have e1 : (p.Kind == 1) = true := by simpa using k1
    simp only [e1, cond_true]
    by_cases a : p.Size ≥ 0
    · by_cases b : p.Size ≤ 1000000
      · by_cases c : p.Share.Num = 0 ∧ p.Share.Den = 0
        · simp only [decide_eq_true a, decide_eq_true b, decide_eq_true c, cond_true, Option.bind_some]; exact yes (.inl ⟨k1, a, b, c⟩)
        · simp only [decide_eq_true a, decide_eq_true b, decide_eq_false c, cond_true, cond_false, Option.bind_some]; exact no (fun h => by unfold VOk at h; omega)
      · simp only [decide_eq_true a, decide_eq_false b, cond_true, cond_false, Option.bind_some]; exact no (fun h => by unfold VOk at h; omega)
    · simp only [decide_eq_false a, cond_false, Option.bind_some]; exact no (fun h => by unfold VOk at h; omega)
  have e1 : (p.Kind == 1) = false := by simpa using k1
  by_cases k3 : p.Kind = 3
  · have e3 : (p.Kind == 3) = true := by simpa using k3
    simp only [e1, e3, cond_true, cond_false]
    by_cases a : p.Size ≥ 1
    · by_cases b : p.Size ≤ 1000000
      · by_cases c : p.Share.Num = 0 ∧ p.Share.Den = 0
        · simp only [decide_eq_true a, decide_eq_true b, decide_eq_true c, cond_true, Option.bind_some]; exact yes (.inr (.inl ⟨k3, a, b, c⟩))
        · simp only [decide_eq_true a, decide_eq_true b, decide_eq_false c, cond_true, cond_false, Option.bind_some]; exact no (fun h => by unfold VOk at h; omega)
      · simp only [decide_eq_true a, decide_eq_false b, cond_true, cond_false, Option.bind_some]; exact no (fun h => by unfold VOk at h; omega)
    · simp only [decide_eq_false a, cond_false, Option.bind_some]; exact no (fun h => by unfold VOk at h; omega)
  have e3 : (p.Kind == 3) = false := by simpa using k3
  by_cases k2 : p.Kind = 2
  · have e2 : (p.Kind == 2) = true := by simpa using k2
    simp only [e1, e2, e3, cond_true, cond_false, Option.bind_some]
    by_cases s : p.Size = 0
    · have es : (p.Size == 0) = true := by simpa using s
      simp only [es, cond_true, Option.bind_some]
      by_cases r : ROk p.Share
      · have er : ((if ROk p.Share then (0 : Int) else 8) == 0) = true := by rw [if_pos r]; rfl
        simp only [er, cond_true, Option.bind_some]
        by_cases a : p.Share.Num ≥ 0
        · by_cases b : p.Share.Num ≤ p.Share.Den
          · simp only [decide_eq_true a, decide_eq_true b, cond_true, Option.bind_some]; exact yes (.inr (.inr ⟨k2, s, r, a, b⟩))
          · simp only [decide_eq_true a, decide_eq_false b, cond_true, Option.bind_some]; exact no (fun h => by unfold VOk at h; omega)
        · simp only [decide_eq_false a, cond_true, cond_false, Option.bind_some]; exact no (fun h => by unfold VOk at h; omega)
      · have er : ((if ROk p.Share then (0 : Int) else 8) == 0) = false := by rw [if_neg r]; rfl
        simp only [er, cond_false, Option.bind_some]
        exact no (fun h => h.elim (fun h => by omega) (fun h => h.elim (fun h => by omega) (fun h => r h.2.2.1)))
    · have es : (p.Size == 0) = false := by simpa using s
      simp only [es, cond_false, Option.bind_some]; exact no (fun h => by unfold VOk at h; omega)
  · have e2 : (p.Kind == 2) = false := by simpa using k2
    simp only [e1, e2, e3, cond_false]; exact no (fun h => by unfold VOk at h; omega)
theorem r23_Valid_eq {p : api_Part} : r23_Valid p = some (decide (VOk p)) := by
  unfold r23_Valid
  rw [r01_Check_eq, zero_eq]
  by_cases k2 : p.Kind = 2
  · have e2 : (p.Kind == 2) = true := by simpa using k2
    simp only [e2, cond_true, Option.bind_some]
    by_cases s : p.Size = 0
    · have es : (p.Size == 0) = true := by simpa using s
      simp only [es, cond_true, Option.bind_some]
      by_cases r : ROk p.Share
      · have er : ((if ROk p.Share then (0 : Int) else 8) == 0) = true := by rw [if_pos r]; rfl
        simp only [er, cond_true, Option.bind_some]
        by_cases a : p.Share.Num ≥ 0
        · by_cases b : p.Share.Num ≤ p.Share.Den
          · simp only [decide_eq_true a, decide_eq_true b, cond_true, Option.bind_some]; exact yes (.inr (.inr ⟨k2, s, r, a, b⟩))
          · simp only [decide_eq_true a, decide_eq_false b, cond_true, Option.bind_some]; exact no (fun h => by unfold VOk at h; omega)
        · simp only [decide_eq_false a, cond_true, cond_false, Option.bind_some]; exact no (fun h => by unfold VOk at h; omega)
      · have er : ((if ROk p.Share then (0 : Int) else 8) == 0) = false := by rw [if_neg r]; rfl
        simp only [er, cond_false, Option.bind_some]
        exact no (fun h => h.elim (fun h => by omega) (fun h => h.elim (fun h => by omega) (fun h => r h.2.2.1)))
    · have es : (p.Size == 0) = false := by simpa using s
      simp only [es, cond_false, Option.bind_some]; exact no (fun h => by unfold VOk at h; omega)
  have e2 : (p.Kind == 2) = false := by simpa using k2
  simp only [e2, cond_false]
  have fin : (p.Kind = 1 ∨ p.Kind = 3) → (cond (!(decide (p.Share.Num = 0 ∧ p.Share.Den = 0))) (some false) ((cond (decide (p.Size ≥ 0)) (some (decide (p.Size ≤ 1000000))) (some false)).bind fun c70 => (cond c70 ((cond (decide (p.Size > 0)) (some true) (some (p.Kind == 1))).bind fun c93 => some c93) (some false)).bind fun c82 => some c82)) = some (decide (VOk p)) := by
    intro hk
    by_cases c : p.Share.Num = 0 ∧ p.Share.Den = 0
    · simp only [decide_eq_true c, Bool.not_true, cond_false]
      by_cases a : p.Size ≥ 0
      · by_cases b : p.Size ≤ 1000000
        · simp only [decide_eq_true a, decide_eq_true b, cond_true, Option.bind_some]
          by_cases d : p.Size > 0
          · simp only [decide_eq_true d, cond_true, Option.bind_some]
            exact yes (by unfold VOk; omega)
          · simp only [decide_eq_false d, cond_false, Option.bind_some]
            by_cases k1 : p.Kind = 1
            · have e1 : (p.Kind == 1) = true := by simpa using k1
              rw [e1]; exact yes (by unfold VOk; omega)
            · have e1 : (p.Kind == 1) = false := by simpa using k1
              rw [e1]; exact no (fun h => by unfold VOk at h; omega)
        · simp only [decide_eq_true a, decide_eq_false b, cond_true, cond_false, Option.bind_some]; exact no (fun h => by unfold VOk at h; omega)
      · simp only [decide_eq_false a, cond_false, Option.bind_some]; exact no (fun h => by unfold VOk at h; omega)
    · simp only [decide_eq_false c, Bool.not_false, cond_true]; exact no (fun h => by unfold VOk at h; omega)
  by_cases k1 : p.Kind = 1
  · have e1 : (p.Kind != 1) = false := by simpa using k1
    simp only [e1, cond_false, Option.bind_some]
    exact fin (.inl k1)
  · have e1 : (p.Kind != 1) = true := by simpa using k1
    by_cases k3 : p.Kind = 3
    · have e3 : (p.Kind != 3) = false := by simpa using k3
      simp only [e1, e3, cond_true, cond_false, Option.bind_some]
      exact fin (.inr k3)
    · have e3 : (p.Kind != 3) = true := by simpa using k3
      simp only [e1, e3, cond_true, Option.bind_some]; exact no (fun h => by unfold VOk at h; omega)

/-! ### Check -/
def AllOk (l : List api_Part) : Prop := ∀ p ∈ l, VOk p
instance (l : List api_Part) : Decidable (AllOk l) := by unfold AllOk; infer_instance
def chk (l : List api_Part) : Int := if 200 < l.length then 4 else if AllOk l then 0 else 8
def PartI (p : api_Part) : Prop := I64 p.Size ∧ I64 p.Share.Num ∧ I64 p.Share.Den
theorem split_Check_eq (l : List api_Part) (hI : ∀ p ∈ l, PartI p) : split_Check l = some (chk l) := by
  unfold split_Check chk
  by_cases h : 200 < l.length
  · have : decide ((l.length : Int) > 200) = true := decide_eq_true (by omega)
    simp only [this, cond_true, h, if_true]
  have : decide ((l.length : Int) > 200) = false := decide_eq_false (by omega)
  simp only [this, cond_false, h, if_false]
  have key := loop_rng (f := slices_IndexFunc_api_Part_api_Part_L1 l (fun x0 => split_Check_1 x0)) (σ := Unit) (fun k _ => (k : Int)) l.length (fun k _ => ∀ i (h : i < l.length), i < k → VOk l[i]) (fun b => (b = .inl () ∧ AllOk l) ∨ ∃ k : Nat, b = .inr (k : Int) ∧ ¬ AllOk l) ?_ ?_ (k0 := 0) (c0 := ()) (by omega) (fun i _ h => by omega)
  · obtain ⟨b, h1, h2⟩ := key
    have h1 : loop (slices_IndexFunc_api_Part_api_Part_L1 l (fun x0 => split_Check_1 x0)) 0 = some b := h1
    unfold slices_ContainsFunc_api_Part_api_Part slices_IndexFunc_api_Part_api_Part
    rw [h1]
    rcases h2 with ⟨rfl, h2⟩ | ⟨k, rfl, h2⟩
    · simp only [Option.bind_some, h2, if_true]; rfl
    · have : decide ((k : Int) ≥ 0) = true := decide_eq_true (by omega)
      simp only [Option.bind_some, h2, if_false, this, cond_true]
  · intro k _ hk hg
    have hb : decide ((k : Int) < (l.length : Int)) = true := decide_eq_true (by omega)
    simp only [slices_IndexFunc_api_Part_api_Part_L1, hb, cond_true, idx_lt hk, Option.bind_some, split_Check_1, split_valid_eq (hI _ (List.getElem_mem hk)).2.1]
    by_cases h : VOk l[k]
    · refine .inl ⟨(), ?_, fun i hi h' => ?_⟩
      · simp only [h, decide_true, Bool.not_true, cond_false]
        rw [w64_id (by omega)]; rfl
      · by_cases e : i = k
        · subst e; exact h
        · exact hg i hi (by omega)
    · exact .inr ⟨_, by simp only [h, decide_false, Bool.not_false, cond_true], .inr ⟨k, rfl, fun hn => h (hn _ (List.getElem_mem hk))⟩⟩
  · intro _ hg
    have hb : decide ((l.length : Int) < (l.length : Int)) = false := decide_eq_false (by omega)
    refine ⟨_, by simp only [slices_IndexFunc_api_Part_api_Part_L1, hb, cond_false], .inl ⟨rfl, fun x hx => ?_⟩⟩
    obtain ⟨i, hi, rfl⟩ := List.mem_iff_getElem.1 hx
    exact hg i hi hi
theorem r23_Check_eq (l : List api_Part) : r23_Check l = some (chk l) := by
  unfold r23_Check chk
  by_cases h : 200 < l.length
  · have : decide ((l.length : Int) > 200) = true := decide_eq_true (by omega)
    simp only [this, cond_true, h, if_true]
  have : decide ((l.length : Int) > 200) = false := decide_eq_false (by omega)
  simp only [this, cond_false, h, if_false]
  have key := loop_rng (f := r23_Check_L1 l) (σ := Unit) (fun k _ => (k : Int)) l.length (fun k _ => ∀ i (h : i < l.length), i < k → VOk l[i]) (fun b => (b = .inl () ∧ AllOk l) ∨ (b = .inr 8 ∧ ¬ AllOk l)) ?_ ?_ (k0 := 0) (c0 := ()) (by omega) (fun i _ h => by omega)
  · obtain ⟨b, h1, h2⟩ := key
    have h1 : loop (r23_Check_L1 l) 0 = some b := h1
    rw [h1]
    rcases h2 with ⟨rfl, h2⟩ | ⟨rfl, h2⟩
    · simp only [Option.bind_some, h2, if_true]
    · simp only [Option.bind_some, h2, if_false]
  · intro k _ hk hg
    have hb : decide ((k : Int) < (l.length : Int)) = true := decide_eq_true (by omega)
    simp only [r23_Check_L1, hb, cond_true, idx_lt hk, Option.bind_some, r23_Valid_eq]
    by_cases h : VOk l[k]
    · refine .inl ⟨(), ?_, fun i hi h' => ?_⟩
      · simp only [h, decide_true, Bool.not_true, cond_false]
        rw [w64_id (by omega)]; rfl
      · by_cases e : i = k
        · subst e; exact h
        · exact hg i hi (by omega)
    · exact .inr ⟨_, by simp only [h, decide_false, Bool.not_false, cond_true], .inr ⟨rfl, fun hn => h (hn _ (List.getElem_mem hk))⟩⟩
  · intro _ hg
    have hb : decide ((l.length : Int) < (l.length : Int)) = false := decide_eq_false (by omega)
    refine ⟨_, by simp only [r23_Check_L1, hb, cond_false], .inl ⟨rfl, fun x hx => ?_⟩⟩
    obtain ⟨i, hi, rfl⟩ := List.mem_iff_getElem.1 hx
    exact hg i hi hi
end Go.Sh
