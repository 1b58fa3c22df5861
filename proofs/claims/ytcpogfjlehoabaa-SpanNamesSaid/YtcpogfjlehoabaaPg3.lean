/- PLAIN: the sorting of slices.SortFunc answers as the kit's plain sorting (3): bits, breakPatterns. -/
import Derived.Test.YtcpogfjlehoabaaPg2
namespace Go.Sh
open Go Go.Am

theorem wrapU64 (n : Int) : IntKind.u64.wrap n = n % 18446744073709551616 := by simp [IntKind.wrap, IntKind.bits, IntKind.signed]
theorem wrapU8 (n : Int) : IntKind.u8.wrap n = n % 256 := by simp [IntKind.wrap, IntKind.bits, IntKind.signed]
theorem xorU (a b : Nat) (ha : a < 18446744073709551616) (hb : b < 18446744073709551616) : xorI .u64 (a : Int) (b : Int) = ((a ^^^ b : Nat) : Int) := by
  have hx : a ^^^ b < 2 ^ 64 := Nat.xor_lt_two_pow (by omega) (by omega)
  unfold xorI
  rw [wrapU64]
  show ((BitVec.ofInt 64 (a : Int) ^^^ BitVec.ofInt 64 (b : Int)).toNat : Int) % _ = _
  rw [BitVec.ofInt_natCast, BitVec.ofInt_natCast, BitVec.toNat_xor, BitVec.toNat_ofNat, BitVec.toNat_ofNat, Nat.mod_eq_of_lt (a := a) (by omega), Nat.mod_eq_of_lt (a := b) (by omega)]
  omega
theorem andU (a b : Nat) (ha : a < 18446744073709551616) (hb : b < 18446744073709551616) : andI .u64 (a : Int) (b : Int) = ((a &&& b : Nat) : Int) := by
  have hx : a &&& b ≤ a := Nat.and_le_left
  unfold andI
  rw [wrapU64]
  show ((BitVec.ofInt 64 (a : Int) &&& BitVec.ofInt 64 (b : Int)).toNat : Int) % _ = _
  rw [BitVec.ofInt_natCast, BitVec.ofInt_natCast, BitVec.toNat_and, BitVec.toNat_ofNat, BitVec.toNat_ofNat, Nat.mod_eq_of_lt (a := a) (by omega), Nat.mod_eq_of_lt (a := b) (by omega)]
  omega

theorem xorshift_eq (X : Nat) (hX : X < 18446744073709551616) : g_xorshift_Next (X : Int) = some ((Sort.xorNextN X : Nat) : Int) := by
  obtain ⟨A, hA⟩ : ∃ A : Nat, A = X ^^^ (X * 8192 % 18446744073709551616) := ⟨_, rfl⟩
  obtain ⟨B, hB⟩ : ∃ B : Nat, B = A ^^^ (A / 128) := ⟨_, rfl⟩
  have lA : A < 18446744073709551616 := by rw [hA]; exact Nat.xor_lt_two_pow (n := 64) (by omega) (by omega)
  have lB : B < 18446744073709551616 := by rw [hB]; exact Nat.xor_lt_two_pow (n := 64) (by omega) (by omega)
  have e1 : xorI .u64 (X : Int) (IntKind.u64.wrap ((X : Int) * 2 ^ 13)) = (A : Int) := by
    rw [wrapU64, show ((X : Int) * 2 ^ 13 % 18446744073709551616) = ((X * 8192 % 18446744073709551616 : Nat) : Int) by omega, xorU _ _ hX (by omega), hA]
  have e2 : xorI .u64 (A : Int) (Int.fdiv (A : Int) (2 ^ 7)) = (B : Int) := by
    rw [Int.fdiv_eq_ediv_of_nonneg _ (by decide), show ((A : Int) / 2 ^ 7) = ((A / 128 : Nat) : Int) by omega, xorU _ _ lA (by omega), hB]
  have e3 : xorI .u64 (B : Int) (IntKind.u64.wrap ((B : Int) * 2 ^ 17)) = ((B ^^^ (B * 131072 % 18446744073709551616) : Nat) : Int) := by
    rw [wrapU64, show ((B : Int) * 2 ^ 17 % 18446744073709551616) = ((B * 131072 % 18446744073709551616 : Nat) : Int) by omega, xorU _ _ lB (by omega)]
  have hv : Sort.xorNextN X = B ^^^ (B * 131072 % 18446744073709551616) := by unfold Sort.xorNextN; simp only []; rw [← hA, ← hB]
  unfold g_xorshift_Next
  rw [e1, e2, e3, hv]

theorem tabLen : ∀ k : Nat, k < 256 → strIdx g_str (k : Int) = some ((Sort.bitsLen k : Nat) : Int) := by
  have key : ∀ k : Fin 256, (g_str[k.1]?).map (fun b => b.toNat) = some (Sort.bitsLen k.1) := by decide +kernel
  intro k hk
  have := key ⟨k, hk⟩
  unfold strIdx
  rw [if_pos (by omega), Int.toNat_natCast]
  simp only [Option.map_eq_some_iff] at this ⊢
  obtain ⟨b, h1, h2⟩ := this
  exact ⟨b, h1, by rw [h2]⟩

theorem bitsLen_shift (n k : Nat) (h : 2 ^ k ≤ n) : Sort.bitsLen n = Sort.bitsLen (n / 2 ^ k) + k := by
  have hp : 0 < 2 ^ k := Nat.two_pow_pos k
  apply Nat.le_antisymm
  · rw [Sort.bitsLen_le_iff]
    have := Sort.lt_two_pow_bitsLen (n / 2 ^ k)
    rw [Nat.pow_add]
    exact (Nat.div_lt_iff_lt_mul hp).1 this
  · have h2 : k < Sort.bitsLen n := by
      rcases Nat.lt_or_ge k (Sort.bitsLen n) with h3 | h3
      · exact h3
      · have := (Sort.bitsLen_le_iff n k).1 h3; omega
    have : Sort.bitsLen (n / 2 ^ k) ≤ Sort.bitsLen n - k := by
      rw [Sort.bitsLen_le_iff, Nat.div_lt_iff_lt_mul hp, ← Nat.pow_add, Nat.sub_add_cancel (by omega)]
      exact Sort.lt_two_pow_bitsLen n
    omega

theorem len_eq (n : Nat) (hn : n ≤ 1000000) : g_Len (n : Int) = some ((Sort.bitsLen n : Nat) : Int) := by
  unfold g_Len g_Len64
  have h0 : decide ((n : Int) ≥ 4294967296) = false := decide_eq_false (by omega)
  simp only [h0, cond_false, Option.bind_some]
  have fin : ∀ m s : Nat, m < 256 → s ≤ 16 → (strIdx g_str (IntKind.u8.wrap (m : Int))).bind (fun v10 => some (w64 ((s : Int) + (w64 v10)))) = some ((Sort.bitsLen m + s : Nat) : Int) := by
    intro m s hm hs
    rw [wrapU8, show ((m : Int) % 256) = (m : Int) by omega, tabLen m hm]
    have : Sort.bitsLen m ≤ 8 := (Sort.bitsLen_le_iff m 8).2 (by omega)
    rw [Option.bind_some, w64_id (x := ((Sort.bitsLen m : Nat) : Int)) (by omega), w64_id (by omega)]
    congr 1; omega
  by_cases h1 : n ≥ 65536
  · have t1 : decide ((n : Int) ≥ 65536) = true := decide_eq_true (by omega)
    have e : Int.fdiv (n : Int) (2 ^ 16) = ((n / 65536 : Nat) : Int) := by rw [Int.fdiv_eq_ediv_of_nonneg _ (by decide)]; omega
    have t2 : decide (((n / 65536 : Nat) : Int) ≥ 256) = false := decide_eq_false (by omega)
    have w : w64 (0 + 16) = ((16 : Nat) : Int) := by rw [w64_id (by omega)]; rfl
    simp only [t1, cond_true, Option.bind_some, e, t2, cond_false, w]
    rw [fin (n / 65536) 16 (by omega) (by omega), Option.bind_some, bitsLen_shift n 16 (by omega)]
  · have t1 : decide ((n : Int) ≥ 65536) = false := decide_eq_false (by omega)
    simp only [t1, cond_false, Option.bind_some]
    by_cases h2 : n ≥ 256
    · have t2 : decide ((n : Int) ≥ 256) = true := decide_eq_true (by omega)
      have e : Int.fdiv (n : Int) (2 ^ 8) = ((n / 256 : Nat) : Int) := by rw [Int.fdiv_eq_ediv_of_nonneg _ (by decide)]; omega
      have w : w64 (0 + 8) = ((8 : Nat) : Int) := by rw [w64_id (by omega)]; rfl
      simp only [t2, cond_true, Option.bind_some, e, w]
      rw [fin (n / 256) 8 (by omega) (by omega), Option.bind_some, bitsLen_shift n 8 (by omega)]
    · have t2 : decide ((n : Int) ≥ 256) = false := decide_eq_false (by omega)
      simp only [t2, cond_false, Option.bind_some]
      have := fin n 0 (by omega) (by omega)
      exact congrArg (fun o => Option.bind o some) this

theorem nextPow_eq (n : Nat) (hn : n ≤ 1000000) : g_nextPowerOfTwo (n : Int) = some ((1 <<< Sort.bitsLen n : Nat) : Int) := by
  unfold g_nextPowerOfTwo
  rw [wrapU64, show ((n : Int) % 18446744073709551616) = (n : Int) by omega, len_eq n hn]
  have hk : Sort.bitsLen n ≤ 20 := (Sort.bitsLen_le_iff n 20).2 (by omega)
  have h : (2 : Nat) ^ Sort.bitsLen n ≤ 2 ^ 20 := Nat.pow_le_pow_right (by decide) hk
  have e : min (Sort.bitsLen n) IntKind.u64.bits = Sort.bitsLen n := Nat.min_eq_left (by show _ ≤ 64; omega)
  simp only [Option.bind_some, shlK]
  rw [if_neg (by omega), Int.toNat_natCast, e, wrapU64, Nat.one_shiftLeft, Option.bind_some, show ((1 : Int) * (2 : Int) ^ Sort.bitsLen n) = ((2 ^ Sort.bitsLen n : Nat) : Int) by push_cast; omega]
  generalize (2 : Nat) ^ Sort.bitsLen n = p at h
  congr 1; omega

section
variable {T : Type} [Inhabited T] {P : T → Prop} {lt : T → T → Bool} {q : T → T → Option Int}

theorem breakStep_sim {a b n : Nat} (hb : b ≤ n) (h8 : 8 ≤ b - a) {d : Array T} (hd : AllP n P d) (k : Nat) (hk : k ≤ 2) (r : UInt64) :
    g_breakPatterns_L1 (a : Int) (b : Int) ((1 <<< Sort.bitsLen (b - a) : Nat) : Int) (((a + (b - a) / 4 * 2 - 1 + k : Nat) : Int), d.toList, ((r.toNat : Nat) : Int)) =
      some (.inl (((a + (b - a) / 4 * 2 - 1 + k + 1 : Nat) : Int), (Sort.breakStep a (b - a) (1 <<< Sort.bitsLen (b - a)) (r, d) (a + (b - a) / 4 * 2 - 1 + k)).2.toList, (((Sort.breakStep a (b - a) (1 <<< Sort.bitsLen (b - a)) (r, d) (a + (b - a) / 4 * 2 - 1 + k)).1.toNat : Nat) : Int))) ∧
      AllP n P (Sort.breakStep a (b - a) (1 <<< Sort.bitsLen (b - a)) (r, d) (a + (b - a) / 4 * 2 - 1 + k)).2 := by
  have hsz := hd.1
  have hn := hd.2.1
  have hr : r.toNat < 18446744073709551616 := r.toNat_lt
  have e0 : w64 ((b : Int) - (a : Int)) = ((b - a : Nat) : Int) := wsub (by omega) (by omega)
  have e1 : w64 (Int.tdiv ((b - a : Nat) : Int) 4) = (((b - a) / 4 : Nat) : Int) := by
    rw [Int.tdiv_eq_ediv_of_nonneg (by omega), w64_id (by omega)]; omega
  have e2 : w64 ((((b - a) / 4 : Nat) : Int) * 2) = (((b - a) / 4 * 2 : Nat) : Int) := by rw [w64_id (by omega)]; omega
  have e3 : w64 ((a : Int) + (((b - a) / 4 * 2 : Nat) : Int)) = ((a + (b - a) / 4 * 2 : Nat) : Int) := by rw [w64_id (by omega)]; omega
  have e4 : w64 (((a + (b - a) / 4 * 2 : Nat) : Int) + 1) = ((a + (b - a) / 4 * 2 + 1 : Nat) : Int) := w1p _ (by omega)
  have h0 : decide (((a + (b - a) / 4 * 2 - 1 + k : Nat) : Int) ≤ ((a + (b - a) / 4 * 2 + 1 : Nat) : Int)) = true := decide_eq_true (by omega)
  have hx := xorshift_eq r.toNat hr
  have hX : Sort.xorNextN r.toNat < 18446744073709551616 := Sort.xorNextN_lt _ hr
  have hk20 : Sort.bitsLen (b - a) ≤ 20 := (Sort.bitsLen_le_iff _ 20).2 (by omega)
  have hp20 : (2 : Nat) ^ Sort.bitsLen (b - a) ≤ 2 ^ 20 := Nat.pow_le_pow_right (by decide) hk20
  have hp1 : 0 < (2 : Nat) ^ Sort.bitsLen (b - a) := Nat.two_pow_pos _
  have hpl := Sort.two_pow_bitsLen_le (n := b - a) (by omega)
  have hone : (1 : Nat) <<< Sort.bitsLen (b - a) = 2 ^ Sort.bitsLen (b - a) := Nat.one_shiftLeft _
  have em : IntKind.u64.wrap (((1 <<< Sort.bitsLen (b - a) : Nat) : Int) - 1) = ((1 <<< Sort.bitsLen (b - a) - 1 : Nat) : Int) := by
    rw [wrapU64, hone]
    generalize (2 : Nat) ^ Sort.bitsLen (b - a) = p at hp20 hp1
    omega
  have hand : (Sort.xorNextN r.toNat) &&& (1 <<< Sort.bitsLen (b - a) - 1) < 2 ^ Sort.bitsLen (b - a) := by
    rw [hone]
    have : (Sort.xorNextN r.toNat) &&& (2 ^ Sort.bitsLen (b - a) - 1) ≤ 2 ^ Sort.bitsLen (b - a) - 1 := Nat.and_le_right
    omega
  have ea := andU (Sort.xorNextN r.toNat) (1 <<< Sort.bitsLen (b - a) - 1) hX (by rw [hone]; omega)
  unfold Sort.breakStep
  simp only [Sort.xorNext_toNat]
  generalize hm : (Sort.xorNextN r.toNat) &&& (1 <<< Sort.bitsLen (b - a) - 1) = m at hand ea
  have hm2 : m < 2 * (b - a) := by omega
  have ew : w64 (m : Int) = (m : Int) := w64_id (by omega)
  have eb : (cond (decide ((m : Int) ≥ ((b - a : Nat) : Int))) (some (w64 ((m : Int) - ((b - a : Nat) : Int)))) (some (m : Int))) = some (((if m ≥ b - a then m - (b - a) else m) : Nat) : Int) := by
    by_cases hc : m ≥ b - a
    · have t : decide ((m : Int) ≥ ((b - a : Nat) : Int)) = true := decide_eq_true (by omega)
      rw [t, cond_true, if_pos hc, wsub hc (by omega)]
    · have t : decide ((m : Int) ≥ ((b - a : Nat) : Int)) = false := decide_eq_false (by omega)
      rw [t, cond_false, if_neg hc]
  have ho : (if m ≥ b - a then m - (b - a) else m) < b - a := by split <;> omega
  generalize (if m ≥ b - a then m - (b - a) else m) = o at eb ho
  have eo : w64 ((a : Int) + (o : Int)) = ((a + o : Nat) : Int) := by rw [w64_id (by omega)]; omega
  refine ⟨?_, hd.swp (by omega) (by omega)⟩
  simp only [g_breakPatterns_L1, e0, e1, e2, e3, e4, h0, cond_true, hx, Option.bind_some, em, ea, ew, eb, eo, gx (d := d) (k := a + o) (by omega), gx (d := d) (k := a + (b - a) / 4 * 2 - 1 + k) (by omega), gxs (d := d) (k := a + o) (by omega), Int.toNat_natCast, gswp, w1p (a + (b - a) / 4 * 2 - 1 + k) (by omega)]

theorem breakPatterns_sim {a b n : Nat} (hb : b ≤ n) (hab : a < b) {d : Array T} (hd : AllP n P d) : g_breakPatterns q d.toList (a : Int) (b : Int) = some (Sort.breakPatterns d a b).toList := by
  have hn := hd.2.1
  have e0 : w64 ((b : Int) - (a : Int)) = ((b - a : Nat) : Int) := wsub (by omega) (by omega)
  unfold g_breakPatterns Sort.breakPatterns
  simp only [e0]
  by_cases h8 : b - a ≥ 8
  · have t : decide (((b - a : Nat) : Int) ≥ 8) = true := decide_eq_true (by omega)
    rw [t, cond_true, if_pos h8, nextPow_eq _ (by omega), Option.bind_some]
    have e1 : w64 (Int.tdiv ((b - a : Nat) : Int) 4) = (((b - a) / 4 : Nat) : Int) := by
      rw [Int.tdiv_eq_ediv_of_nonneg (by omega), w64_id (by omega)]; omega
    have e2 : w64 ((((b - a) / 4 : Nat) : Int) * 2) = (((b - a) / 4 * 2 : Nat) : Int) := by rw [w64_id (by omega)]; omega
    have e3 : w64 ((a : Int) + (((b - a) / 4 * 2 : Nat) : Int)) = ((a + (b - a) / 4 * 2 : Nat) : Int) := by rw [w64_id (by omega)]; omega
    have e4 : w64 (((a + (b - a) / 4 * 2 : Nat) : Int) - 1) = ((a + (b - a) / 4 * 2 - 1 : Nat) : Int) := by rw [w64_id (by omega)]; omega
    have e5 : IntKind.u64.wrap ((b - a : Nat) : Int) = (((UInt64.ofNat (b - a)).toNat : Nat) : Int) := by
      rw [wrapU64, UInt64.toNat_ofNat']; omega
    rw [e1, e2, e3, e4, e5]
    obtain ⟨s1, a1⟩ := breakStep_sim hb h8 hd 0 (by omega) (UInt64.ofNat (b - a))
    obtain ⟨s2, a2⟩ := breakStep_sim hb h8 a1 1 (by omega) (Sort.breakStep a (b - a) (1 <<< Sort.bitsLen (b - a)) (UInt64.ofNat (b - a), d) (a + (b - a) / 4 * 2 - 1 + 0)).1
    obtain ⟨s3, a3⟩ := breakStep_sim hb h8 a2 2 (by omega) (Sort.breakStep a (b - a) (1 <<< Sort.bitsLen (b - a)) ((Sort.breakStep a (b - a) (1 <<< Sort.bitsLen (b - a)) (UInt64.ofNat (b - a), d) (a + (b - a) / 4 * 2 - 1 + 0)).1, (Sort.breakStep a (b - a) (1 <<< Sort.bitsLen (b - a)) (UInt64.ofNat (b - a), d) (a + (b - a) / 4 * 2 - 1 + 0)).2) (a + (b - a) / 4 * 2 - 1 + 1)).1
    simp only [Nat.add_zero, Prod.eta] at s1 s2 s3 a1 a2 a3
    rw [loop_next s1, loop_next s2, loop_next s3]
    have hend : g_breakPatterns_L1 (T := T) (a : Int) (b : Int) ((1 <<< Sort.bitsLen (b - a) : Nat) : Int) (((a + (b - a) / 4 * 2 - 1 + 2 + 1 : Nat) : Int), (Sort.breakStep a (b - a) (1 <<< Sort.bitsLen (b - a)) (Sort.breakStep a (b - a) (1 <<< Sort.bitsLen (b - a)) (Sort.breakStep a (b - a) (1 <<< Sort.bitsLen (b - a)) (UInt64.ofNat (b - a), d) (a + (b - a) / 4 * 2 - 1)) (a + (b - a) / 4 * 2 - 1 + 1)) (a + (b - a) / 4 * 2 - 1 + 2)).2.toList, (((Sort.breakStep a (b - a) (1 <<< Sort.bitsLen (b - a)) (Sort.breakStep a (b - a) (1 <<< Sort.bitsLen (b - a)) (Sort.breakStep a (b - a) (1 <<< Sort.bitsLen (b - a)) (UInt64.ofNat (b - a), d) (a + (b - a) / 4 * 2 - 1)) (a + (b - a) / 4 * 2 - 1 + 1)) (a + (b - a) / 4 * 2 - 1 + 2)).1.toNat : Nat) : Int)) = some (.inr (Sort.breakStep a (b - a) (1 <<< Sort.bitsLen (b - a)) (Sort.breakStep a (b - a) (1 <<< Sort.bitsLen (b - a)) (Sort.breakStep a (b - a) (1 <<< Sort.bitsLen (b - a)) (UInt64.ofNat (b - a), d) (a + (b - a) / 4 * 2 - 1)) (a + (b - a) / 4 * 2 - 1 + 1)) (a + (b - a) / 4 * 2 - 1 + 2)).2.toList) := by
      have e6 : w64 (((a + (b - a) / 4 * 2 : Nat) : Int) + 1) = ((a + (b - a) / 4 * 2 + 1 : Nat) : Int) := w1p _ (by omega)
      have h0 : decide (((a + (b - a) / 4 * 2 - 1 + 2 + 1 : Nat) : Int) ≤ ((a + (b - a) / 4 * 2 + 1 : Nat) : Int)) = false := decide_eq_false (by omega)
      simp only [g_breakPatterns_L1, e0, e1, e2, e3, e6, h0, cond_false]
    rw [loop_done hend]
    rfl
  · have t : decide (((b - a : Nat) : Int) ≥ 8) = false := decide_eq_false (by omega)
    rw [t, cond_false, if_neg h8]
end
end Go.Sh
