/- PLAIN: rules for the lifted functions. -/
import Derived.Test.YtlchefooafpdlaaLf1
namespace Go.Sh
open Go Go.Am

theorem idx_nat {α : Type} (xs : List α) (k : Nat) : idx xs (k : Int) = xs[k]? := by simp [idx]
theorem idx_lt {α : Type} {xs : List α} {k : Nat} (h : k < xs.length) : idx xs (k : Int) = some xs[k] := by simp [idx, h]
theorem idx_of {α : Type} {xs : List α} {i : Int} {k : Nat} (hi : i = k) (h : k < xs.length) : idx xs i = some xs[k] := by subst hi; exact idx_lt h
theorem app_of {α : Type} {c : Nat} {xs ys : List α} (h : (xs.length + ys.length) * (c * 4) ≤ 4294967296) : app c xs ys = some (xs ++ ys) := by simp [app, h]
theorem cond_bind {α β : Type} {c : Bool} {a b : Option α} {f : α → Option β} : (cond c a b).bind f = cond c (a.bind f) (b.bind f) := by cases c <;> rfl
theorem cond_some {α : Type} {c : Bool} {a b : α} : (cond c (some a) (some b)) = some (cond c a b) := by cases c <;> rfl

/-- A loop that counts: total correctness. -/
theorem loop_rng {α β σ : Type} {f : α → Option (α ⊕ β)} (mk : Nat → σ → α) (n : Nat) (I : Nat → σ → Prop) (Q : β → Prop)
    (step : ∀ k c, k < n → I k c → (∃ c', f (mk k c) = some (.inl (mk (k + 1) c')) ∧ I (k + 1) c') ∨ ∃ b, f (mk k c) = some (.inr b) ∧ Q b)
    (done : ∀ c, I n c → ∃ b, f (mk n c) = some (.inr b) ∧ Q b) {k0 : Nat} {c0 : σ} (hk : k0 ≤ n) (h0 : I k0 c0) : ∃ b, loop f (mk k0 c0) = some b ∧ Q b := by
  have key : ∀ m k c, n - k = m → k ≤ n → I k c → ∃ b, loop f (mk k c) = some b ∧ Q b := by
    intro m
    induction m with
    | zero =>
      intro k c hm hk hi
      obtain rfl : k = n := by omega
      obtain ⟨b, h1, h2⟩ := done c hi
      exact ⟨b, loop_done h1, h2⟩
    | succ m ih =>
      intro k c hm hk hi
      rcases step k c (by omega) hi with ⟨c', h1, h2⟩ | ⟨b, h1, h2⟩
      · rw [loop_next h1]; exact ih (k + 1) c' (by omega) (by omega) h2
      · exact ⟨b, loop_done h1, h2⟩
  exact key _ k0 c0 rfl hk h0

theorem iter_congr {α β : Type} {f g : α → Option (α ⊕ β)} (I : α → Prop) (h : ∀ a, I a → f a = g a) (hp : ∀ a a', I a → f a = some (.inl a') → I a') : ∀ (n : Nat) (a : α), I a → iter f n a = iter g n a
  | 0, _, _ => rfl
  | n + 1, a, ha => by
    simp only [iter, ← h a ha]
    split
    · rfl
    · rename_i a' he; exact iter_congr I h hp n a' (hp a a' ha he)
    · rfl
/-- Two loops whose rounds agree. -/
theorem loop_congr {α β : Type} {f g : α → Option (α ⊕ β)} (I : α → Prop) (h : ∀ a, I a → f a = g a) (hp : ∀ a a', I a → f a = some (.inl a') → I a') {a : α} (ha : I a) : loop f a = loop g a := by
  apply Option.ext
  intro b
  rw [loop_iff, loop_iff]
  constructor
  · rintro ⟨n, hn⟩; exact ⟨n, by rw [← iter_congr I h hp n a ha]; exact hn⟩
  · rintro ⟨n, hn⟩; exact ⟨n, by rw [iter_congr I h hp n a ha]; exact hn⟩

/-- A 64-bit integer. -/
def I64 (x : Int) : Prop := -9223372036854775808 ≤ x ∧ x ≤ 9223372036854775807
end Go.Sh
