/- WHAT AN EFFECT ON THE MODEL's MEMORY DOES TO THE RELATION: nothing, a draw, a new block, a row written anew. -/
import Derived.Test.YtlchefooafpdlaaAm4
import Derived.Laws.CopyRow
namespace Go.Am
open Go
variable {P : Program} {T : Tab}

theorem lt_size {α : Type} {xs : List α} {i : Nat} {x : α} (h : xs[i]? = some x) : i < xs.length := (List.getElem?_eq_some_iff.1 h).1
theorem ex_get {α : Type} {xs : List α} {i : Nat} (h : i < xs.length) : ∃ x, xs[i]? = some x := ⟨xs[i], List.getElem?_eq_getElem h⟩
theorem ex_getA {α : Type} {xs : Array α} {i : Nat} (h : i < xs.size) : ∃ x, xs[i]? = some x := ⟨xs[i], Array.getElem?_eq_getElem h⟩
theorem lt_sizeA {α : Type} {xs : Array α} {i : Nat} {x : α} (h : xs[i]? = some x) : i < xs.size := (Array.getElem?_eq_some_iff.1 h).1

/-! ### lookups -/
theorem find_cons {α : Type} (k : Nat) (v : α) (r : List (Nat × α)) (t : Nat) : find ((k, v) :: r) t = if k = t then some v else find r t := by
  simp only [find]
  by_cases h : k = t
  · subst h; simp
  · have : Nat.beq k t = false := by cases hb : Nat.beq k t with
      | false => rfl
      | true => exact absurd (Nat.eq_of_beq_eq_true hb) h
    rw [this]; simp [h]
theorem find_repl {α : Type} (l : List (Nat × α)) (k t : Nat) (x : α) : find (repl l k x) t = if k = t then (find l k).map (fun _ => x) else find l t := by
  induction l with
  | nil => simp [repl, find]
  | cons a r ih =>
    obtain ⟨m, v⟩ := a
    simp only [repl]
    by_cases hm : m = k
    · subst hm
      simp only [Nat.beq_refl, find_cons]
      by_cases ht : m = t
      · simp [ht]
      · simp [ht]
    · have hb : Nat.beq m k = false := by cases hb : Nat.beq m k with
        | false => rfl
        | true => exact absurd (Nat.eq_of_beq_eq_true hb) hm
      rw [hb]
      simp only [find_cons, ih]
      by_cases ht : k = t
      · subst ht; simp [hm]
      · simp only [ht, if_false]

def upd (inj : Inj) (n : Nat) (p : Option (Nat × Nat)) : Inj := fun m => if m = n then p else inj m
theorem upd_same (inj : Inj) (n : Nat) (p : Option (Nat × Nat)) : upd inj n p n = p := by simp [upd]
theorem upd_lt (inj : Inj) {n m : Nat} (p : Option (Nat × Nat)) (h : m < n) : upd inj n p m = inj m := by simp [upd]; omega

section
variable {w w' : World} {Z : Nat → Prop} {inj : Inj} {st : AS} {a : Act} {Ds : List Nat}

theorem Sem.keepBig_of_same (h : w'.heap = w.heap) : KeepBig w w' := fun b c e f hb => ⟨c, e, f, by rw [h]; exact hb, rfl⟩

/-- Nothing is written: the blocks lie as they lay. -/
theorem Ext.same {hp : List (Nat × Blk)} {pin : Nat} (h : w'.heap = w.heap) (ht : w'.tape = w.tape) (ho : w'.os = w.os) (hu : w'.output = w.output) : Ext w Z inj hp w' Z inj hp pin :=
  ⟨by rw [h]; exact Nat.le_refl _, fun _ _ _ => by rw [h], fun _ h => .inl h, Sem.keepBig_of_same h, fun b r hb => ⟨r, by rw [h]; exact hb, rfl⟩, fun _ h => h, fun _ h => .inl h, fun _ _ => rfl, ht, ho, hu, fun a => by simp only [World.frozen?, h]⟩

theorem RelH.same {hp : List (Nat × Blk)} {nx : Nat} (hr : RelH w Z inj hp nx) (h : w'.heap = w.heap) : RelH w' Z inj hp nx :=
  ⟨fun n b hb => ⟨(hr.blk n b hb).1, (hr.blk n b hb).2.mono (fun _ _ => by rw [h]) (fun _ h => h) (Sem.keepBig_of_same h) (fun _ _ => rfl) (Nat.le_refl _) (hr.blk n b hb).1 (fun _ _ _ => by rw [h])⟩, hr.sep, hr.out, fun b hb => by rw [h]; exact hr.zs b hb, fun b hb => by rw [h]; exact hr.zc b hb⟩

/-! ### a new block -/
theorem alloc_old (w : World) (o : Obj) {b : Nat} (h : b < w.heap.size) : (w.alloc o).heap[b]? = w.heap[b]? := by
  show (w.heap.push o)[b]? = _
  rw [Array.getElem?_push, if_neg (by omega)]
theorem alloc_new (w : World) (o : Obj) : (w.alloc o).heap[w.heap.size]? = some o := by
  show (w.heap.push o)[w.heap.size]? = _
  rw [Array.getElem?_push, if_pos rfl]
theorem keepBig_alloc (w : World) (o : Obj) : KeepBig w (w.alloc o) := fun _b c e f h => ⟨c, e, f, (alloc_old w o (some_lt h)).trans h, rfl⟩
theorem keepLoops_alloc (w : World) (o : Obj) : KeepLoops w (w.alloc o) := fun _b r h => ⟨r, (alloc_old w o (some_lt h)).trans h, rfl⟩

theorem RelH.new {hp : List (Nat × Blk)} {nx : Nat} (hr : RelH w Z inj hp nx) (o : Obj) (blk : Blk) (off : Nat)
    (hb : RelB (w.alloc o) Z (upd inj nx (some (w.heap.size, off))) (nx + 1) nx blk) :
    RelH (w.alloc o) Z (upd inj nx (some (w.heap.size, off))) ((nx, blk) :: hp) (nx + 1) := by
  refine ⟨?_, ?_, ?_, ?_, fun b hz => by rw [alloc_old w o (hr.zs b hz)]; exact hr.zc b hz⟩
  · intro n b h
    rw [find_cons] at h
    by_cases hn : nx = n
    · subst hn; simp at h; subst h; exact ⟨by omega, hb⟩
    · simp only [hn, if_false] at h
      obtain ⟨h1, h2⟩ := hr.blk n b h
      refine ⟨by omega, h2.mono (fun b hz => alloc_old w o (hr.zs b hz)) (fun _ h => h) (keepBig_alloc w o) (fun m hm => upd_lt _ _ hm) (by omega) h1 ?_⟩
      intro p hp hl
      exact alloc_old w o (by rcases h2.lt hl hp with ⟨_, _, e⟩ | ⟨_, e⟩ <;> exact some_lt e)
  · intro n m b c p q hn hm hlb hlc hp hq hne
    rw [find_cons] at hn hm
    by_cases h1 : nx = n
    · by_cases h2 : nx = m
      · omega
      · subst h1
        simp only [h2, if_false] at hm
        rw [upd_same] at hp; cases hp
        have hmlt := (hr.blk m c hm).1
        rw [upd_lt _ _ hmlt] at hq
        have := hr.im_lt ⟨m, c, q.2, hm, hlc, hq⟩
        intro e; simp at e; omega
    · simp only [h1, if_false] at hn
      have hnlt := (hr.blk n b hn).1
      rw [upd_lt _ _ hnlt] at hp
      by_cases h2 : nx = m
      · subst h2
        rw [upd_same] at hq; cases hq
        have := hr.im_lt ⟨n, b, p.2, hn, hlb, hp⟩
        intro e; simp at e; omega
      · simp only [h2, if_false] at hm
        have hmlt := (hr.blk m c hm).1
        rw [upd_lt _ _ hmlt] at hq
        exact hr.sep n m b c p q hn hm hlb hlc hp hq hne
  · intro n b p h hl hp hz
    rw [find_cons] at h
    by_cases hn : nx = n
    · subst hn
      rw [upd_same] at hp; cases hp
      have := hr.zs _ hz; simp at this
    · simp only [hn, if_false] at h
      rw [upd_lt _ _ (hr.blk n b h).1] at hp
      exact hr.out n b p h hl hp hz
  · intro b hz
    have := hr.zs b hz; simp; omega

theorem Ext.new {hp : List (Nat × Blk)} {nx : Nat} (hr : RelH w Z inj hp nx) (o : Obj) (blk : Blk) (off : Nat) (ho : Unfr o := by first | exact rfl | exact trivial) : Ext w Z inj hp (w.alloc o) Z (upd inj nx (some (w.heap.size, off))) ((nx, blk) :: hp) nx := by
  refine ⟨by simp, fun b hb _ => alloc_old w o hb, ?_, keepBig_alloc w o, keepLoops_alloc w o, fun _ h => h, fun _ h => .inl h, fun n hn => upd_lt _ _ hn, rfl, rfl, rfl, frozen_alloc w ho⟩
  rintro b ⟨n, blk', off', h1, h2, h3⟩
  rw [find_cons] at h1
  by_cases hn : nx = n
  · subst hn; rw [upd_same] at h3; cases h3; exact .inr (Nat.le_refl _)
  · simp only [hn, if_false] at h1
    rw [upd_lt _ _ (hr.blk n blk' h1).1] at h3
    exact .inl ⟨n, blk', off', h1, h2, h3⟩

/-! ### a row written anew -/
theorem keepBig_setRow (w : World) (g : Nat) (old cs : Array Value) (t : TypeId) (fr : Nat × Nat) (hg : w.heap[g]? = some (.cells old t fr)) (hs : cs.size = old.size) : KeepBig w (w.setRow g cs) := by
  intro b c e f h
  by_cases hb : b = g
  · subst hb
    rw [hg] at h; cases h
    exact ⟨cs, _, _, setRow_heap w b _ cs _ _ hg, hs⟩
  · exact ⟨c, e, f, (setRow_other w g b cs hb).trans h, rfl⟩
theorem keepLoops_setRow (w : World) (g : Nat) (old cs : Array Value) (t : TypeId) (fr : Nat × Nat) (hg : w.heap[g]? = some (.cells old t fr)) : KeepLoops w (w.setRow g cs) := by
  intro b r h
  by_cases hb : b = g
  · subst hb; rw [hg] at h; cases h
  · exact ⟨r, (setRow_other w g b cs hb).trans h, rfl⟩

/-- Block n's row is written: the machine's block turns likewise. -/
theorem frozen_setRow (w : World) (g : Nat) (old cs : Array Value) (t : TypeId) (fr : Nat × Nat) (hg : w.heap[g]? = some (.cells old t fr)) (a : Addr) : (w.setRow g cs).frozen? a = w.frozen? a := by
  by_cases h : a.block = g
  · have e1 := setRow_heap w g old cs t fr hg
    subst h
    simp only [World.frozen?, e1, hg]
  · have : (w.setRow g cs).heap[a.block]? = w.heap[a.block]? := by
      simp only [World.setRow, Array.getElem?_modify]
      rw [if_neg (fun e => h e.symm)]
    simp only [World.frozen?, this]

theorem RelH.set {hp : List (Nat × Blk)} {nx n : Nat} (hr : RelH w Z inj hp nx) {b0 blk : Blk} (hn : find hp n = some b0) (hl0 : live b0 = true) {g off : Nat} (hi : inj n = some (g, off)) {old cs : Array Value} {t : TypeId} {fr : Nat × Nat}
    (hg : w.heap[g]? = some (.cells old t fr)) (hs : cs.size = old.size) (hb : RelB (w.setRow g cs) Z inj nx n blk) :
    RelH (w.setRow g cs) Z inj (repl hp n blk) nx := by
  have hzg : ∀ b, Z b → b ≠ g := fun b hz e => hr.out n b0 _ hn hl0 hi (by rw [← e]; exact hz)
  refine ⟨?_, ?_, ?_, fun b hz => by simpa using hr.zs b hz, fun b hz => by rw [setRow_other w g b cs (hzg b hz)]; exact hr.zc b hz⟩
  · intro m b h
    rw [find_repl] at h
    by_cases hm : n = m
    · subst hm; simp [hn] at h; subst h; exact ⟨(hr.blk n b0 hn).1, hb⟩
    · simp only [hm, if_false] at h
      obtain ⟨h1, h2⟩ := hr.blk m b h
      refine ⟨h1, h2.mono (fun b hz => setRow_other w g b cs (hzg b hz)) (fun _ h => h) (keepBig_setRow w g old cs t fr hg hs) (fun _ _ => rfl) (Nat.le_refl _) h1 ?_⟩
      intro p hp hl
      exact setRow_other w g p.1 cs (fun e => hr.sep n m b0 b _ _ hn h hl0 hl hi hp hm e.symm)
  · intro m k b c p q h1 h2 hlb hlc hpp hqq hne
    rw [find_repl] at h1 h2
    have key : ∀ m b, (if n = m then (find hp n).map (fun _ => blk) else find hp m) = some b → live b = true → ∃ b', find hp m = some b' ∧ (live b' = true ∨ n = m) := by
      intro m b h hl
      by_cases hm : n = m
      · subst hm; exact ⟨b0, hn, .inr rfl⟩
      · simp only [hm, if_false] at h; exact ⟨b, h, .inl hl⟩
    obtain ⟨b', hb', hl1⟩ := key m b h1 hlb
    obtain ⟨c', hc', hl2⟩ := key k c h2 hlc
    have l1 : live b' = true := by rcases hl1 with h | h; exact h; subst h; rw [hn] at hb'; cases hb'; exact hl0
    have l2 : live c' = true := by rcases hl2 with h | h; exact h; subst h; rw [hn] at hc'; cases hc'; exact hl0
    exact hr.sep m k b' c' p q hb' hc' l1 l2 hpp hqq hne
  · intro m b p h hl hp hz
    rw [find_repl] at h
    by_cases hm : n = m
    · subst hm; rw [hi] at hp; cases hp; exact hr.out n b0 _ hn hl0 hi hz
    · simp only [hm, if_false] at h; exact hr.out m b p h hl hp hz

theorem Ext.set {hp : List (Nat × Blk)} {nx n pin : Nat} (_hr : RelH w Z inj hp nx) {b0 blk : Blk} (hn : find hp n = some b0) (hl0 : live b0 = true) {g off : Nat} (hi : inj n = some (g, off)) {old cs : Array Value} {t : TypeId} {fr : Nat × Nat}
    (hg : w.heap[g]? = some (.cells old t fr)) (hs : cs.size = old.size) : Ext w Z inj hp (w.setRow g cs) Z inj (repl hp n blk) pin := by
  refine ⟨by simp, ?_, ?_, keepBig_setRow w g old cs t fr hg hs, keepLoops_setRow w g old cs t fr hg, fun _ h => h, fun _ h => .inl h, fun _ _ => rfl, rfl, rfl, rfl, frozen_setRow w g old cs t fr hg⟩
  · intro b _ hb
    exact setRow_other w g b cs (fun e => hb (by rw [e]; exact ⟨n, b0, off, hn, hl0, hi⟩))
  · rintro b ⟨m, blk', off', h1, h2, h3⟩
    rw [find_repl] at h1
    by_cases hm : n = m
    · subst hm; exact .inl ⟨n, b0, off', hn, hl0, h3⟩
    · simp only [hm, if_false] at h1; exact .inl ⟨m, blk', off', h1, h2, h3⟩

/-- A block is given up. -/
theorem RelH.drop {hp : List (Nat × Blk)} {nx n : Nat} (hr : RelH w Z inj hp nx) : RelH w Z inj (repl hp n .dead) nx := by
  have key : ∀ m b, find (repl hp n .dead) m = some b → live b = true → find hp m = some b := by
    intro m b h hl
    rw [find_repl] at h
    by_cases hm : n = m
    · subst hm
      cases hf : find hp n with
      | none => simp [hf] at h
      | some x => simp [hf] at h; subst h; simp [live] at hl
    · simp only [hm, if_false] at h; exact h
  refine ⟨?_, ?_, ?_, hr.zs, hr.zc⟩
  · intro m b h
    by_cases hl : live b = true
    · exact hr.blk m b (key m b h hl)
    · have : b = .dead := by cases b <;> simp_all [live]
      subst this
      refine ⟨?_, trivial⟩
      rw [find_repl] at h
      by_cases hm : n = m
      · subst hm
        cases hf : find hp n with
        | none => simp [hf] at h
        | some x => exact (hr.blk n x hf).1
      · simp only [hm, if_false] at h; exact (hr.blk m _ h).1
  · intro m k b c p q h1 h2 hlb hlc hp hq hne
    exact hr.sep m k b c p q (key m b h1 hlb) (key k c h2 hlc) hlb hlc hp hq hne
  · intro m b p h hl hp
    exact hr.out m b p (key m b h hl) hl hp

theorem Ext.drop {hp : List (Nat × Blk)} {n pin : Nat} : Ext w Z inj hp w Z inj (repl hp n .dead) pin := by
  refine ⟨Nat.le_refl _, fun _ _ _ => rfl, ?_, fun _ c e f h => ⟨c, e, f, h, rfl⟩, fun _ r h => ⟨r, h, rfl⟩, fun _ h => h, fun _ h => .inl h, fun _ _ => rfl, rfl, rfl, rfl, fun _ => rfl⟩
  rintro b ⟨m, blk', off', h1, h2, h3⟩
  rw [find_repl] at h1
  by_cases hm : n = m
  · subst hm
    cases hf : find hp n with
    | none => simp [hf] at h1
    | some x => simp [hf] at h1; subst h1; simp [live] at h2
  · simp only [hm, if_false] at h1; exact .inl ⟨m, blk', off', h1, h2, h3⟩
end
end Go.Am
