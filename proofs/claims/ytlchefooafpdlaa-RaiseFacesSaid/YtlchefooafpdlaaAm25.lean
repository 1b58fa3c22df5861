/- LOOPS' RECORDS, MARKS, AND A FUNCTION's FIRST STATE. -/
import Derived.Test.YtlchefooafpdlaaAm24
namespace Go.Am
open Go
variable {P : Program} {T : Tab}
section
variable {w w' : World} {Z Z' : Nat → Prop} {inj inj' : Inj} {hp hp' : List (Nat × Blk)} {nx nx' pin : Nat}

/-- Blocks are laid elsewhere: what was related is related. -/
theorem RelH.grow (h : RelH w Z inj hp nx) (hk : ∀ b, b < w.heap.size → w'.heap[b]? = w.heap[b]?) : RelH w' Z inj hp nx := by
  have hb : KeepBig w w' := fun b c e f hh => ⟨c, e, f, (hk b (some_lt hh)).trans hh, rfl⟩
  refine ⟨fun n b hn => ?_, h.sep, h.out, ?_, ?_⟩
  · obtain ⟨h1, h2⟩ := h.blk n b hn
    exact ⟨h1, h2.mono (fun b hz => hk b (h.zs b hz)) (fun _ h => h) hb (fun _ _ => rfl) (Nat.le_refl _) h1 fun p hp hl => hk _ (h.im_lt ⟨n, b, p.2, hn, hl, hp⟩)⟩
  · intro b hz
    obtain ⟨c, e, f, hc⟩ := h.zc b hz
    have := hk b (h.zs b hz)
    exact some_lt (this.trans hc)
  · intro b hz
    obtain ⟨c, e, f, hc⟩ := h.zc b hz
    exact ⟨c, e, f, (hk b (h.zs b hz)).trans hc⟩

theorem Ext.alloc (o : Obj) (ho : Unfr o := by first | exact rfl | exact trivial) : Ext w Z inj hp (w.alloc o) Z inj hp pin :=
  ⟨by simp, fun b hb _ => alloc_old w o hb, fun _ h => .inl h, keepBig_alloc w o, keepLoops_alloc w o, fun _ h => h, fun _ h => .inl h, fun _ _ => rfl, rfl, rfl, rfl, frozen_alloc w ho⟩

theorem frozen_none {w : World} {a : Addr} (h : ∀ c e f, w.heap[a.block]? ≠ some (.cells c e f)) : w.frozen? a = false := by
  unfold World.frozen?
  split
  · rename_i hh; exact absurd hh (h _ _ _)
  · rfl
theorem frozen_putObj {b : Nat} {o : Obj} (h : ∀ c e f, w.heap[b]? ≠ some (.cells c e f)) (ho : ∀ c e f, o ≠ .cells c e f) (a : Addr) : (w.putObj b o).frozen? a = w.frozen? a := by
  by_cases hb : a.block = b
  · subst hb
    rw [frozen_none h, frozen_none]
    intro c e f
    by_cases hlt : a.block < w.heap.size
    · rw [World.putObj_heap_same hlt]; intro he; exact ho _ _ _ (Option.some.inj he)
    · have e2 : (w.putObj a.block o).heap[a.block]? = none := by simp; omega
      rw [e2]; simp
  · simp only [World.frozen?, World.putObj_heap_other hb]

/-- A loop's record is overwritten: the machine knows the new one, or forgets it. -/
theorem relH_putLoop (h : RelH w Z inj hp nx) {n : Nat} {b0 blk : Blk} (hn : find hp n = some b0) (hl : live b0 = true) {b off : Nat} (hi : inj n = some (b, off)) {r r' : Loop} (hb : w.heap[b]? = some (.loop r)) (hd : r'.defers = r.defers)
    (hnew : RelB (w.putObj b (.loop r')) Z inj nx n blk) (hlv : live blk = true → True) : RelH (w.putObj b (.loop r')) Z inj (repl hp n blk) nx ∧ Ext w Z inj hp (w.putObj b (.loop r')) Z inj (repl hp n blk) pin := by
  have hother : ∀ k, k ≠ b → (w.putObj b (.loop r')).heap[k]? = w.heap[k]? := fun k hk => World.putObj_heap_other hk
  have hzb : ¬ Z b := fun hz => by
    obtain ⟨c, e, f, hc⟩ := h.zc b hz
    rw [hb] at hc; cases hc
  have hkb : KeepBig w (w.putObj b (.loop r')) := fun k c e f hk => by
    by_cases hkb : k = b
    · subst hkb; rw [hb] at hk; cases hk
    · exact ⟨c, e, f, (hother k hkb).trans hk, rfl⟩
  have hz : ∀ k, Z k → (w.putObj b (.loop r')).heap[k]? = w.heap[k]? := fun k hk => hother k (fun e => hzb (e ▸ hk))
  have hfind : ∀ m c, find (repl hp n blk) m = some c → (m = n ∧ c = blk) ∨ (m ≠ n ∧ find hp m = some c) := by
    intro m c hm
    rw [find_repl] at hm
    split at hm
    · rename_i e; subst e; rw [hn] at hm; simp at hm; exact .inl ⟨rfl, hm.symm⟩
    · rename_i e; exact .inr ⟨fun h => e h.symm, hm⟩
  have himm : ∀ k, im (repl hp n blk) inj k → im hp inj k := by
    rintro k ⟨m, c, o, h1, h2, h3⟩
    rcases hfind m c h1 with ⟨rfl, rfl⟩ | ⟨_, h4⟩
    · exact ⟨m, b0, o, hn, hl, h3⟩
    · exact ⟨m, c, o, h4, h2, h3⟩
  refine ⟨⟨?_, ?_, ?_, ?_, ?_⟩, ⟨by simp, ?_, fun k hk => .inl (himm k hk), hkb, ?_, fun _ h => h, fun _ h => .inl h, fun _ _ => rfl, rfl, rfl, rfl, frozen_putObj (fun _ _ _ => by rw [hb]; simp) (fun _ _ _ => by simp)⟩⟩
  · intro m c hm
    rcases hfind m c hm with ⟨rfl, rfl⟩ | ⟨hne, h4⟩
    · exact ⟨(h.blk _ _ hn).1, hnew⟩
    · obtain ⟨h5, h6⟩ := h.blk m c h4
      exact ⟨h5, h6.mono hz (fun _ h => h) hkb (fun _ _ => rfl) (Nat.le_refl _) h5 fun p hp hlv => hother _ fun e => h.sep m n c b0 p (b, off) h4 hn hlv hl hp hi hne e⟩
  · intro m m' c c' p q h1 h2 h3 h4 h5 h6 hne
    rcases hfind m c h1 with ⟨rfl, rfl⟩ | ⟨e1, k1⟩ <;> rcases hfind m' c' h2 with ⟨rfl, rfl⟩ | ⟨e2, k2⟩
    · exact absurd rfl hne
    · exact h.sep _ _ _ _ p q hn k2 hl h4 h5 h6 hne
    · exact h.sep _ _ _ _ p q k1 hn h3 hl h5 h6 hne
    · exact h.sep _ _ _ _ p q k1 k2 h3 h4 h5 h6 hne
  · intro m c p h1 h2 h3
    rcases hfind m c h1 with ⟨rfl, rfl⟩ | ⟨e1, k1⟩
    · exact h.out _ _ p hn hl h3
    · exact h.out _ _ p k1 h2 h3
  · intro k hk; simpa using h.zs k hk
  · intro k hk
    obtain ⟨c, e, f, hc⟩ := h.zc k hk
    exact ⟨c, e, f, (hz k hk).trans hc⟩
  · intro k _ hk
    exact hother k fun e => hk ⟨n, b0, off, hn, hl, e ▸ hi⟩
  · intro k x hk
    by_cases hkb : k = b
    · subst hkb
      rw [hb] at hk; cases hk
      exact ⟨r', World.putObj_heap_same (some_lt hb), hd⟩
    · exact ⟨x, (hother k hkb).trans hk, rfl⟩

/-- A loop's record: its state and its pending jump. -/
theorem relH_loop (h : RelH w Z inj hp nx) {n : Nat} {s : List (Nat × V)} {ps : List Tmp} {as bo : Code} {ls ls' : LoopState} {pe pe' : Option Code} (hn : find hp n = some (.loop s ps as bo ls pe)) : ∃ b r, inj n = some (b, 0) ∧ w.heap[b]? = some (.loop r) ∧
    r.state = ls ∧ r.pending = pe ∧ r.params = ps.toArray ∧ r.assign = as ∧ r.body = bo ∧ (codeOk r.tmps.size as = true ∧ codeOk r.tmps.size bo = true ∧ ∀ p ∈ ps, p < r.tmps.size) ∧ RelSlots w Z inj nx s r.tmps ∧
    RelH (w.putObj b (.loop { r with state := ls', pending := pe' })) Z inj (repl hp n (.loop s ps as bo ls' pe')) nx ∧ Ext w Z inj hp (w.putObj b (.loop { r with state := ls', pending := pe' })) Z inj (repl hp n (.loop s ps as bo ls' pe')) pin := by
  obtain ⟨hnx, b, tmps, D, fn, h1, h2, h3, h4⟩ := h.blk n _ hn
  refine ⟨b, _, h1, h2, rfl, rfl, rfl, rfl, rfl, h3, h4, ?_⟩
  refine relH_putLoop h hn rfl h1 h2 rfl ?_ (fun _ => trivial)
  refine ⟨b, tmps, D, fn, h1, World.putObj_heap_same (some_lt h2), h3, ?_⟩
  have hzb : ¬ Z b := fun hz => by
    obtain ⟨c, e, f, hc⟩ := h.zc b hz
    rw [h2] at hc; cases hc
  refine h4.mono (fun k hk => World.putObj_heap_other (fun e => hzb (e ▸ hk))) (fun _ h => h) ?_ (fun _ _ => rfl) (Nat.le_refl _)
  intro k c e f hk
  by_cases hkb : k = b
  · subst hkb; rw [h2] at hk; cases hk
  · exact ⟨c, e, f, (World.putObj_heap_other hkb).trans hk, rfl⟩

theorem relH_loopDead (h : RelH w Z inj hp nx) {n : Nat} {s : List (Nat × V)} {ps : List Tmp} {as bo : Code} {ls : LoopState} {pe : Option Code} (hn : find hp n = some (.loop s ps as bo ls pe)) : ∃ b r, inj n = some (b, 0) ∧ w.heap[b]? = some (.loop r) ∧
    r.state = ls ∧ r.pending = pe ∧ ∀ r' : Loop, r'.defers = r.defers → RelH (w.putObj b (.loop r')) Z inj (repl hp n .dead) nx ∧ Ext w Z inj hp (w.putObj b (.loop r')) Z inj (repl hp n .dead) pin := by
  obtain ⟨hnx, b, tmps, D, fn, h1, h2, h3, h4⟩ := h.blk n _ hn
  exact ⟨b, _, h1, h2, rfl, rfl, fun r' hr => relH_putLoop h hn rfl h1 h2 hr trivial (fun _ => trivial)⟩

/-! ### Slots -/
theorem find_argSlots : ∀ (vs : List V) (k t : Nat) (v : V), find (argSlots k vs) t = some v → k ≤ t ∧ vs[t - k]? = some v
  | [], k, t, v, h => by simp [argSlots, find] at h
  | x :: r, k, t, v, h => by
    simp only [argSlots, find_cons] at h
    split at h
    · rename_i e; subst e; cases h; simp
    · rename_i e
      obtain ⟨h1, h2⟩ := find_argSlots r (k + 1) t v h
      refine ⟨by omega, ?_⟩
      obtain ⟨m, hm⟩ : ∃ m, t - k = m + 1 := ⟨t - k - 1, by omega⟩
      have : t - (k + 1) = m := by omega
      rw [this] at h2
      rw [hm]; simpa using h2

theorem relSlots_args {vs : List V} {xs : Array Value} (n : Nat) (h : LRel w Z inj nx vs xs) : RelSlots w Z inj nx (argSlots 0 vs) (xs ++ Array.replicate (n - xs.size) undef) := by
  intro t v ht
  obtain ⟨_, h2⟩ := find_argSlots vs 0 t v ht
  simp at h2
  have hlt : t < xs.size := by rw [← h.1]; exact lt_size h2
  obtain ⟨x, hx⟩ := ex_getA hlt
  exact ⟨x, by rw [Array.getElem?_append_left hlt]; exact hx, h.2 t v x h2 hx⟩

theorem relSlots_setAll : ∀ (ps : List Tmp) (vs : List V) (xs : List Value) (s : List (Nat × V)) (tmps : Array Value), vs.length = xs.length → (∀ (i : Nat) (d : V) (c : Value), vs[i]? = some d → xs[i]? = some c → RelV w Z inj nx d c) → (∀ p ∈ ps, p < tmps.size) →
    RelSlots w Z inj nx s tmps → RelSlots w Z inj nx (setAll s ps vs) ((ps.zip xs).foldl (fun tmps (x : Tmp × Value) => tmps.setIfInBounds x.1 x.2) tmps) ∧ ((ps.zip xs).foldl (fun tmps (x : Tmp × Value) => tmps.setIfInBounds x.1 x.2) tmps).size = tmps.size
  | [], vs, xs, s, tmps, hl, hr, hp, h => by simpa [setAll] using h
  | p :: ps, [], [], s, tmps, hl, hr, hp, h => by simpa [setAll] using h
  | p :: ps, v :: vs, x :: xs, s, tmps, hl, hr, hp, h => by
    have hv := hr 0 v x rfl rfl
    have h1 := h.put hv (hp p (by simp))
    obtain ⟨a, b⟩ := relSlots_setAll ps vs xs _ _ (by simpa using hl) (fun i d c hd hc => hr (i + 1) d c (by simpa using hd) (by simpa using hc)) (fun q hq => by simpa using hp q (by simp [hq])) h1
    refine ⟨by simpa [setAll] using a, by simpa using b⟩
  | p :: ps, [], x :: xs, s, tmps, hl, hr, hp, h => by simp at hl
  | p :: ps, v :: vs, [], s, tmps, hl, hr, hp, h => by simp at hl

/-! ### The marks are taken over -/
theorem leaves_marks {fn : Func} {st : AS} {v : V} (hT : TabOk P T) {w0 : World} {Z0 : Nat → Prop} {inj0 : Inj} {hp0 : List (Nat × Blk)} {R : Ending → World → Prop} (hres : resV T st fn.results.toList = some v)
    (hR : ∀ x w' Z' inj', RelH w' Z' inj' st.hp st.nx → Ext w0 Z0 inj0 hp0 w' Z' inj' st.hp pin → RelV w' Z' inj' st.nx v x → R (.returned x) w') : ∀ (Ds : List Nat) (w : World) (Z : Nat → Prop) (inj : Inj) (a : Act),
      RelSlots w Z inj st.nx st.sl a.tmps → RelH w Z inj st.hp st.nx → Ext w0 Z0 inj0 hp0 w Z inj st.hp pin → Ds.Nodup → (∀ D ∈ Ds, w.heap[D]? = some (.deferred (some [])) ∧ w0.heap.size ≤ D) →
      LeavesInM (Fw none) 0 P fn a.tmps R (Ds.map fun D => { target := .collected D, args := #[] }) .returning w
  | [], w, Z, inj, a, hs, hh, he, _, _ => by
    obtain ⟨x, hx, hv⟩ := res_run (a := a) hT hh hs hres
    exact ⟨x, hx, hR x w Z inj hh he hv⟩
  | D :: Ds, w, Z, inj, a, hs, hh, he, hnd, hm => by
    obtain ⟨hD, hlt⟩ := hm D (by simp)
    have hnd' := List.nodup_cons.1 hnd
    refine ⟨by simp, .inl ⟨D, _, rfl, run_takeDeferred hD, ?_⟩⟩
    have hother : ∀ k, k ≠ D → (w.putObj D (.deferred none)).heap[k]? = w.heap[k]? := fun k hk => World.putObj_heap_other hk
    have hzD : ¬ Z D := fun hz => by obtain ⟨c, e, f, hc⟩ := hh.zc D hz; rw [hD] at hc; cases hc
    have himD : ¬ im st.hp inj D := fun hi => by rcases hh.im_obj hi with ⟨_, _, e⟩ | ⟨_, e⟩ <;> rw [hD] at e <;> cases e
    have hz : ∀ k, Z k → (w.putObj D (.deferred none)).heap[k]? = w.heap[k]? := fun k hk => hother k fun e => hzD (e ▸ hk)
    have hkb : KeepBig w (w.putObj D (.deferred none)) := fun k c e f hk => by
      by_cases hkD : k = D
      · subst hkD; rw [hD] at hk; cases hk
      · exact ⟨c, e, f, (hother k hkD).trans hk, rfl⟩
    refine leaves_marks hT hres hR Ds _ Z inj a (hs.mono hz (fun _ h => h) hkb (fun _ _ => rfl) (Nat.le_refl _)) ⟨?_, hh.sep, hh.out, fun k hk => by simpa using hh.zs k hk, ?_⟩ ?_ hnd'.2 ?_
    · intro n b hn
      obtain ⟨h1, h2⟩ := hh.blk n b hn
      exact ⟨h1, h2.mono hz (fun _ h => h) hkb (fun _ _ => rfl) (Nat.le_refl _) h1 fun p hp hl => hother _ fun e => himD ⟨n, b, p.2, hn, hl, by rw [← e]; exact hp⟩⟩
    · intro k hk
      obtain ⟨c, e, f, hc⟩ := hh.zc k hk
      exact ⟨c, e, f, (hz k hk).trans hc⟩
    · refine ⟨by simpa using he.size, fun b hb hi => (hother b (by omega)).trans (he.keep b hb hi), he.imm, ?_, ?_, he.zin, he.zout, he.pinj, he.tape, he.os, he.output, fun x => (frozen_putObj (fun _ _ _ => by rw [hD]; simp) (fun _ _ _ => by simp) x).trans (he.frz x)⟩
      · intro b c e f hb
        obtain ⟨c1, e1, f1, h1, s1⟩ := he.big b c e f hb
        obtain ⟨c2, e2, f2, h2, s2⟩ := hkb b c1 e1 f1 h1
        exact ⟨c2, e2, f2, h2, s2.trans s1⟩
      · intro b r hb
        obtain ⟨r1, h1, s1⟩ := he.loops b r hb
        exact ⟨r1, (hother b (by have := some_lt hb; omega)).trans h1, s1⟩
    · intro D' hD'
      obtain ⟨h1, h2⟩ := hm D' (by simp [hD'])
      exact ⟨(hother D' (fun e => hnd'.1 (e ▸ hD'))).trans h1, h2⟩
end
end Go.Am
