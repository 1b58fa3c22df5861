/- FREEZING: what is read off the machine's blocks as data lies so in memory. -/
import Derived.Test.YtlchefooafpdlaaAm19
namespace Go.Am
open Go
variable {P : Program} {T : Tab}
section
variable {w : World} {Z : Nat → Prop} {inj : Inj} {hp : List (Nat × Blk)} {nx : Nat}

theorem mapM'_some {α β : Type} {f : α → Option β} : ∀ {l : List α} {r : List β}, mapM' f l = some r → r.length = l.length ∧ ∀ (i : Nat) (x : α), l[i]? = some x → ∃ y, r[i]? = some y ∧ f x = some y
  | [], r, h => by simp [mapM'] at h; subst h; simp
  | x :: l, r, h => by
    simp only [mapM'] at h
    split at h <;> try simp at h
    rename_i y hy
    split at h <;> simp at h
    rename_i r' hr'
    subst h
    obtain ⟨h1, h2⟩ := mapM'_some hr'
    refine ⟨by simp [h1], fun i z hz => ?_⟩
    cases i with
    | zero => simp at hz; subst hz; exact ⟨y, rfl, hy⟩
    | succ i => simp at hz; obtain ⟨u, h3, h4⟩ := h2 i z hz; exact ⟨u, by simpa using h3, h4⟩

/-- The machine's rows of cells, and what lay frozen before. -/
def zAll (w : World) (Z : Nat → Prop) (inj : Inj) (hp : List (Nat × Blk)) (b : Nat) : Prop := Z b ∨ (im hp inj b ∧ ∃ c e f, w.heap[b]? = some (.cells c e f))

theorem toD_cell {k : Nat} {v : V} {d : DV} (h : toD hp k v = some d) (hc : vCell v = true) : isCell d = true := by
  cases k with
  | zero => cases v <;> simp [toD] at h; subst h; exact hc
  | succ k =>
    cases v with
    | d x => simp [toD] at h; subst h; exact hc
    | agg cs => simp [vCell] at hc
    | tup cs => simp [vCell] at hc
    | dead => simp [vCell] at hc
    | fn f cs => simp only [toD, Option.map_eq_some_iff] at h; obtain ⟨_, _, rfl⟩ := h; rfl
    | yld n => simp [toD] at h
    | dref cs j => simp [toD] at h
    | hs n es o l =>
      simp only [toD] at h
      split at h
      · split at h <;> simp at h; subst h; rfl
      · split at h <;> simp at h; obtain ⟨_, _, rfl⟩ := h; rfl
      · simp at h
    | ref n es i j =>
      simp only [toD] at h
      split at h
      · split at h <;> simp at h; subst h; rfl
      · split at h <;> simp at h; obtain ⟨_, _, rfl⟩ := h; rfl
      · simp at h

theorem toD_rel (h : RelH w Z inj hp nx) : ∀ (k : Nat) {v : V} {x : Value} {d : DV}, toD hp k v = some d → RelV w Z inj nx v x → RelD w (zAll w Z inj hp) d x
  | 0, v, x, d, hd, hv => by
    cases v <;> simp [toD] at hd
    subst hd
    cases hv with | d hv => exact hv.mono (fun _ _ => rfl) (fun _ hz => .inl hz)
  | k + 1, v, x, d, hd, hv => by
    have hz : ∀ b, Z b → zAll w Z inj hp b := fun _ hz => .inl hz
    have ih := fun {v : V} {x : Value} {d : DV} => toD_rel h k (v := v) (x := x) (d := d)
    have list : ∀ {cs : List V} {ds : List DV} {xs : Array Value}, mapM' (toD hp k) cs = some ds → cs.length = xs.size → (∀ (i : Nat) (d : V) (c : Value), cs[i]? = some d → xs[i]? = some c → RelV w Z inj nx d c) →
        ds.length = xs.size ∧ ∀ (i : Nat) (d : DV) (c : Value), ds[i]? = some d → xs[i]? = some c → RelD w (zAll w Z inj hp) d c := by
      intro cs ds xs hm hl hr
      obtain ⟨h1, h2⟩ := mapM'_some hm
      refine ⟨by omega, fun i d c hd hc => ?_⟩
      obtain ⟨y, hy⟩ := get_back h1 hd
      obtain ⟨d', hd', hf⟩ := h2 i y hy
      rw [hd] at hd'; cases hd'
      exact ih hf (hr i y c hy hc)
    cases v with
    | d y => simp [toD] at hd; subst hd; cases hv with | d hv => exact hv.mono (fun _ _ => rfl) hz
    | agg cs =>
      simp only [toD, Option.map_eq_some_iff] at hd
      obtain ⟨ds, hm, rfl⟩ := hd
      cases hv with | agg h1 h2 => obtain ⟨a, b⟩ := list hm h1 h2; exact .agg a b
    | tup cs =>
      simp only [toD, Option.map_eq_some_iff] at hd
      obtain ⟨ds, hm, rfl⟩ := hd
      cases hv with | tup h1 h2 => obtain ⟨a, b⟩ := list hm h1 h2; exact .tup a b
    | fn f cs =>
      simp only [toD, Option.map_eq_some_iff] at hd
      obtain ⟨ds, hm, rfl⟩ := hd
      cases hv with | fn h1 h2 => obtain ⟨a, b⟩ := list hm h1 h2; exact .fn a b
    | dead => simp [toD] at hd
    | yld n => simp [toD] at hd
    | dref cs j => simp [toD] at hd
    | hs n es o l =>
      -- a window of rows of data
      have key : ∀ (rows : List (List DV)) (blk : Blk), rows.length = l → find hp n = some blk → live blk = true → (∀ (i : Nat) (x : List DV), rows[i]? = some x → x.length = es) →
          (∀ b o', inj n = some (b, o') → ∃ arr ty, w.heap[b]? = some (.cells arr ty (0, 0)) ∧ ∀ (i : Nat) (x : List DV) (j : Nat) (d : DV), rows[i]? = some x → x[j]? = some d → isCell d = true ∧ ∃ c, arr[o' + ((o + i) * es + j)]? = some c ∧ RelD w (zAll w Z inj hp) d c) →
          RelD w (zAll w Z inj hp) (.sl es rows) x := by
        intro rows blk hlen hb hlive hrow hcell
        cases hv with
        | hsnil h1 =>
          have : rows = [] := List.length_eq_zero_iff.1 hlen
          subst this; exact .slnil es
        | @hs _ _ _ _ cap ad h1 h2 h3 h4 =>
          obtain ⟨bb, oo, sp⟩ := ad
          simp only at h3; subst h3
          by_cases h0 : l = 0
          · have : rows = [] := List.length_eq_zero_iff.1 (by omega)
            subst this; subst h0
            exact RelD.sl (es := es) (xs := []) (by simp) (by simp) (by simp) (by simp) (by simp)
          · obtain ⟨b, o', e1, e2, e3⟩ := h4 (by omega)
            rw [e2]
            obtain ⟨arr, ty, b5, b6⟩ := hcell b o' e1
            have e9 : ∀ i j, o' + o * es + (i * es + j) = o' + ((o + i) * es + j) := by intro i j; rw [Nat.add_mul]; omega
            have hc : ∀ (i : Nat) (x : List DV) (j : Nat) (d : DV), rows[i]? = some x → x[j]? = some d → isCell d = true ∧ ∃ c, w.cell? ⟨b, o' + o * es + (i * es + j), none⟩ = some c ∧ RelD w (zAll w Z inj hp) d c := by
              intro i x j d hx hd
              obtain ⟨c1, c, c2, c3⟩ := b6 _ x j d hx hd
              exact ⟨c1, c, by rw [e9]; simp only [World.cell?, b5]; exact c2, c3⟩
            have := RelD.sl (w := w) (Z := zAll w Z inj hp) (es := es) (xs := rows) (b := b) (o := o' + o * es) (cap := cap) (by rw [hlen]; exact h2) (fun _ => .inr ⟨⟨n, blk, o', hb, hlive, e1⟩, _, _, _, b5⟩) hrow
              (fun i x j d hx hd => by obtain ⟨c1, c, c2, _⟩ := hc i x j d hx hd; exact ⟨c1, c, c2⟩)
              (fun i x j d c hx hd hcc => by obtain ⟨_, c', c2, c3⟩ := hc i x j d hx hd; rw [c2] at hcc; cases hcc; exact c3)
            rw [hlen] at this
            exact this
      simp only [toD] at hd
      split at hd
      · rename_i m xs hb
        split at hd <;> simp at hd
        rename_i hle
        obtain ⟨hle, rfl⟩ := hle
        subst hd
        obtain ⟨b1, b2, b3⟩ := (h.blk n _ hb).2
        have hget : ∀ (i : Nat) (x : List DV), ((xs.drop o).take l)[i]? = some x → xs[o + i]? = some x := by
          intro i x hx
          rw [List.getElem?_take] at hx
          split at hx
          · rwa [List.getElem?_drop] at hx
          · simp at hx
        refine key _ _ (by simp; omega) hb rfl (fun i x hx => b2 _ _ (hget i x hx)) ?_
        intro b o' hi
        rcases b3 with ⟨_, b4⟩ | ⟨b', o'', arr, ty, b4, b5, b6⟩
        · rw [hi] at b4; cases b4
        · rw [hi] at b4; cases b4
          refine ⟨arr, ty, b5, fun i x j d hx hd => ?_⟩
          obtain ⟨c1, c, c2, c3⟩ := b6 _ x j d (hget i x hx) hd
          exact ⟨c1, c, c2, c3.mono (fun _ _ => rfl) hz⟩
      · rename_i m xs hb
        split at hd <;> simp at hd
        rename_i hle
        obtain ⟨hle, rfl⟩ := hle
        obtain ⟨rows, hm, rfl⟩ := hd
        obtain ⟨m1, m2⟩ := mapM'_some hm
        obtain ⟨b1, b2, b3⟩ := (h.blk n _ hb).2
        have hget : ∀ (i : Nat) (x : List V), ((xs.drop o).take l)[i]? = some x → xs[o + i]? = some x := by
          intro i x hx
          rw [List.getElem?_take] at hx
          split at hx
          · rwa [List.getElem?_drop] at hx
          · simp at hx
        have hrow : ∀ (i : Nat) (x : List DV), rows[i]? = some x → ∃ y, xs[o + i]? = some y ∧ mapM' (toD hp k) y = some x := by
          intro i x hx
          obtain ⟨y, hy⟩ := get_back m1 hx
          obtain ⟨x', hx', hf⟩ := m2 i y hy
          rw [hx] at hx'; cases hx'
          exact ⟨y, hget _ _ hy, hf⟩
        refine key rows _ (by simp at m1; omega) hb rfl (fun i x hx => by obtain ⟨y, hy, hf⟩ := hrow i x hx; rw [(mapM'_some hf).1]; exact b2 _ _ hy) ?_
        intro b o' hi
        rcases b3 with ⟨_, b4⟩ | ⟨b', o'', arr, ty, b4, b5, b6⟩
        · rw [hi] at b4; cases b4
        · rw [hi] at b4; cases b4
          refine ⟨arr, ty, b5, fun i x j d hx hd => ?_⟩
          obtain ⟨y, hy, hf⟩ := hrow i x hx
          obtain ⟨f1, f2⟩ := mapM'_some hf
          obtain ⟨u, hu⟩ := get_back f1 hd
          obtain ⟨d', hd', hfd⟩ := f2 j u hu
          rw [hd] at hd'; cases hd'
          obtain ⟨c1, c, c2, c3⟩ := b6 _ y j u hy hu
          exact ⟨toD_cell hfd c1, c, c2, ih hfd c3⟩
      · simp at hd
    | ref n es i j =>
      have key : ∀ (row : List DV) (blk : Blk), i = 0 → j = 0 → find hp n = some blk → live blk = true →
          (∀ b o', inj n = some (b, o') → ∃ arr ty, w.heap[b]? = some (.cells arr ty (0, 0)) ∧ ∀ (j : Nat) (d : DV), row[j]? = some d → ∃ c, arr[o' + j]? = some c ∧ RelD w (zAll w Z inj hp) d c) →
          RelD w (zAll w Z inj hp) (.box row) x := by
        intro row blk hi hj hb hlive hcell
        subst hi hj
        cases hv with | @ref _ _ _ _ b o h1 h2 =>
        obtain ⟨arr, ty, b5, b6⟩ := hcell b o h2
        have hc : ∀ (j : Nat) (d : DV), row[j]? = some d → ∃ c, w.cell? ⟨b, o + (0 * es + 0) + j, none⟩ = some c ∧ RelD w (zAll w Z inj hp) d c := by
          intro j d hd
          obtain ⟨c, c2, c3⟩ := b6 j d hd
          exact ⟨c, by simp only [World.cell?, b5]; rw [← c2]; simp, c3⟩
        exact .box (.inr ⟨⟨n, blk, o, hb, hlive, h2⟩, _, _, _, b5⟩) (fun j d hd => by obtain ⟨c, c2, _⟩ := hc j d hd; exact ⟨c, c2⟩)
          (fun j d c hd hcc => by obtain ⟨c', c2, c3⟩ := hc j d hd; rw [c2] at hcc; cases hcc; exact c3)
      simp only [toD] at hd
      split at hd
      · rename_i m xs hb
        split at hd <;> simp at hd
        subst hd
        obtain ⟨b1, b2, b3⟩ := (h.blk n _ hb).2
        refine key _ _ rfl rfl hb rfl ?_
        intro b o' hi
        rcases b3 with ⟨b4, _⟩ | ⟨b', o'', arr, ty, b4, b5, b6⟩
        · simp at b4
        · rw [hi] at b4; cases b4
          refine ⟨arr, ty, b5, fun j d hd => ?_⟩
          obtain ⟨_, c, c2, c3⟩ := b6 0 _ j d rfl hd
          exact ⟨c, by rw [← c2]; simp, c3.mono (fun _ _ => rfl) hz⟩
      · rename_i m xs hb
        split at hd <;> simp at hd
        obtain ⟨row, hm, rfl⟩ := hd
        obtain ⟨b1, b2, b3⟩ := (h.blk n _ hb).2
        refine key _ _ rfl rfl hb rfl ?_
        intro b o' hi
        rcases b3 with ⟨b4, _⟩ | ⟨b', o'', arr, ty, b4, b5, b6⟩
        · simp at b4
        · rw [hi] at b4; cases b4
          refine ⟨arr, ty, b5, fun j d hd => ?_⟩
          obtain ⟨f1, f2⟩ := mapM'_some hm
          obtain ⟨u, hu⟩ := get_back f1 hd
          obtain ⟨d', hd', hfd⟩ := f2 j u hu
          rw [hd] at hd'; cases hd'
          obtain ⟨_, c, c2, c3⟩ := b6 0 _ j u rfl hu
          exact ⟨c, by rw [← c2]; simp, ih hfd c3⟩
      · simp at hd

theorem allFrozen_rel (h : RelH w Z inj hp nx) : ∀ {vs : List V} {ds : List DV}, allFrozen hp vs = some ds → ds.length = vs.length ∧ ∀ (i : Nat) (v : V), vs[i]? = some v → ∃ d, ds[i]? = some d ∧ toD hp 8 v = some d
  | [], ds, hd => by simp [allFrozen] at hd; subst hd; simp
  | v :: r, ds, hd => by
    simp only [allFrozen] at hd
    split at hd <;> simp at hd
    rename_i x l h1 h2
    subst hd
    obtain ⟨a, b⟩ := allFrozen_rel h h2
    refine ⟨by simp [a], fun i u hu => ?_⟩
    cases i with
    | zero => simp at hu; subst hu; exact ⟨x, rfl, h1⟩
    | succ i => simp at hu; obtain ⟨d, h3, h4⟩ := b i u hu; exact ⟨d, by simpa using h3, h4⟩

theorem lrel_frozen (h : RelH w Z inj hp nx) {vs : List V} {ds : List DV} {xs : Array Value} (hd : allFrozen hp vs = some ds) (hl : LRel w Z inj nx vs xs) (inj' : Inj) : LRel w (zAll w Z inj hp) inj' 0 (ds.map .d) xs := by
  obtain ⟨a, b⟩ := allFrozen_rel h hd
  refine ⟨by simpa [a] using hl.1, fun i d c h1 h2 => ?_⟩
  simp only [List.getElem?_map, Option.map_eq_some_iff] at h1
  obtain ⟨d', h1, rfl⟩ := h1
  obtain ⟨v, hv⟩ := get_back a h1
  obtain ⟨d2, h3, h4⟩ := b i v hv
  rw [h1] at h3; cases h3
  exact .d (toD_rel h 8 h4 (hl.2 i v c hv h2))

theorem lrel_data {vs : List V} {ds : List DV} {xs : Array Value} (hd : allFrozen hp vs = some ds) (hv : vs.all V.isD = true) (hl : LRel w Z inj nx vs xs) (inj' : Inj) : LRel w Z inj' 0 (ds.map .d) xs := by
  have e : ∀ {vs : List V} {ds : List DV}, allFrozen hp vs = some ds → vs.all V.isD = true → ds.map .d = vs := by
    intro vs
    induction vs with
    | nil => intro ds hd _; simp [allFrozen] at hd; subst hd; rfl
    | cons v r ih =>
      intro ds hd hv
      simp only [allFrozen] at hd
      split at hd <;> simp at hd
      rename_i x l h1 h2
      subst hd
      simp only [List.all_cons, Bool.and_eq_true] at hv
      obtain ⟨hv1, hv2⟩ := hv
      cases v <;> simp [V.isD] at hv1
      simp [toD] at h1; subst h1
      rw [List.map_cons, ih h2 hv2]
  refine ⟨by rw [e hd hv]; exact hl.1, fun i d c h1 h2 => ?_⟩
  rw [e hd hv] at h1
  have hx : V.isD d = true := (List.all_eq_true.1 hv) d (List.mem_of_getElem? h1)
  have := hl.2 i d c h1 h2
  cases this <;> simp [V.isD] at hx
  exact .d ‹_›

/-- A scalar asks nothing of the blocks. -/
theorem scalar_rel {Z Z' : Nat → Prop} {d : DV} {x : Value} (h : RelD w Z d x) (hs : d.scalar = true) : RelD w Z' d x := by
  have go : ∀ {ds : List DV}, DV.scalar.go ds = true → ∀ (i : Nat) (d : DV), ds[i]? = some d → (∀ {x : Value}, RelD w Z d x → RelD w Z' d x) := by
    intro ds
    induction ds with
    | nil => intro _ i d h; simp at h
    | cons y r ih =>
      intro hg i d hd
      cases i with
      | zero =>
        simp at hd; subst hd
        intro x hx
        cases y <;> simp [DV.scalar.go] at hg <;> cases hx <;> constructor
      | succ i =>
        simp at hd
        refine ih ?_ i d hd
        cases y <;> simp [DV.scalar.go] at hg <;> exact hg
  cases d <;> simp [DV.scalar] at hs
  case tup ds => cases h with | tup h1 h2 => exact .tup h1 fun i d c hd hc => go hs i d hd (h2 i d c hd hc)
  case agg ds => cases h with | agg h1 h2 => exact .agg h1 fun i d c hd hc => go hs i d hd (h2 i d c hd hc)
  all_goals (cases h <;> constructor)
end
end Go.Am
