/- WHAT IS FORGOTTEN MAY BE FORGOTTEN: the relation behind a weakening. -/
import Derived.Test.YtlchefooafpdlaaAm17
namespace Go.Am
open Go
variable {P : Program} {T : Tab}

theorem RelD.le {w : World} {Z : Nat → Prop} {x y : DV} {v : Value} (h : RelD w Z x v) (hl : DLe x y) : RelD w Z y v := by
  induction hl generalizing v with
  | refl => exact h
  | nil es => cases h; exact .slnil es
  | tup hlen _ ih =>
    cases h with | @tup _ cs h1 h2 =>
    refine .tup (by omega) fun i d c hd hc => ?_
    obtain ⟨x, hx⟩ := get_back hlen.symm hd
    exact ih i x d hx hd (h2 i x c hx hc)
  | agg hlen _ ih =>
    cases h with | @agg _ cs h1 h2 =>
    refine .agg (by omega) fun i d c hd hc => ?_
    obtain ⟨x, hx⟩ := get_back hlen.symm hd
    exact ih i x d hx hd (h2 i x c hx hc)

section
variable {w : World} {Z : Nat → Prop} {inj : Inj} {st st' : AS} {a : Act} {Ds : List Nat} {base : Nat} {ρ : Nat → Nat} {fz ph : List Nat}

def wkZ (Z : Nat → Prop) (inj : Inj) (st : AS) (fz : List Nat) (b : Nat) : Prop := Z b ∨ ∃ n ∈ fz, ∃ es xs o, find st.hp n = some (.dat es xs) ∧ inj n = some (b, o)
def wkI (inj : Inj) (ρ : Nat → Nat) (ph : List Nat) : Inj := fun n => if n ∈ ph then none else inj (ρ n)

theorem wv_rel (h : RelH w Z inj st.hp st.nx) {nx' : Nat} {v v' : V} (hv : Wv st ρ fz ph nx' v v') : ∀ {x : Value}, RelV w Z inj st.nx v x → RelV w (wkZ Z inj st fz) (wkI inj ρ ph) nx' v' x := by
  have hz : ∀ b, Z b → wkZ Z inj st fz b := fun b hb => .inl hb
  induction hv with
  | dead => exact fun _ => .dead _
  | d hle => intro x hx; cases hx with | d hx => exact .d ((hx.le hle).mono (fun _ _ => rfl) hz)
  | nil hm hlt => intro x hx; cases hx with | d hx => cases hx; exact .hsnil hlt
  | dref cs j => intro x hx; cases hx with | dref h1 h2 h3 => exact .dref (hz _ h1) h2 fun k d c hd hc => (h3 k d c hd hc).mono (fun _ _ => rfl) hz
  | ref hr hp hlt => intro x hx; cases hx with | ref h1 h2 => exact .ref hlt (by simp only [wkI, hp, hr, if_false]; exact h2)
  | hs hr hp hlt =>
    intro x hx
    cases hx with
    | hsnil h1 => exact .hsnil hlt
    | hs h1 h2 h3 h4 => exact .hs hlt h2 h3 fun hc => by obtain ⟨b, o, e1, e2, e3⟩ := h4 hc; exact ⟨b, o, by simp only [wkI, hp, hr, if_false]; exact e1, e2, e3⟩
  | yld hr hp hlt => intro x hx; cases hx with | yld h1 h2 => exact .yld hlt (by simp only [wkI, hp, hr, if_false]; exact h2)
  | fn hl _ ih =>
    intro x hx
    cases hx with | @fn _ _ cs h1 h2 =>
    refine .fn (by omega) fun i d c hd hc => ?_
    obtain ⟨y, hy⟩ := get_back hl.symm hd
    exact ih i y d hy hd (h2 i y c hy hc)
  | agg hl _ ih =>
    intro x hx
    cases hx with | @agg _ cs h1 h2 =>
    refine .agg (by omega) fun i d c hd hc => ?_
    obtain ⟨y, hy⟩ := get_back hl.symm hd
    exact ih i y d hy hd (h2 i y c hy hc)
  | tup hl _ ih =>
    intro x hx
    cases hx with | @tup _ cs h1 h2 =>
    refine .tup (by omega) fun i d c hd hc => ?_
    obtain ⟨y, hy⟩ := get_back hl.symm hd
    exact ih i y d hy hd (h2 i y c hy hc)
  | @frz n es o l xs ys k hb hf hle hys hk =>
    intro x hx
    subst hk hys
    have hlen : ((xs.drop o).take l).length = l := by simp; omega
    have hB := (h.blk n _ hb).2
    obtain ⟨b1, b2, b3⟩ := hB
    cases hx with
    | hsnil h1 =>
      have : (xs.drop o).take 0 = [] := by simp
      rw [this]; exact .d (.slnil _)
    | @hs _ _ _ _ cap ad h1 h2 h3 h4 =>
      obtain ⟨bb, oo, sp⟩ := ad
      simp only at h3; subst h3
      by_cases h0 : l = 0
      · subst h0
        have : (xs.drop o).take 0 = [] := by simp
        rw [this]
        exact .d (RelD.sl (es := k) (xs := []) (by simp) (by simp) (by simp) (by simp) (by simp))
      · obtain ⟨b, o', e1, e2, e3⟩ := h4 (by omega)
        rw [e2]
        rcases b3 with ⟨_, b4⟩ | ⟨b', o'', arr, ty, b4, b5, b6⟩
        · rw [e1] at b4; cases b4
        · rw [e1] at b4; cases b4
          have hget : ∀ (i : Nat) (x : List DV), ((xs.drop o).take l)[i]? = some x → xs[o + i]? = some x := by
            intro i x hx
            rw [List.getElem?_take] at hx
            split at hx
            · rwa [List.getElem?_drop] at hx
            · simp at hx
          have e9 : ∀ i j, o' + o * k + (i * k + j) = o' + ((o + i) * k + j) := by intro i j; rw [Nat.add_mul]; omega
          have hcell : ∀ (i : Nat) (x : List DV) (j : Nat) (d : DV), ((xs.drop o).take l)[i]? = some x → x[j]? = some d → isCell d = true ∧ ∃ c, w.cell? ⟨b, o' + o * k + (i * k + j), none⟩ = some c ∧ RelD w Z d c := by
            intro i x j d hx hd
            obtain ⟨c1, c, c2, c3⟩ := b6 _ x j d (hget i x hx) hd
            exact ⟨c1, c, by rw [e9]; simp only [World.cell?, b5]; exact c2, c3⟩
          have := RelD.sl (w := w) (Z := wkZ Z inj st fz) (es := k) (xs := (xs.drop o).take l) (b := b) (o := o' + o * k) (cap := cap) (by rw [hlen]; exact h2) (fun _ => .inr ⟨n, hf, _, _, o', hb, e1⟩) (fun i x hx => b2 _ _ (hget i x hx))
            (fun i x j d hx hd => by obtain ⟨c1, c, c2, _⟩ := hcell i x j d hx hd; exact ⟨c1, c, c2⟩)
            (fun i x j d c hx hd hc => by obtain ⟨_, c', c2, c3⟩ := hcell i x j d hx hd; rw [c2] at hc; cases hc; exact c3.mono (fun _ _ => rfl) hz)
          rw [hlen] at this
          exact .d this
  | @frzB n es cs k hb hf hk =>
    intro x hx
    subst hk
    obtain ⟨b1, b2, b3⟩ := (h.blk n _ hb).2
    cases hx with | @ref _ _ _ _ b o h1 h2 =>
    rcases b3 with ⟨b4, _⟩ | ⟨b', o'', arr, ty, b4, b5, b6⟩
    · simp at b4
    · rw [h2] at b4; cases b4
      have hcell : ∀ (j : Nat) (d : DV), cs[j]? = some d → ∃ c, w.cell? ⟨b, o + (0 * k + 0) + j, none⟩ = some c ∧ RelD w Z d c := by
        intro j d hd
        obtain ⟨c1, c, c2, c3⟩ := b6 0 cs j d rfl hd
        exact ⟨c, by simp only [World.cell?, b5]; rw [← c2]; simp, c3⟩
      exact .d (.box (.inr ⟨n, hf, _, _, o, hb, h2⟩) (fun j d hd => by obtain ⟨c, c2, _⟩ := hcell j d hd; exact ⟨c, c2⟩)
        (fun j d c hd hc => by obtain ⟨c', c2, c3⟩ := hcell j d hd; rw [c2] at hc; cases hc; exact c3.mono (fun _ _ => rfl) hz))

theorem wb_rel (h : RelH w Z inj st.hp st.nx) {nx' n : Nat} {b b' : Blk} (hp : n ∉ ph) (hw : Wb st ρ fz ph nx' b b') (hb : RelB w Z inj st.nx (ρ n) b) : RelB w (wkZ Z inj st fz) (wkI inj ρ ph) nx' n b' := by
  have hz : ∀ b, Z b → wkZ Z inj st fz b := fun b hb => .inl hb
  have hi : wkI inj ρ ph n = inj (ρ n) := by simp [wkI, hp]
  cases hw with
  | dead => trivial
  | dat es xs =>
    obtain ⟨h1, h2, h3⟩ := hb
    refine ⟨h1, h2, ?_⟩
    rcases h3 with ⟨h3, h4⟩ | ⟨b, o, arr, ty, h3, h4, h5⟩
    · exact .inl ⟨h3, hi.trans h4⟩
    · exact .inr ⟨b, o, arr, ty, hi.trans h3, h4, fun i x j d hx hd => by obtain ⟨c1, c, c2, c3⟩ := h5 i x j d hx hd; exact ⟨c1, c, c2, c3.mono (fun _ _ => rfl) hz⟩⟩
  | cel hl hc =>
    obtain ⟨h1, h2, h3⟩ := hb
    refine ⟨h1, ?_, ?_⟩
    · intro i y hy
      obtain ⟨x, hx⟩ := get_back hl.symm hy
      rw [← (hc i x y hx hy).1]; exact h2 i x hx
    · rcases h3 with ⟨h3, h4⟩ | ⟨b, o, arr, ty, h3, h4, h5⟩
      · exact .inl ⟨List.eq_nil_of_length_eq_zero (by rw [← hl, h3]; rfl), hi.trans h4⟩
      · refine .inr ⟨b, o, arr, ty, hi.trans h3, h4, fun i y j d hy hd => ?_⟩
        obtain ⟨x, hx⟩ := get_back hl.symm hy
        obtain ⟨l1, l2⟩ := hc i x y hx hy
        obtain ⟨c0, hc0⟩ := get_back l1.symm hd
        obtain ⟨m1, m2⟩ := l2 j c0 d hc0 hd
        obtain ⟨c1, c, c2, c3⟩ := h5 i x j c0 hx hc0
        exact ⟨m2, c, c2, wv_rel h m1 c3⟩
  | datcel hl hc =>
    obtain ⟨h1, h2, h3⟩ := hb
    refine ⟨h1, ?_, ?_⟩
    · intro i y hy
      obtain ⟨x, hx⟩ := get_back hl.symm hy
      rw [← (hc i x y hx hy).1]; exact h2 i x hx
    · rcases h3 with ⟨h3, h4⟩ | ⟨b, o, arr, ty, h3, h4, h5⟩
      · exact .inl ⟨List.eq_nil_of_length_eq_zero (by rw [← hl, h3]; rfl), hi.trans h4⟩
      · refine .inr ⟨b, o, arr, ty, hi.trans h3, h4, fun i y j d hy hd => ?_⟩
        obtain ⟨x, hx⟩ := get_back hl.symm hy
        obtain ⟨l1, l2⟩ := hc i x y hx hy
        obtain ⟨c0, hc0⟩ := get_back l1.symm hd
        obtain ⟨m1, m2⟩ := l2 j c0 d hc0 hd
        obtain ⟨c1, c, c2, c3⟩ := h5 i x j c0 hx hc0
        exact ⟨m2, c, c2, wv_rel h m1 (.d c3)⟩
  | loop hs =>
    obtain ⟨b, tmps, D, fn, h1, h2, h3, h4⟩ := hb
    refine ⟨b, tmps, D, fn, hi.trans h1, h2, h3, fun t v' ht => ?_⟩
    obtain ⟨v, hv, hw⟩ := hs t v' ht
    obtain ⟨x, hx, hr⟩ := h4 t v hv
    exact ⟨x, hx, wv_rel h hw hr⟩

theorem wb_live {nx' : Nat} {b b' : Blk} (hw : Wb st ρ fz ph nx' b b') (hl : live b' = true) : live b = true := by
  cases hw <;> first | rfl | simp [live] at hl

theorem wk_sound (h : RelS w Z inj st a Ds) (hw : Wk base ρ fz ph st st') : RelS w (wkZ Z inj st fz) (wkI inj ρ ph) st' a Ds ∧ Ext w Z inj st.hp w (wkZ Z inj st fz) (wkI inj ρ ph) st'.hp base := by
  have back : ∀ n b', st'.blk n = some b' → live b' = true → ∀ p, wkI inj ρ ph n = some p → n ∉ ph ∧ ∃ b, st.blk (ρ n) = some b ∧ live b = true ∧ inj (ρ n) = some p := by
    intro n b' hb hl p hp
    have hnp : n ∉ ph := by intro hc; simp [wkI, hc] at hp
    obtain ⟨_, h2⟩ := hw.blocks n b' hb
    rcases h2 with ⟨h2, _⟩ | ⟨_, b, h3, h4⟩
    · exact absurd h2 hnp
    · exact ⟨hnp, b, h3, wb_live h4 hl, by simpa [wkI, hnp] using hp⟩
  refine ⟨⟨?_, ⟨?_, ?_, ?_, ?_, ?_⟩, h.defs, h.nodup, h.marks⟩, ?_⟩
  · intro t v' ht
    obtain ⟨v, hv, hwv⟩ := hw.slots t v' ht
    obtain ⟨x, hx, hr⟩ := h.slots t v hv
    exact ⟨x, hx, wv_rel h.heap hwv hr⟩
  · intro n b' hb
    obtain ⟨h1, h2⟩ := hw.blocks n b' hb
    refine ⟨h1, ?_⟩
    rcases h2 with ⟨h2, es, hes, rfl⟩ | ⟨h2, b, h3, h4⟩
    · exact ⟨hes, by simp, .inl ⟨rfl, by simp [wkI, h2]⟩⟩
    · exact wb_rel h.heap h2 h4 (h.heap.blk _ _ h3).2
  · intro n m b c p q hn hm hlb hlc hp hq hne
    obtain ⟨n1, b0, n2, n3, n4⟩ := back n b hn hlb p hp
    obtain ⟨m1, c0, m2, m3, m4⟩ := back m c hm hlc q hq
    exact h.heap.sep _ _ b0 c0 p q n2 m2 n3 m3 n4 m4 (fun e => hne (hw.inj n m b c hn hm n1 m1 e))
  · intro n b p hn hl hp hz
    obtain ⟨n1, b0, n2, n3, n4⟩ := back n b hn hl p hp
    rcases hz with hz | ⟨m, hm, es, xs, o, k1, k3⟩
    · exact h.heap.out _ b0 p n2 n3 n4 hz
    · exact h.heap.sep _ _ b0 _ p (p.1, o) n2 k1 n3 rfl n4 k3 (fun e => hw.free n b hn n1 (by rw [e]; exact hm)) rfl
  · intro b hz
    rcases hz with hz | ⟨m, hm, es, xs, o, k1, k3⟩
    · exact h.heap.zs b hz
    · exact h.heap.im_lt ⟨m, _, o, k1, rfl, k3⟩
  · intro b hz
    rcases hz with hz | ⟨m, hm, es, xs, o, k1, k3⟩
    · exact h.heap.zc b hz
    · obtain ⟨_, _, b3⟩ := (h.heap.blk m _ k1).2
      rcases b3 with ⟨_, b4⟩ | ⟨b', o'', arr, ty, b4, b5, _⟩
      · rw [k3] at b4; cases b4
      · rw [k3] at b4; cases b4; exact ⟨_, _, _, b5⟩
  · refine ⟨Nat.le_refl _, fun _ _ _ => rfl, ?_, fun _ c e f h => ⟨c, e, f, h, rfl⟩, fun _ r h => ⟨r, h, rfl⟩, fun _ h => .inl h, ?_, ?_, rfl, rfl, rfl, fun _ => rfl⟩
    · rintro b ⟨n, blk, o, k1, k2, k3⟩
      obtain ⟨n1, b0, n2, n3, n4⟩ := back n blk k1 k2 _ k3
      exact .inl ⟨_, b0, o, n2, n3, n4⟩
    · intro b hz
      rcases hz with hz | ⟨m, hm, es, xs, o, k1, k3⟩
      · exact .inl hz
      · exact .inr (.inl ⟨m, _, o, k1, rfl, k3⟩)
    · intro n hn
      have hnp : n ∉ ph := fun hc => by have := hw.phantom n hc; omega
      simp [wkI, hnp, hw.small n hn]
end
end Go.Am
