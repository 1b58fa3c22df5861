/- ARGUMENTS: what a start's arguments are, as the abstract machine's data. -/
import Derived.Test.YtlchefooafpdlaaAm27
import Derived.ProofKit
import Derived.OpenShut
import Derived.Deep.Slices
namespace Go.Am
open Go
open Go.ChangeShapes Go.WideShapes Go.ChangeAt Go.RowKit Go.Deep

/-- A cell's type. -/
inductive CT where
  | int (k : IntKind)
  | bool
  | str
  | sl (l : List CT)

/-- Fields that lie one behind the other. -/
def tileC (P : Program) (f : TypeId → Option (List CT)) : Nat → List Field → Option (List CT)
  | _, [] => some []
  | o, x :: r => match f x.type with
    | some a => if x.offset = o ∧ P.cellsOf x.type = a.length then
        match tileC P f (o + a.length) r with
        | some b => some (a ++ b)
        | none => none
      else none
    | none => none

/-- A type's cells, one behind the other. -/
def tyL (P : Program) : Nat → TypeId → Option (List CT)
  | 0, _ => none
  | f + 1, t => match P.underlying t with
    | some .bool => some [.bool]
    | some (.int k) => some [.int k]
    | some .string => some [.str]
    | some (.slice e) => match tyL P f e with
      | some l => if l.length = P.cellsOf e ∧ l.length ≠ 0 then some [.sl l] else none
      | none => none
    | some (.struct fs) => match tileC P (tyL P f) 0 fs.toList with
      | some l => if l.length = P.cellsOf t then some l else none
      | none => none
    | _ => none

/-- Data of a cell's type. -/
inductive Ty : CT → DV → Prop
  | int {k : IntKind} {n : Int} : (Lit.int k n).wf = true → Ty (.int k) (.int k n)
  | bool (b : Bool) : Ty .bool (.bool b)
  | str {s : ByteArray} : s.size ≤ maxLen → Ty .str (.str s)
  | nil (l : List CT) : Ty (.sl l) .nilsl
  | sl {l : List CT} {xs : List (List DV)} : xs.length ≤ maxLen → (∀ (i : Nat) (x : List DV), xs[i]? = some x → x.length = l.length) →
      (∀ (i : Nat) (x : List DV) (j : Nat) (c : CT) (d : DV), xs[i]? = some x → l[j]? = some c → x[j]? = some d → Ty c d) → Ty (.sl l) (.sl l.length xs)

section
variable {H : Type} {enc : TypeId × Value → H} {P : Program} {w : World} {base : Nat} {held : Bool}

def ZC (w : World) (b : Nat) : Prop := ∃ c e f, w.heap[b]? = some (.cells c e f)

theorem Ty.cell {c : CT} {d : DV} (h : Ty c d) : isCell d = true := by cases h <;> rfl

/-- Cells that read so: typed data that lies so. -/
def Reads (w : World) (l : List CT) (cs : List Value) : Prop :=
  cs.length = l.length ∧ ∃ ds : List DV, ds.length = l.length ∧ ∀ (j : Nat) (c : CT) (v : Value), l[j]? = some c → cs[j]? = some v → ∃ d, ds[j]? = some d ∧ Ty c d ∧ RelD w (ZC w) d v

theorem reads_one {c : CT} {v : Value} {d : DV} (ht : Ty c d) (hr : RelD w (ZC w) d v) : Reads w [c] [v] := by
  refine ⟨rfl, [d], rfl, fun j c' v' h1 h2 => ?_⟩
  cases j with
  | zero => simp at h1 h2; subst h1 h2; exact ⟨d, rfl, ht, hr⟩
  | succ j => simp at h1

theorem reads_append {l l' : List CT} {cs cs' : List Value} (h : Reads w l cs) (h' : Reads w l' cs') : Reads w (l ++ l') (cs ++ cs') := by
  obtain ⟨a1, ds, a2, a3⟩ := h
  obtain ⟨b1, ds', b2, b3⟩ := h'
  refine ⟨by simp [a1, b1], ds ++ ds', by simp [a2, b2], fun j c v hc hv => ?_⟩
  by_cases hj : j < l.length
  · rw [List.getElem?_append_left hj] at hc
    rw [List.getElem?_append_left (by omega)] at hv
    obtain ⟨d, e1, e2⟩ := a3 j c v hc hv
    exact ⟨d, by rw [List.getElem?_append_left (by omega)]; exact e1, e2⟩
  · rw [List.getElem?_append_right (by omega)] at hc
    rw [List.getElem?_append_right (by omega), a1] at hv
    obtain ⟨d, e1, e2⟩ := b3 _ c v hc hv
    exact ⟨d, by rw [List.getElem?_append_right (by omega), a2]; exact e1, e2⟩

theorem tile_reads {f : TypeId → Option (List CT)} {g : Field → List Value → Prop} (hg : ∀ (x : Field) (l : List CT) (cs : List Value), f x.type = some l → g x cs → Reads w l cs) :
    ∀ (fs : List Field) (o : Nat) (l : List CT) (cs : List Value), tileC P f o fs = some l → o + l.length = cs.length → (∀ x ∈ fs, g x ((cs.drop x.offset).take (P.cellsOf x.type))) → Reads w l (cs.drop o)
  | [], o, l, cs, h, hl, _ => by
    simp [tileC] at h; subst h
    simp at hl
    rw [hl]
    exact ⟨by simp, [], rfl, by simp⟩
  | x :: r, o, l, cs, h, hl, hx => by
    simp only [tileC] at h
    split at h <;> try simp at h
    rename_i a ha
    obtain ⟨⟨h1, h2⟩, h⟩ := h
    split at h <;> simp at h
    rename_i b hb
    subst h
    have e1 := hg x a _ ha (hx x (by simp))
    rw [h1, h2] at e1
    have e2 := tile_reads hg r (o + a.length) b cs hb (by simp at hl; omega) (fun y hy => hx y (by simp [hy]))
    have := reads_append e1 e2
    rw [← List.drop_drop] at this
    rwa [List.take_append_drop] at this

theorem trod_reads : ∀ (f : Nat) (t : TypeId) (l : List CT) (fuel : Nat) (cs : List Value) (x : DataW H × List MemPlace), tyL P f t = some l → DataW.trod enc P w base (fun _ => true) held fuel t cs = some x → Reads w l cs
  | 0, t, l, fuel, cs, x, hl, h => by simp [tyL] at hl
  | f + 1, t, l, fuel, cs, x, hl, h => by
    simp only [tyL] at hl
    split at hl <;> try simp at hl
    · rename_i ht
      subst hl
      cases fuel with
      | zero => simp [DataW.trod] at h
      | succ n =>
        unfold DataW.trod at h
        rw [ht] at h
        split at h <;> simp_all
        exact reads_one (.bool _) (.bool _)
    · rename_i k ht
      subst hl
      obtain ⟨n, rfl, _, hw⟩ := DataW.trod_int ht h
      exact reads_one (.int hw) (.int _ _)
    · rename_i ht
      subst hl
      cases fuel with
      | zero => simp [DataW.trod] at h
      | succ n =>
        unfold DataW.trod at h
        rw [ht] at h
        split at h <;> simp_all
        exact reads_one (.str (by omega)) (.str _)
    · rename_i e ht
      split at hl <;> simp at hl
      rename_i le hle
      obtain ⟨⟨hlen, hne⟩, rfl⟩ := hl
      rcases open_slice ht h with ⟨rfl, _⟩ | ⟨a, len, cap, m, n, D, Pl, rfl, _, hlc, hcm, hm, _, hel⟩
      · exact reads_one (.nil _) .nilsl
      · obtain rfl : cap = m := by simpa using hm.symm
        -- an element
        have elem : ∀ i, i < cap → ∃ cs', w.cells? base (a.add (i * P.cellsOf e)) (P.cellsOf e) = some cs' ∧ Reads w le cs' := by
          intro i hi
          obtain ⟨cs', h1, h2⟩ := hel i hi
          exact ⟨cs', h1, trod_reads f e le n cs' _ hle h2⟩
        have hpos : 0 < P.cellsOf e := by rw [← hlen]; exact List.length_pos_iff.2 hne
        by_cases hc0 : cap = 0
        · subst hc0
          have : len = 0 := by omega
          subst this
          exact reads_one (.sl (xs := []) (by simp) (by simp) (by simp)) (.slemp _ _)
        · have hspot : a.spot = none ∧ ZC w a.block := by
            obtain ⟨cs', h1, _⟩ := elem 0 (by omega)
            obtain ⟨_, h2, h3⟩ := World.cells?_some h1
            have := h3 0 (by omega)
            obtain ⟨v, hv⟩ := ex_get (xs := cs') (i := 0) (by omega)
            rw [hv] at this
            simp [World.cell?, Addr.add] at this
            split at this <;> try simp at this
            rename_i c e' f' hc
            exact ⟨this.1, c, e', f', hc⟩
          obtain ⟨b, o, sp⟩ := a
          obtain ⟨hsp, hz⟩ := hspot
          simp only at hsp hz; subst hsp
          have elem2 : ∀ i, i < len → ∃ ds : List DV, ds.length = le.length ∧ ∀ (j : Nat) (c : CT), le[j]? = some c → ∃ d v, ds[j]? = some d ∧ Ty c d ∧ w.cell? ⟨b, o + (i * le.length + j), none⟩ = some v ∧ RelD w (ZC w) d v := by
            intro i hi
            obtain ⟨cs', h1, h4, ds, h5, h6⟩ := elem i (by omega)
            obtain ⟨_, h2, h3⟩ := World.cells?_some h1
            refine ⟨ds, h5, fun j c hj => ?_⟩
            have hjl := lt_size hj
            obtain ⟨v, hv⟩ := ex_get (xs := cs') (i := j) (by omega)
            obtain ⟨d, g1, g2, g3⟩ := h6 j c v hj hv
            have := h3 j (by omega)
            rw [hv, addr_add, addr_add, ← hlen, Nat.add_assoc] at this
            exact ⟨d, v, g1, g2, this, g3⟩
          obtain ⟨F, hF⟩ := choose_lt elem2
          have hget : ∀ (i : Nat) (x : List DV), ((List.range len).map F)[i]? = some x → i < len ∧ x = F i := by
            intro i x hx
            simp only [List.getElem?_map, Option.map_eq_some_iff] at hx
            obtain ⟨k, hk, rfl⟩ := hx
            have hi : i < len := by simpa using lt_size hk
            rw [List.getElem?_range hi] at hk
            cases hk
            exact ⟨hi, rfl⟩
          have hlen2 : ((List.range len).map F).length = len := by simp
          have hrel : RelD w (ZC w) (.sl le.length ((List.range len).map F)) (.slice (some ⟨b, o, none⟩) ((List.range len).map F).length cap) := by
            refine .sl (by rw [hlen2]; exact hlc) (fun _ => hz) ?_ ?_ ?_
            · intro i x hx
              obtain ⟨hi, rfl⟩ := hget i x hx
              exact (hF i hi).1
            · intro i x j d hx hd
              obtain ⟨hi, rfl⟩ := hget i x hx
              obtain ⟨c, hc⟩ := ex_get (xs := le) (i := j) (by rw [← (hF i hi).1]; exact lt_size hd)
              obtain ⟨d', v, g1, g2, g3, g4⟩ := (hF i hi).2 j c hc
              rw [hd] at g1; cases g1
              exact ⟨g2.cell, v, g3⟩
            · intro i x j d v hx hd hv
              obtain ⟨hi, rfl⟩ := hget i x hx
              obtain ⟨c, hc⟩ := ex_get (xs := le) (i := j) (by rw [← (hF i hi).1]; exact lt_size hd)
              obtain ⟨d', v', g1, g2, g3, g4⟩ := (hF i hi).2 j c hc
              rw [hd] at g1; cases g1
              rw [hv] at g3; cases g3
              exact g4
          rw [hlen2] at hrel
          refine reads_one (.sl (by rw [hlen2]; omega) ?_ ?_) hrel
          · intro i x hx
            obtain ⟨hi, rfl⟩ := hget i x hx
            exact (hF i hi).1
          · intro i x j c d hx hc hd
            obtain ⟨hi, rfl⟩ := hget i x hx
            obtain ⟨d', v, g1, g2, _⟩ := (hF i hi).2 j c hc
            rw [hd] at g1; cases g1
            exact g2
    · rename_i fs ht
      split at hl <;> simp at hl
      rename_i l' hl'
      obtain ⟨hlen, rfl⟩ := hl
      obtain ⟨xs, n, _, _, hcl, hxl, hf⟩ := DataW.trod_struct ht h
      have := tile_reads (P := P) (w := w) (f := tyL P f) (g := fun x cs => ∃ y, DataW.trod enc P w base (fun _ => true) held n x.type cs = some y) (fun x l cs h1 ⟨y, h2⟩ => trod_reads f x.type l n cs y h1 h2) fs.toList 0 l' cs hl' (by omega) ?_
      · simpa using this
      · intro x hx
        obtain ⟨i, hi⟩ := List.getElem?_of_mem hx
        have := hf i x (by simpa using hi)
        obtain ⟨y, hy⟩ := ex_get (xs := xs) (i := i) (by have := lt_size hi; simp at this; omega)
        exact ⟨y, by rw [this]; exact hy⟩
end
end Go.Am
