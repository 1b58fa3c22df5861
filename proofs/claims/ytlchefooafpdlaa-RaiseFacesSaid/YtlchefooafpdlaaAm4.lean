/- WHAT THE ABSTRACT MACHINE's STATES SAY OF THE MODEL's: the relation between the two, and what keeps it. -/
import Derived.Test.YtlchefooafpdlaaAm3
import Derived.ProofKit
namespace Go.Am
open Go

def live : Blk → Bool
  | .dead => false
  | _ => true

/-- Frozen data as it lies in memory: it reads cells of the blocks of Z alone. -/
inductive RelD (w : World) (Z : Nat → Prop) : DV → Value → Prop
  | int (k : IntKind) (n : Int) : RelD w Z (.int k n) (.int k n)
  | bool (b : Bool) : RelD w Z (.bool b) (.bool b)
  | str (s : ByteArray) : RelD w Z (.str s) (.string s)
  | agg {ds : List DV} {cs : Array Value} : ds.length = cs.size → (∀ (i : Nat) (d : DV) (c : Value), ds[i]? = some d → cs[i]? = some c → RelD w Z d c) → RelD w Z (.agg ds) (.agg cs)
  | tup {ds : List DV} {cs : Array Value} : ds.length = cs.size → (∀ (i : Nat) (d : DV) (c : Value), ds[i]? = some d → cs[i]? = some c → RelD w Z d c) → RelD w Z (.tup ds) (.tuple cs)
  | fn {f : FuncId} {ds : List DV} {cs : Array Value} : ds.length = cs.size → (∀ (i : Nat) (d : DV) (c : Value), ds[i]? = some d → cs[i]? = some c → RelD w Z d c) → RelD w Z (.fn f ds) (.func (.func f) #[] cs)
  | nilsl : RelD w Z .nilsl (.slice none 0 0)
  | slnil (es : Nat) : RelD w Z (.sl es []) (.slice none 0 0)
  | slemp (es : Nat) (a : Addr) : RelD w Z (.sl es []) (.slice (some a) 0 0)
  | sl {es : Nat} {xs : List (List DV)} {b o cap : Nat} : xs.length ≤ cap → (xs ≠ [] → Z b) → (∀ (i : Nat) (x : List DV), xs[i]? = some x → x.length = es) →
      (∀ (i : Nat) (x : List DV) (j : Nat) (d : DV), xs[i]? = some x → x[j]? = some d → isCell d = true ∧ ∃ c, w.cell? ⟨b, o + (i * es + j), none⟩ = some c) →
      (∀ (i : Nat) (x : List DV) (j : Nat) (d : DV) (c : Value), xs[i]? = some x → x[j]? = some d → w.cell? ⟨b, o + (i * es + j), none⟩ = some c → RelD w Z d c) →
      RelD w Z (.sl es xs) (.slice (some ⟨b, o, none⟩) xs.length cap)
  | nilp : RelD w Z .nilp (.pointer none)
  | nilf : RelD w Z .nilf .nilFunc
  | box {cs : List DV} {b o : Nat} : Z b → (∀ (j : Nat) (d : DV), cs[j]? = some d → ∃ c, w.cell? ⟨b, o + j, none⟩ = some c) →
      (∀ (j : Nat) (d : DV) (c : Value), cs[j]? = some d → w.cell? ⟨b, o + j, none⟩ = some c → RelD w Z d c) → RelD w Z (.box cs) (.pointer (some ⟨b, o, none⟩))

abbrev Inj := Nat → Option (Nat × Nat)

/-- Block b is a row of at least m cells. -/
def Big (w : World) (b m : Nat) : Prop := ∃ c e f, w.heap[b]? = some (.cells c e f) ∧ m ≤ c.size

/-- Rows of cells stay rows of as many cells; records of loops stay such. -/
def KeepBig (w w' : World) : Prop := ∀ (b : Nat) (c : Array Value) (e : TypeId) (f : Nat × Nat), w.heap[b]? = some (Obj.cells c e f) → ∃ (c' : Array Value) (e' : TypeId) (f' : Nat × Nat), w'.heap[b]? = some (Obj.cells c' e' f') ∧ c'.size = c.size
def KeepLoops (w w' : World) : Prop := ∀ (b : Nat) (r : Loop), w.heap[b]? = some (Obj.loop r) → ∃ r' : Loop, w'.heap[b]? = some (Obj.loop r') ∧ r'.defers = r.defers

inductive RelV (w : World) (Z : Nat → Prop) (inj : Inj) (nx : Nat) : V → Value → Prop
  | d {x : DV} {v : Value} : RelD w Z x v → RelV w Z inj nx (.d x) v
  | agg {ds : List V} {cs : Array Value} : ds.length = cs.size → (∀ (i : Nat) (d : V) (c : Value), ds[i]? = some d → cs[i]? = some c → RelV w Z inj nx d c) → RelV w Z inj nx (.agg ds) (.agg cs)
  | tup {ds : List V} {cs : Array Value} : ds.length = cs.size → (∀ (i : Nat) (d : V) (c : Value), ds[i]? = some d → cs[i]? = some c → RelV w Z inj nx d c) → RelV w Z inj nx (.tup ds) (.tuple cs)
  | fn {f : FuncId} {ds : List V} {cs : Array Value} : ds.length = cs.size → (∀ (i : Nat) (d : V) (c : Value), ds[i]? = some d → cs[i]? = some c → RelV w Z inj nx d c) → RelV w Z inj nx (.fn f ds) (.func (.func f) #[] cs)
  | ref {n es i j b o : Nat} : n < nx → inj n = some (b, o) → RelV w Z inj nx (.ref n es i j) (.pointer (some ⟨b, o + (i * es + j), none⟩))
  | dref {cs : List DV} {j b o : Nat} : Z b → (∀ (k : Nat) (d : DV), cs[k]? = some d → ∃ c, w.cell? ⟨b, o + k, none⟩ = some c) →
      (∀ (k : Nat) (d : DV) (c : Value), cs[k]? = some d → w.cell? ⟨b, o + k, none⟩ = some c → RelD w Z d c) → RelV w Z inj nx (.dref cs j) (.pointer (some ⟨b, o + j, none⟩))
  | hsnil {n es off : Nat} : n < nx → RelV w Z inj nx (.hs n es off 0) (.slice none 0 0)
  | hs {n es off len cap : Nat} {a : Addr} : n < nx → len ≤ cap → a.spot = none → (cap ≠ 0 → ∃ b o, inj n = some (b, o) ∧ a = ⟨b, o + off * es, none⟩ ∧ Big w b (o + (off + cap) * es)) → RelV w Z inj nx (.hs n es off len) (.slice (some a) len cap)
  | yld {n b o : Nat} : n < nx → inj n = some (b, o) → RelV w Z inj nx (.yld n) (.func (.yield b) #[] #[])
  | dead (v : Value) : RelV w Z inj nx .dead v

def RelSlots (w : World) (Z : Nat → Prop) (inj : Inj) (nx : Nat) (s : List (Nat × V)) (tmps : Array Value) : Prop :=
  ∀ t v, find s t = some v → ∃ x, tmps[t]? = some x ∧ RelV w Z inj nx v x

def RelB (w : World) (Z : Nat → Prop) (inj : Inj) (nx n : Nat) : Blk → Prop
  | .dead => True
  | .dat es xs => es ≠ 0 ∧ (∀ (i : Nat) (x : List DV), xs[i]? = some x → x.length = es) ∧ ((xs = [] ∧ inj n = none) ∨ ∃ b o arr ty, inj n = some (b, o) ∧ w.heap[b]? = some (.cells arr ty (0, 0)) ∧
      ∀ (i : Nat) (x : List DV) (j : Nat) (d : DV), xs[i]? = some x → x[j]? = some d → isCell d = true ∧ ∃ c, arr[o + (i * es + j)]? = some c ∧ RelD w Z d c)
  | .cel es xs => es ≠ 0 ∧ (∀ (i : Nat) (x : List V), xs[i]? = some x → x.length = es) ∧ ((xs = [] ∧ inj n = none) ∨ ∃ b o arr ty, inj n = some (b, o) ∧ w.heap[b]? = some (.cells arr ty (0, 0)) ∧
      ∀ (i : Nat) (x : List V) (j : Nat) (d : V), xs[i]? = some x → x[j]? = some d → vCell d = true ∧ ∃ c, arr[o + (i * es + j)]? = some c ∧ RelV w Z inj nx d c)
  | .loop s ps assign body ls pe => ∃ b tmps D fn, inj n = some (b, 0) ∧ w.heap[b]? = some (.loop { state := ls, pending := pe, fn := fn, tmps := tmps, params := ps.toArray, assign := assign, body := body, defers := D }) ∧
      (codeOk tmps.size assign = true ∧ codeOk tmps.size body = true ∧ ∀ p ∈ ps, p < tmps.size) ∧ RelSlots w Z inj nx s tmps

def im (hp : List (Nat × Blk)) (inj : Inj) (b : Nat) : Prop := ∃ n blk o, find hp n = some blk ∧ live blk = true ∧ inj n = some (b, o)

structure RelH (w : World) (Z : Nat → Prop) (inj : Inj) (hp : List (Nat × Blk)) (nx : Nat) : Prop where
  blk : ∀ n b, find hp n = some b → n < nx ∧ RelB w Z inj nx n b
  sep : ∀ n m b c p q, find hp n = some b → find hp m = some c → live b = true → live c = true → inj n = some p → inj m = some q → n ≠ m → p.1 ≠ q.1
  out : ∀ n b p, find hp n = some b → live b = true → inj n = some p → ¬ Z p.1
  zs : ∀ b, Z b → b < w.heap.size
  zc : ∀ b, Z b → ∃ c e f, w.heap[b]? = some (.cells c e f)

structure RelS (w : World) (Z : Nat → Prop) (inj : Inj) (st : AS) (a : Act) (Ds : List Nat) : Prop where
  slots : RelSlots w Z inj st.nx st.sl a.tmps
  heap : RelH w Z inj st.hp st.nx
  defs : a.defers = Ds.map fun D => { target := .collected D, args := #[] }
  nodup : Ds.Nodup
  marks : ∀ D ∈ Ds, w.heap[D]? = some (.deferred (some []))

structure Ext (w : World) (Z : Nat → Prop) (inj : Inj) (hp : List (Nat × Blk)) (w' : World) (Z' : Nat → Prop) (inj' : Inj) (hp' : List (Nat × Blk)) (pin : Nat) : Prop where
  size : w.heap.size ≤ w'.heap.size
  keep : ∀ b, b < w.heap.size → ¬ im hp inj b → w'.heap[b]? = w.heap[b]?
  imm : ∀ b, im hp' inj' b → im hp inj b ∨ w.heap.size ≤ b
  big : KeepBig w w'
  loops : KeepLoops w w'
  zin : ∀ b, Z b → Z' b
  zout : ∀ b, Z' b → Z b ∨ im hp inj b ∨ w.heap.size ≤ b
  pinj : ∀ n, n < pin → inj' n = inj n
  tape : w'.tape = w.tape
  os : w'.os = w.os
  output : w'.output = w.output
  frz : ∀ a, w'.frozen? a = w.frozen? a

/-- A new block with no frozen part. -/
def Unfr : Obj → Prop
  | .cells _ _ f => f = (0, 0)
  | _ => True
theorem frozen_alloc (w : World) {o : Obj} (ho : Unfr o) (a : Addr) : (w.alloc o).frozen? a = w.frozen? a := by
  by_cases h : a.block = w.heap.size
  · have e1 : (w.alloc o).heap[a.block]? = some o := by rw [h]; show (w.heap.push o)[w.heap.size]? = some o; simp
    have e2 : w.heap[a.block]? = none := by rw [h]; simp
    simp only [World.frozen?, e1, e2]
    cases o <;> try rfl
    simp only [Unfr] at ho; subst ho; simp
  · have : (w.alloc o).heap[a.block]? = w.heap[a.block]? := by
      show (w.heap.push o)[a.block]? = _
      rw [Array.getElem?_push]; simp [h]
    simp only [World.frozen?, this]

/-! ### What keeps the relation -/
theorem cell?_congr {w w' : World} {a : Addr} (h : w'.heap[a.block]? = w.heap[a.block]?) : w'.cell? a = w.cell? a := by
  simp only [World.cell?, h]

theorem RelD.mono {w w' : World} {Z Z' : Nat → Prop} {d : DV} {v : Value} (h : RelD w Z d v) (hw : ∀ b, Z b → w'.heap[b]? = w.heap[b]?) (hz : ∀ b, Z b → Z' b) : RelD w' Z' d v := by
  induction h with
  | int k n => exact .int k n
  | bool b => exact .bool b
  | str s => exact .str s
  | agg hl _ ih => exact .agg hl ih
  | tup hl _ ih => exact .tup hl ih
  | fn hl _ ih => exact .fn hl ih
  | nilsl => exact .nilsl
  | slnil es => exact .slnil es
  | slemp es a => exact .slemp es a
  | @sl es xs b o cap hc hb hl hs _ ih =>
    have hne : ∀ (i : Nat) (x : List DV), xs[i]? = some x → Z b := fun i x hx => hb (by rintro rfl; simp at hx)
    refine .sl hc (fun h => hz _ (hb h)) hl ?_ ?_
    · intro i x j d hx hd
      rw [cell?_congr (w := w) (hw b (hne i x hx))]; exact hs i x j d hx hd
    · intro i x j d c hx hd hcell
      rw [cell?_congr (w := w) (hw b (hne i x hx))] at hcell
      exact ih i x j d c hx hd hcell
  | nilp => exact .nilp
  | nilf => exact .nilf
  | @box cs b o hb hs _ ih =>
    refine .box (hz _ hb) ?_ ?_
    · intro j d hd; rw [cell?_congr (w := w) (hw b hb)]; exact hs j d hd
    · intro j d c hd hcell
      rw [cell?_congr (w := w) (hw b hb)] at hcell
      exact ih j d c hd hcell

theorem Big.mono {w w' : World} {b m : Nat} (h : Big w b m) (hb : KeepBig w w') : Big w' b m := by
  obtain ⟨c, e, f, h1, h2⟩ := h
  obtain ⟨c', e', f', h3, h4⟩ := hb _ _ _ _ h1
  exact ⟨c', e', f', h3, by omega⟩

theorem RelV.mono {w w' : World} {Z Z' : Nat → Prop} {inj inj' : Inj} {nx nx' : Nat} {x : V} {v : Value} (h : RelV w Z inj nx x v) (hw : ∀ b, Z b → w'.heap[b]? = w.heap[b]?) (hz : ∀ b, Z b → Z' b)
    (hb : KeepBig w w') (hi : ∀ n, n < nx → inj' n = inj n) (hn : nx ≤ nx') : RelV w' Z' inj' nx' x v := by
  induction h with
  | d h => exact .d (h.mono hw hz)
  | agg hl _ ih => exact .agg hl ih
  | tup hl _ ih => exact .tup hl ih
  | fn hl _ ih => exact .fn hl ih
  | ref h1 h2 => exact .ref (by omega) ((hi _ h1).trans h2)
  | @dref cs j b o h1 h2 h3 =>
    refine .dref (hz _ h1) ?_ ?_
    · intro k d hd; rw [cell?_congr (w := w) (hw b h1)]; exact h2 k d hd
    · intro k d c hd hcell
      rw [cell?_congr (w := w) (hw b h1)] at hcell
      exact (h3 k d c hd hcell).mono hw hz
  | hsnil h1 => exact .hsnil (by omega)
  | hs h1 h2 hsp h3 =>
    refine .hs (by omega) h2 hsp fun hc => ?_
    obtain ⟨b, o, e1, e2, e3⟩ := h3 hc
    exact ⟨b, o, (hi _ h1).trans e1, e2, e3.mono hb⟩
  | yld h1 h2 => exact .yld (by omega) ((hi _ h1).trans h2)
  | dead v => exact .dead v

theorem RelSlots.mono {w w' : World} {Z Z' : Nat → Prop} {inj inj' : Inj} {nx nx' : Nat} {s : List (Nat × V)} {tmps : Array Value} (h : RelSlots w Z inj nx s tmps) (hw : ∀ b, Z b → w'.heap[b]? = w.heap[b]?) (hz : ∀ b, Z b → Z' b)
    (hb : KeepBig w w') (hi : ∀ n, n < nx → inj' n = inj n) (hn : nx ≤ nx') : RelSlots w' Z' inj' nx' s tmps :=
  fun t v ht => let ⟨x, hx, hr⟩ := h t v ht; ⟨x, hx, hr.mono hw hz hb hi hn⟩

/-- A block that lies as it lay is related as it was. -/
theorem RelB.mono {w w' : World} {Z Z' : Nat → Prop} {inj inj' : Inj} {nx nx' n : Nat} {b : Blk} (h : RelB w Z inj nx n b) (hw : ∀ b, Z b → w'.heap[b]? = w.heap[b]?) (hz : ∀ b, Z b → Z' b)
    (hb : KeepBig w w') (hi : ∀ n, n < nx → inj' n = inj n) (hn : nx ≤ nx') (hnn : n < nx)
    (hs : ∀ p, inj n = some p → live b = true → w'.heap[p.1]? = w.heap[p.1]?) : RelB w' Z' inj' nx' n b := by
  cases b with
  | dead => trivial
  | dat es xs =>
    obtain ⟨h1, h2, h3⟩ := h
    refine ⟨h1, h2, ?_⟩
    rcases h3 with ⟨h3, h4⟩ | ⟨b, o, arr, ty, h3, h4, h5⟩
    · exact .inl ⟨h3, (hi _ hnn).trans h4⟩
    · refine .inr ⟨b, o, arr, ty, (hi _ hnn).trans h3, (hs _ h3 rfl).trans h4, ?_⟩
      intro i x j d hx hd
      obtain ⟨h6, c, h7, h8⟩ := h5 i x j d hx hd
      exact ⟨h6, c, h7, h8.mono hw hz⟩
  | cel es xs =>
    obtain ⟨h1, h2, h3⟩ := h
    refine ⟨h1, h2, ?_⟩
    rcases h3 with ⟨h3, h4⟩ | ⟨b, o, arr, ty, h3, h4, h5⟩
    · exact .inl ⟨h3, (hi _ hnn).trans h4⟩
    · refine .inr ⟨b, o, arr, ty, (hi _ hnn).trans h3, (hs _ h3 rfl).trans h4, ?_⟩
      intro i x j d hx hd
      obtain ⟨h6, c, h7, h8⟩ := h5 i x j d hx hd
      exact ⟨h6, c, h7, h8.mono hw hz hb hi hn⟩
  | loop s ps assign body dn pe =>
    obtain ⟨b, tmps, D, fn, h1, h2, h3, h4⟩ := h
    exact ⟨b, tmps, D, fn, (hi _ hnn).trans h1, (hs _ h1 rfl).trans h2, h3, h4.mono hw hz hb hi hn⟩

theorem RelB.lt {w : World} {Z : Nat → Prop} {inj : Inj} {nx n : Nat} {b : Blk} (h : RelB w Z inj nx n b) (hl : live b = true) {p : Nat × Nat} (hp : inj n = some p) :
    (∃ arr ty, w.heap[p.1]? = some (.cells arr ty (0, 0))) ∨ ∃ r, w.heap[p.1]? = some (.loop r) := by
  cases b with
  | dead => simp [live] at hl
  | dat es xs =>
    obtain ⟨_, _, h3⟩ := h
    rcases h3 with ⟨_, h4⟩ | ⟨b, o, arr, ty, h3, h4, _⟩
    · rw [h4] at hp; cases hp
    · rw [h3] at hp; cases hp; exact .inl ⟨_, _, h4⟩
  | cel es xs =>
    obtain ⟨_, _, h3⟩ := h
    rcases h3 with ⟨_, h4⟩ | ⟨b, o, arr, ty, h3, h4, _⟩
    · rw [h4] at hp; cases hp
    · rw [h3] at hp; cases hp; exact .inl ⟨_, _, h4⟩
  | loop s ps assign body dn pe =>
    obtain ⟨b, tmps, D, fn, h1, h2, _, _⟩ := h
    rw [h1] at hp; cases hp; exact .inr ⟨_, h2⟩

theorem some_lt {w : World} {b : Nat} {o : Obj} (h : w.heap[b]? = some o) : b < w.heap.size := (Array.getElem?_eq_some_iff.1 h).1

theorem RelH.im_obj {w : World} {Z : Nat → Prop} {inj : Inj} {hp : List (Nat × Blk)} {nx : Nat} (h : RelH w Z inj hp nx) {b : Nat} (hi : im hp inj b) :
    (∃ arr ty, w.heap[b]? = some (.cells arr ty (0, 0))) ∨ ∃ r, w.heap[b]? = some (.loop r) := by
  obtain ⟨n, blk, o, h1, h2, h3⟩ := hi
  exact (h.blk n blk h1).2.lt h2 h3

theorem RelH.im_lt {w : World} {Z : Nat → Prop} {inj : Inj} {hp : List (Nat × Blk)} {nx : Nat} (h : RelH w Z inj hp nx) {b : Nat} (hi : im hp inj b) : b < w.heap.size := by
  rcases h.im_obj hi with ⟨arr, ty, e⟩ | ⟨r, e⟩ <;> exact some_lt e

theorem RelH.z_im {w : World} {Z : Nat → Prop} {inj : Inj} {hp : List (Nat × Blk)} {nx : Nat} (h : RelH w Z inj hp nx) {b : Nat} (hz : Z b) : ¬ im hp inj b := by
  rintro ⟨n, blk, o, h1, h2, h3⟩
  exact h.out n blk _ h1 h2 h3 hz

theorem Ext.zkeep {w w' : World} {Z Z' : Nat → Prop} {inj inj' : Inj} {hp hp' : List (Nat × Blk)} {nx pin : Nat} (e : Ext w Z inj hp w' Z' inj' hp' pin) (h : RelH w Z inj hp nx) : ∀ b, Z b → w'.heap[b]? = w.heap[b]? :=
  fun b hz => e.keep b (h.zs b hz) (h.z_im hz)

theorem Ext.refl {w : World} {Z : Nat → Prop} {inj : Inj} {hp : List (Nat × Blk)} {pin : Nat} : Ext w Z inj hp w Z inj hp pin :=
  ⟨Nat.le_refl _, fun _ _ _ => rfl, fun _ h => .inl h, fun _ c e f h => ⟨c, e, f, h, rfl⟩, fun _ r h => ⟨r, h, rfl⟩, fun _ h => h, fun _ h => .inl h, fun _ _ => rfl, rfl, rfl, rfl, fun _ => rfl⟩

theorem Ext.trans {w0 w1 w2 : World} {Z0 Z1 Z2 : Nat → Prop} {i0 i1 i2 : Inj} {h0 h1 h2 : List (Nat × Blk)} {p q : Nat} (a : Ext w0 Z0 i0 h0 w1 Z1 i1 h1 p) (b : Ext w1 Z1 i1 h1 w2 Z2 i2 h2 q) (hpq : p ≤ q) : Ext w0 Z0 i0 h0 w2 Z2 i2 h2 p := by
  refine ⟨Nat.le_trans a.size b.size, ?_, ?_, ?_, ?_, fun x h => b.zin x (a.zin x h), ?_, ?_, b.tape.trans a.tape, b.os.trans a.os, b.output.trans a.output, fun x => (b.frz x).trans (a.frz x)⟩
  · intro x hx hi
    rw [b.keep x (Nat.lt_of_lt_of_le hx a.size) (fun h => (a.imm x h).elim hi (fun h => by omega)), a.keep x hx hi]
  · intro x hx
    rcases b.imm x hx with h | h
    · exact a.imm x h
    · exact .inr (Nat.le_trans a.size h)
  · intro x c e f h
    obtain ⟨c1, e1, f1, h1, s1⟩ := a.big x c e f h
    obtain ⟨c2, e2, f2, h2, s2⟩ := b.big x c1 e1 f1 h1
    exact ⟨c2, e2, f2, h2, s2.trans s1⟩
  · intro x r h
    obtain ⟨r1, h1, s1⟩ := a.loops x r h
    obtain ⟨r2, h2, s2⟩ := b.loops x r1 h1
    exact ⟨r2, h2, s2.trans s1⟩
  · intro x hx
    rcases b.zout x hx with h | h | h
    · exact a.zout x h
    · rcases a.imm x h with h | h
      · exact .inr (.inl h)
      · exact .inr (.inr h)
    · exact .inr (.inr (Nat.le_trans a.size h))
  · intro n hn
    rw [b.pinj n (by omega), a.pinj n hn]

theorem Ext.pin_le {w w' : World} {Z Z' : Nat → Prop} {i i' : Inj} {h h' : List (Nat × Blk)} {p q : Nat} (e : Ext w Z i h w' Z' i' h' p) (hq : q ≤ p) : Ext w Z i h w' Z' i' h' q :=
  { e with pinj := fun n hn => e.pinj n (by omega) }

theorem Ext.marks {w w' : World} {Z Z' : Nat → Prop} {inj inj' : Inj} {hp hp' : List (Nat × Blk)} {nx pin : Nat} (e : Ext w Z inj hp w' Z' inj' hp' pin) (h : RelH w Z inj hp nx) {D : Nat} (hD : w.heap[D]? = some (.deferred (some []))) :
    w'.heap[D]? = some (.deferred (some [])) := by
  rw [e.keep D (some_lt hD) ?_]; exact hD
  intro hi
  rcases h.im_obj hi with ⟨arr, ty, e'⟩ | ⟨r, e'⟩ <;> rw [hD] at e' <;> cases e'
end Go.Am
