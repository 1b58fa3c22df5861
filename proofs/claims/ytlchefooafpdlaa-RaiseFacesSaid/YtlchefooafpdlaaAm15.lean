/- EACH OPERATION OF THE ABSTRACT MACHINE SAYS WHAT THE MODEL's DOES (10): append, whole; copy; len, min, max. -/
import Derived.Test.YtlchefooafpdlaaAm14
namespace Go.Am
open Go
variable {P : Program} {T : Tab}

section
variable {w : World} {Z : Nat → Prop} {inj : Inj}

/-- A block that lies nowhere: no element yet. -/
theorem RelH.newPh {hp : List (Nat × Blk)} {nx : Nat} (hr : RelH w Z inj hp nx) (blk : Blk) (hb : RelB w Z (upd inj nx none) (nx + 1) nx blk) : RelH w Z (upd inj nx none) ((nx, blk) :: hp) (nx + 1) := by
  refine ⟨?_, ?_, ?_, hr.zs, hr.zc⟩
  · intro n b h
    rw [find_cons] at h
    by_cases hn : nx = n
    · subst hn; simp at h; subst h; exact ⟨by omega, hb⟩
    · simp only [hn, if_false] at h
      obtain ⟨h1, h2⟩ := hr.blk n b h
      exact ⟨by omega, h2.mono (fun _ _ => rfl) (fun _ h => h) (Sem.keepBig_of_same rfl) (fun m hm => upd_lt _ _ hm) (by omega) h1 (fun _ _ _ => rfl)⟩
  · intro n m b c p q hn hm hlb hlc hp hq hne
    rw [find_cons] at hn hm
    by_cases h1 : nx = n
    · subst h1; rw [upd_same] at hp; cases hp
    · by_cases h2 : nx = m
      · subst h2; rw [upd_same] at hq; cases hq
      · simp only [h1, h2, if_false] at hn hm
        rw [upd_lt _ _ (hr.blk n b hn).1] at hp
        rw [upd_lt _ _ (hr.blk m c hm).1] at hq
        exact hr.sep n m b c p q hn hm hlb hlc hp hq hne
  · intro n b p h hl hp
    rw [find_cons] at h
    by_cases hn : nx = n
    · subst hn; rw [upd_same] at hp; cases hp
    · simp only [hn, if_false] at h
      rw [upd_lt _ _ (hr.blk n b h).1] at hp
      exact hr.out n b p h hl hp
theorem Ext.newPh {hp : List (Nat × Blk)} {nx : Nat} (hr : RelH w Z inj hp nx) (blk : Blk) : Ext w Z inj hp w Z (upd inj nx none) ((nx, blk) :: hp) nx := by
  refine ⟨Nat.le_refl _, fun _ _ _ => rfl, ?_, fun _ c e f h => ⟨c, e, f, h, rfl⟩, fun _ r h => ⟨r, h, rfl⟩, fun _ h => h, fun _ h => .inl h, fun n hn => upd_lt _ _ hn, rfl, rfl, rfl, fun _ => rfl⟩
  rintro b ⟨n, blk', off', h1, h2, h3⟩
  rw [find_cons] at h1
  by_cases hn : nx = n
  · subst hn; rw [upd_same] at h3; cases h3
  · simp only [hn, if_false] at h1
    rw [upd_lt _ _ (hr.blk n blk' h1).1] at h3
    exact .inl ⟨n, blk', off', h1, h2, h3⟩

/-- A block goes on under a new name, its row written anew. -/
theorem RelH.move {hp : List (Nat × Blk)} {nx n : Nat} (hr : RelH w Z inj hp nx) {b0 blk : Blk} (hn : find hp n = some b0) (hl0 : live b0 = true) {g off off' : Nat} (hi : inj n = some (g, off)) {old cs : Array Value} {t : TypeId} {fr : Nat × Nat}
    (hg : w.heap[g]? = some (.cells old t fr)) (hs : cs.size = old.size) (hb : RelB (w.setRow g cs) Z (upd inj nx (some (g, off'))) (nx + 1) nx blk) :
    RelH (w.setRow g cs) Z (upd inj nx (some (g, off'))) ((nx, blk) :: repl hp n .dead) (nx + 1) := by
  have hzg : ∀ b, Z b → b ≠ g := fun b hz e => hr.out n b0 _ hn hl0 hi (by rw [← e]; exact hz)
  have key : ∀ m b, find (repl hp n .dead) m = some b → live b = true → find hp m = some b ∧ n ≠ m := by
    intro m b h hl
    rw [find_repl] at h
    by_cases hm : n = m
    · subst hm; simp [hn] at h; subst h; simp [live] at hl
    · simp only [hm, if_false] at h; exact ⟨h, hm⟩
  have hlt : ∀ m b, find (repl hp n .dead) m = some b → m < nx := by
    intro m b h
    rw [find_repl] at h
    by_cases hm : n = m
    · subst hm; exact (hr.blk n b0 hn).1
    · simp only [hm, if_false] at h; exact (hr.blk m b h).1
  refine ⟨?_, ?_, ?_, fun b hz => by simpa using hr.zs b hz, fun b hz => by rw [setRow_other w g b cs (hzg b hz)]; exact hr.zc b hz⟩
  · intro m b h
    rw [find_cons] at h
    by_cases hm : nx = m
    · subst hm; simp at h; subst h; exact ⟨by omega, hb⟩
    · simp only [hm, if_false] at h
      refine ⟨by have := hlt m b h; omega, ?_⟩
      by_cases hl : live b = true
      · obtain ⟨h1, h2⟩ := key m b h hl
        obtain ⟨h3, h4⟩ := hr.blk m b h1
        refine h4.mono (fun b hz => setRow_other w g b cs (hzg b hz)) (fun _ h => h) (keepBig_setRow w g old cs t fr hg hs) (fun _ hk => upd_lt _ _ hk) (by omega) h3 ?_
        intro p hp' hl'
        exact setRow_other w g p.1 cs (fun e => hr.sep n m b0 b _ _ hn h1 hl0 hl hi hp' h2 e.symm)
      · have : b = .dead := by cases b <;> simp_all [live]
        subst this; trivial
  · intro m k b c p q h1 h2 hlb hlc hpp hqq hne
    rw [find_cons] at h1 h2
    by_cases hm : nx = m
    · subst hm
      rw [upd_same] at hpp; cases hpp
      simp only [hne, if_false] at h2
      obtain ⟨h3, h4⟩ := key k c h2 hlc
      rw [upd_lt _ _ (hlt k c h2)] at hqq
      exact fun e => hr.sep n k b0 c (g, off) q hn h3 hl0 hlc hi hqq h4 e
    · simp only [hm, if_false] at h1
      obtain ⟨h3, h4⟩ := key m b h1 hlb
      rw [upd_lt _ _ (hlt m b h1)] at hpp
      by_cases hk : nx = k
      · subst hk
        rw [upd_same] at hqq; cases hqq
        exact fun e => hr.sep n m b0 b (g, off) p hn h3 hl0 hlb hi hpp h4 e.symm
      · simp only [hk, if_false] at h2
        obtain ⟨h5, h6⟩ := key k c h2 hlc
        rw [upd_lt _ _ (hlt k c h2)] at hqq
        exact hr.sep m k b c p q h3 h5 hlb hlc hpp hqq hne
  · intro m b p h hl hp' hz
    rw [find_cons] at h
    by_cases hm : nx = m
    · subst hm; rw [upd_same] at hp'; cases hp'; exact hr.out n b0 _ hn hl0 hi hz
    · simp only [hm, if_false] at h
      obtain ⟨h1, _⟩ := key m b h hl
      rw [upd_lt _ _ (hlt m b h)] at hp'
      exact hr.out m b p h1 hl hp' hz

theorem Ext.move {hp : List (Nat × Blk)} {nx n : Nat} (hr : RelH w Z inj hp nx) {b0 blk : Blk} (hn : find hp n = some b0) (hl0 : live b0 = true) {g off off' : Nat} (hi : inj n = some (g, off)) {old cs : Array Value} {t : TypeId} {fr : Nat × Nat}
    (hg : w.heap[g]? = some (.cells old t fr)) (hs : cs.size = old.size) : Ext w Z inj hp (w.setRow g cs) Z (upd inj nx (some (g, off'))) ((nx, blk) :: repl hp n .dead) nx := by
  refine ⟨by simp, ?_, ?_, keepBig_setRow w g old cs t fr hg hs, keepLoops_setRow w g old cs t fr hg, fun _ h => h, fun _ h => .inl h, fun m hm => upd_lt _ _ hm, rfl, rfl, rfl, frozen_setRow w g old cs t fr hg⟩
  · intro b _ hb
    exact setRow_other w g b cs (fun e => hb (by rw [e]; exact ⟨n, b0, off, hn, hl0, hi⟩))
  · rintro b ⟨m, blk', o', h1, h2, h3⟩
    rw [find_cons] at h1
    by_cases hm : nx = m
    · subst hm; rw [upd_same] at h3; cases h3; exact .inl ⟨n, b0, off, hn, hl0, hi⟩
    · simp only [hm, if_false] at h1
      rw [find_repl] at h1
      by_cases hk : n = m
      · subst hk; simp [hn] at h1; subst h1; simp [live] at h2
      · simp only [hk, if_false] at h1
        rw [upd_lt _ _ (hr.blk m blk' h1).1] at h3
        exact .inl ⟨m, blk', o', h1, h2, h3⟩
end

section
variable {w : World} {Z : Nat → Prop} {inj : Inj} {st : AS} {a : Act} {Ds : List Nat}

theorem grow_fits {need cap b : Nat} (hg : cap < need) (hr : need * (b * 4) ≤ room) : Builtin.nextslicecap need cap * b ≤ 281474976710656 := by
  have h1 := Nat.mul_le_mul_right b (Room.nextslicecap_le' hg)
  have h2 : 2 * need * b ≤ need * (b * 4) := by rw [Nat.mul_comm b 4, ← Nat.mul_assoc]; exact Nat.mul_le_mul_right b (by omega)
  unfold room at hr; omega
theorem need_small {need b : Nat} (hb : b ≠ 0) (hr : need * (b * 4) ≤ room) : need ≤ 4294967296 := by
  have : need * 1 ≤ need * (b * 4) := Nat.mul_le_mul_left _ (by omega)
  unfold room at hr; omega

/-- append that must grow: a new row. -/
theorem app_grow {t u ty : TypeId} {i : TI} {e e' : TypeId} {ie : TypeInfo} {ze : Value} (_h : RelS w Z inj st a Ds) (hu : P.underlying t = some (.slice e)) (hu' : P.underlying u = some (.slice e')) (g1 : P.info? e = some ie) (g3 : ie.zero = some ze)
    (g6 : ie.size = i.esize) (g7 : i.esize ≠ 0) (g8 : ie.bytes = i.ebytes) (g9 : i.ebytes ≠ 0) (gz : ze.cells.size = i.esize) {hp1 : List (Nat × Blk)} (hh : RelH w Z inj hp1 st.nx) (hext : Ext w Z inj st.hp w Z inj hp1 st.nx)
    {base ad : Option Addr} {cap cap' : Nat} {olds ys : List (List V)} {L0 L1 : List Value} (hl0 : L0.length = olds.length * i.esize) (hr0 : ERel w Z inj st.nx i.esize olds L0.toArray) (hs0 : SrcAt w base L0 olds)
    (hl1 : L1.length = ys.length * i.esize) (hr1 : ERel w Z inj st.nx i.esize ys L1.toArray) (hs1 : SrcAt w ad L1 ys) (hg : cap < olds.length + ys.length) (hroom : (olds.length + ys.length) * (i.ebytes * 4) ≤ room)
    {b1 : Blk} (hb1 : rowsOf b1 = some (i.esize, olds ++ ys)) :
    ∃ x w' inj', (Builtin.append_ #[t, u] ty #[.slice base olds.length cap, .slice ad ys.length cap']).run P w = .ok x w' ∧ RelV w' Z inj' (st.nx + 1) (.hs st.nx i.esize 0 (olds.length + ys.length)) x ∧ RelH w' Z inj' ((st.nx, b1) :: hp1) (st.nx + 1) ∧
      Ext w Z inj st.hp w' Z inj' ((st.nx, b1) :: hp1) st.nx := by
  have src0 := src_of (P := P) (tx := t) (cap := cap) g7 hu rfl hl0 hr0 hs0
  have src1 := src_of (P := P) (tx := u) (cap := cap') g7 hu' rfl hl1 hr1 hs1
  rw [← g6] at src0 src1
  have hsm := need_small g9 hroom
  have hfit := grow_fits hg hroom
  rw [← g8] at hfit
  have hrun := run_append_grow_src (P := P) w t u ty e ie ze hu g1 g3 base olds.length cap L0 src0.cellsD (.slice ad ys.length cap') ys.length L1 src1 hg (by omega) hfit
  have hge := grownCap_ge w (olds.length + ys.length) cap e
  generalize grownCap w (olds.length + ys.length) cap e = C at hrun hge
  generalize hA : (L0 ++ L1).toArray ++ Builtin.zeroCells ze.cells (C - (olds.length + ys.length)) = A at hrun
  have hsame : RelH w.drew Z inj hp1 st.nx := hh.same rfl
  have hER : ERel w Z inj st.nx i.esize (olds ++ ys) (L0.toArray ++ L1.toArray) := hr0.append hr1
  have mono : ∀ v x, RelV w Z inj st.nx v x → RelV (w.drew.alloc (.cells A e)) Z (upd inj st.nx (some (w.heap.size, 0))) (st.nx + 1) v x := fun v x hv =>
    hv.mono (fun b hz => alloc_old w.drew _ (hh.zs b hz)) (fun _ h => h) (keepBig_alloc w.drew _) (fun _ hm => upd_lt _ _ hm) (by omega)
  refine ⟨_, _, upd inj st.nx (some (w.heap.size, 0)), hrun, ?_, ?_, ?_⟩
  · refine .hs (by omega) hge rfl fun _ => ⟨w.heap.size, 0, upd_same _ _ _, by simp, A, e, (0, 0), alloc_new w.drew _, ?_⟩
    have h1 : A.size = L0.length + L1.length + (C - (olds.length + ys.length)) * i.esize := by
      rw [← hA]; simp [Builtin.zeroCells, gz]
    rw [h1, hl0, hl1, ← Nat.add_mul, ← Nat.add_mul]
    simp only [Nat.zero_add]
    exact Nat.mul_le_mul_right _ (by omega)
  · refine hsame.new (.cells A e) b1 0 ?_
    refine relB_of_rows hb1 g7 hER.2.1 (.inr ⟨w.heap.size, 0, A, e, upd_same _ _ _, alloc_new w.drew _, ?_⟩)
    have h9 := (hER.row (B := Builtin.zeroCells ze.cells (C - (olds.length + ys.length)))).mono mono
    rw [show L0.toArray ++ L1.toArray ++ Builtin.zeroCells ze.cells (C - (olds.length + ys.length)) = A from by rw [← hA]; simp] at h9
    exact h9
  · refine hext.trans ?_ (Nat.le_refl _)
    have e1 : Ext w Z inj hp1 w.drew Z inj hp1 st.nx := Ext.same rfl rfl rfl rfl
    exact e1.trans (Ext.new hsame (.cells A e) b1 0) (Nat.le_refl _)

/-- append that fits, onto a row of the machine's own that lies somewhere. -/
theorem app_fits {t u ty : TypeId} {i : TI} {e e' : TypeId} {ie : TypeInfo} (h : RelS w Z inj st a Ds) (hu : P.underlying t = some (.slice e)) (hu' : P.underlying u = some (.slice e')) (g1 : P.info? e = some ie)
    (g6 : ie.size = i.esize) (g7 : i.esize ≠ 0) {n off len cap cap' b o : Nat} {b0 b1 : Blk} {xs ys : List (List V)} (hb0 : st.blk n = some b0) (hr0 : rowsOf b0 = some (i.esize, xs)) (hle : off + len ≤ xs.length)
    (hi : inj n = some (b, o)) (hbig : Big w b (o + (off + cap) * i.esize)) (_hlc : len ≤ cap)
    {ad : Option Addr} {L1 : List Value} (hl1 : L1.length = ys.length * i.esize) (hr1 : ERel w Z inj st.nx i.esize ys L1.toArray) (hs1 : SrcAt w ad L1 ys) (hg : len + ys.length ≤ cap)
    (hb1 : rowsOf b1 = some (i.esize, (xs.drop off).take len ++ ys)) :
    ∃ x w' inj', (Builtin.append_ #[t, u] ty #[.slice (some ⟨b, o + off * i.esize, none⟩) len cap, .slice ad ys.length cap']).run P w = .ok x w' ∧ RelV w' Z inj' (st.nx + 1) (.hs st.nx i.esize 0 (len + ys.length)) x ∧
      RelH w' Z inj' ((st.nx, b1) :: repl st.hp n .dead) (st.nx + 1) ∧ Ext w Z inj st.hp w' Z inj' ((st.nx, b1) :: repl st.hp n .dead) st.nx := by
  have src1 := src_of (P := P) (tx := u) (cap := cap') g7 hu' rfl hl1 hr1 hs1
  obtain ⟨q1, q2, q3⟩ := relB_rows (h.heap.blk n b0 hb0).2 hr0
  rcases q3 with ⟨_, q4⟩ | ⟨b', o', arr, ty', q3, q4, q5⟩
  · rw [hi] at q4; cases q4
  rw [hi] at q3; cases q3
  have hlive : live b0 = true := by cases b0 <;> simp_all [rowsOf, live]
  have hsz : o + (off + cap) * i.esize ≤ arr.size := by
    obtain ⟨c, e2, f, k1, k2⟩ := hbig
    rw [q4] at k1; cases k1; exact k2
  have hlenL : L1.length = ys.length * i.esize := hl1
  have hmul : (len + ys.length) * i.esize ≤ cap * i.esize := Nat.mul_le_mul_right _ hg
  rw [Nat.add_mul] at hmul hsz
  have hstart : o + off * i.esize + len * i.esize + L1.length ≤ arr.size := by omega
  have hst := run_storeCells_at P b (o + off * i.esize + len * i.esize) ty' L1 0 arr w q4 (by simpa using hstart) (hr1.one g7)
  simp only [Nat.add_zero] at hst
  have hsp : (arr.toList.take (o + off * i.esize + len * i.esize) ++ L1 ++ arr.toList.drop (o + off * i.esize + len * i.esize + L1.length)).toArray = (splice arr.toList (o + off * i.esize + len * i.esize) L1).toArray := rfl
  rw [hsp] at hst
  have hrun := app_room (P := P) (w := w) (ty := ty) hu g1 (base := some ⟨b, o + off * i.esize, none⟩) (sLen := len) (sCap := cap) (x := .slice ad ys.length cap') (n := ys.length) (news := L1) (by rw [g6]; exact src1) hg
    (w' := w.setRow b (splice arr.toList (o + off * i.esize + len * i.esize) L1).toArray) (by show (storeCells ((⟨b, o + off * i.esize, none⟩ : Addr).add (len * ie.size)) L1).run P w = _; rw [addr_add, g6]; exact hst)
  have hfitL : o + off * i.esize + len * i.esize + L1.length ≤ arr.toList.length := by simpa using hstart
  have hasz : (splice arr.toList (o + off * i.esize + len * i.esize) L1).toArray.size = arr.size := by simp [splice_len _ _ _ hfitL]
  have hz : ∀ b1, Z b1 → (w.setRow b (splice arr.toList (o + off * i.esize + len * i.esize) L1).toArray).heap[b1]? = w.heap[b1]? := fun b1 hz1 =>
    setRow_other w b b1 _ (fun e => h.heap.out n b0 _ hb0 hlive hi (by rw [← e]; exact hz1))
  have hkb := keepBig_setRow w b arr _ ty' (0, 0) q4 hasz
  have mono : ∀ v x, RelV w Z inj st.nx v x → RelV (w.setRow b (splice arr.toList (o + off * i.esize + len * i.esize) L1).toArray) Z (upd inj st.nx (some (b, o + off * i.esize))) (st.nx + 1) v x := fun v x hv =>
    hv.mono hz (fun _ h => h) hkb (fun _ hm => upd_lt _ _ hm) (by omega)
  have hlen : ((xs.drop off).take len).length = len := by simp; omega
  refine ⟨_, _, upd inj st.nx (some (b, o + off * i.esize)), hrun, ?_, ?_, Ext.move h.heap hb0 hlive hi q4 hasz⟩
  · refine .hs (by omega) hg rfl fun _ => ⟨b, o + off * i.esize, upd_same _ _ _, by simp, _, _, _, setRow_heap w b _ _ _ _ q4, ?_⟩
    rw [hasz]; simp only [Nat.zero_add]; omega
  · refine h.heap.move hb0 hlive hi q4 hasz (relB_of_rows hb1 g7 ?_ (.inr ⟨b, o + off * i.esize, _, ty', upd_same _ _ _, setRow_heap w b _ _ _ _ q4, ?_⟩))
    · intro j x hx
      rw [List.getElem?_append] at hx
      split at hx
      · exact sub_lens q2 j x hx
      · exact hr1.2.1 _ _ hx
    · intro j x j' d hx hd
      rw [List.getElem?_toArray, splice_get _ _ _ _ hfitL]
      rw [List.getElem?_append] at hx
      split at hx
      · rename_i hj
        rw [hlen] at hj
        have hxl := sub_lens q2 j x hx
        have hj' : j' < i.esize := by have := lt_size hd; omega
        have hc := cell_lt hj hj'
        rw [if_neg (by omega)]
        rw [List.getElem?_take] at hx
        rw [if_pos hj, List.getElem?_drop] at hx
        obtain ⟨k1, c, k2, k3⟩ := q5 _ x j' d hx hd
        refine ⟨k1, c, ?_, mono _ _ k3⟩
        rw [Nat.add_mul] at k2
        rw [Array.getElem?_toList, ← k2]; congr 1; omega
      · rename_i hj
        rw [hlen] at hj hx
        obtain ⟨k1, c, k2, k3⟩ := hr1.2.2 _ x j' d hx hd
        have hlt := lt_size hx
        have hxl := hr1.2.1 _ x hx
        have hj' : j' < i.esize := by have := lt_size hd; omega
        have hc := cell_lt hlt hj'
        have he : j * i.esize = len * i.esize + (j - len) * i.esize := by rw [← Nat.add_mul]; congr 1; omega
        rw [if_pos (by omega)]
        refine ⟨k1, c, ?_, mono _ _ k3⟩
        rw [List.getElem?_toArray] at k2
        rw [← k2]; congr 1; omega

/-- append, whatever becomes of the row. -/
theorem op_append {t u ty : TypeId} {i j : TI} {sv xv v : V} {vs vx : Value} {st1 : AS} (h : RelS w Z inj st a Ds) (ht : tiOf P t = some i) (hu : tiOf P u = some j) (hik : i.kind = .slice) (hjk : j.kind = .slice) (hf : esFit i.esize xv = true)
    (hsr : RelV w Z inj st.nx sv vs) (hxr : RelV w Z inj st.nx xv vx) (ha : appendV st i sv xv = some (v, st1)) :
    ∃ x w' inj', (Builtin.append_ #[t, u] ty #[vs, vx]).run P w = .ok x w' ∧ RelV w' Z inj' st1.nx v x ∧ RelH w' Z inj' st1.hp st1.nx ∧ Ext w Z inj st.hp w' Z inj' st1.hp st.nx ∧ st1.sl = st.sl ∧ st.nx ≤ st1.nx := by
  obtain ⟨info, d, z, k⟩ := ti_ok ht
  obtain ⟨info', d', z', k'⟩ := ti_ok hu
  have hk := k.kind
  have hk' := k'.kind
  unfold KindOk at hk hk'
  simp only [hik, hjk] at hk hk'
  obtain ⟨e, ie, de, ze, rfl, g1, g2, g3, g4, g5, g6, g7, g8, g9, _⟩ := hk
  obtain ⟨e', _, _, _, rfl, _⟩ := hk'
  have gz : ze.cells.size = i.esize := by have := (mapM_some g4).1; simp at this; omega
  -- the pieces, whatever the kinds
  have nilcase : ∀ ys b1, conts st xv = some ys → vs = .slice none 0 0 → rowsOf b1 = some (i.esize, ys) → ys.length * (i.ebytes * 4) ≤ room → ys.length ≠ 0 →
      ∃ x w' inj', (Builtin.append_ #[t, u] ty #[vs, vx]).run P w = .ok x w' ∧ RelV w' Z inj' (st.nx + 1) (.hs st.nx i.esize 0 ys.length) x ∧ RelH w' Z inj' ((st.nx, b1) :: st.hp) (st.nx + 1) ∧ Ext w Z inj st.hp w' Z inj' ((st.nx, b1) :: st.hp) st.nx := by
    rintro ys b1 hc rfl hr hroom hne
    obtain ⟨ad, cap', L1, rfl, hl1, hr1, hs1⟩ := conts_rows h hxr hc hf g7
    have := app_grow (P := P) (ty := ty) h k.und k'.und g1 g3 g6 g7 g8 g9 gz h.heap Ext.refl (base := none) (cap := 0) (olds := []) (L0 := []) (by simp) .nil (rfl : SrcAt w none [] []) (cap' := cap') hl1 hr1 hs1 (by simp; omega) (by simpa using hroom) (b1 := b1) (by simpa using hr)
    simpa using this
  have nilnil : ∀ ys, conts st xv = some ys → vs = .slice none 0 0 → ys.length = 0 → (Builtin.append_ #[t, u] ty #[vs, vx]).run P w = .ok (.slice none 0 0) w := by
    rintro ys hc rfl h0
    obtain ⟨ad, cap', L1, rfl, hl1, hr1, hs1⟩ := conts_rows h hxr hc hf g7
    have src1 := src_of (P := P) (tx := u) (cap := cap') g7 k'.und rfl hl1 hr1 hs1
    have := app_room (P := P) (w := w) (ty := ty) k.und g1 (base := none) (sLen := 0) (sCap := 0) (by rw [g6]; exact src1) (by omega) (w' := w) rfl
    simpa [h0] using this
  have hscase : ∀ n off len xs ys b0 b1, sv = .hs n i.esize off len → st.blk n = some b0 → rowsOf b0 = some (i.esize, xs) → off + len ≤ xs.length → conts st xv = some ys → rowsOf b1 = some (i.esize, (xs.drop off).take len ++ ys) →
      (len + ys.length) * (i.ebytes * 4) ≤ room →
      ∃ x w' inj', (Builtin.append_ #[t, u] ty #[vs, vx]).run P w = .ok x w' ∧ RelV w' Z inj' (st.nx + 1) (.hs st.nx i.esize 0 (len + ys.length)) x ∧ RelH w' Z inj' ((st.nx, b1) :: repl st.hp n .dead) (st.nx + 1) ∧
        Ext w Z inj st.hp w' Z inj' ((st.nx, b1) :: repl st.hp n .dead) st.nx := by
    rintro n off len xs ys b0 b1 rfl hb0 hr0 hle hc hr1' hroom
    obtain ⟨ad, cap', L1, rfl, hl1, hr1, hs1⟩ := conts_rows h hxr hc hf g7
    have src1 := src_of (P := P) (tx := u) (cap := cap') g7 k'.und rfl hl1 hr1 hs1
    have hlen : ((xs.drop off).take len).length = len := by simp; omega
    obtain ⟨q1, q2, q3⟩ := relB_rows (h.heap.blk n b0 hb0).2 hr0
    have hdrop : RelH w Z inj (repl st.hp n .dead) st.nx := h.heap.drop
    have hextd : Ext w Z inj st.hp w Z inj (repl st.hp n .dead) st.nx := Ext.drop
    have ph : len = 0 → ys.length = 0 → RelH w Z (upd inj st.nx none) ((st.nx, b1) :: repl st.hp n .dead) (st.nx + 1) ∧ Ext w Z inj st.hp w Z (upd inj st.nx none) ((st.nx, b1) :: repl st.hp n .dead) st.nx := by
      intro h1 h2
      have hnil : (xs.drop off).take len ++ ys = [] := by subst h1; simp [List.eq_nil_of_length_eq_zero h2]
      refine ⟨hdrop.newPh b1 (relB_of_rows hr1' g7 (by rw [hnil]; simp) (.inl ⟨hnil, upd_same _ _ _⟩)), hextd.trans (Ext.newPh hdrop b1) (Nat.le_refl _)⟩
    cases hsr with
    | hsnil hm =>
      by_cases h0 : ys.length = 0
      · obtain ⟨p1, p2⟩ := ph rfl h0
        have := app_room (P := P) (w := w) (ty := ty) k.und g1 (base := none) (sLen := 0) (sCap := 0) (by rw [g6]; exact src1) (by omega) (w' := w) rfl
        refine ⟨_, w, _, this, ?_, p1, p2⟩
        simp only [Nat.zero_add, h0]
        exact .hsnil (by omega)
      · have := app_grow (P := P) (ty := ty) h k.und k'.und g1 g3 g6 g7 g8 g9 gz hdrop hextd (base := none) (cap := 0) (olds := []) (L0 := []) (by simp) .nil (rfl : SrcAt w none [] []) (cap' := cap') hl1 hr1 hs1 (by simp; omega) (by simpa using hroom) (b1 := b1) (by simpa using hr1')
        simpa using this
    | @hs _ _ _ _ cap adr hm hcl hsp hcap =>
      by_cases hg : len + ys.length ≤ cap
      · by_cases hc0 : cap = 0
        · obtain ⟨p1, p2⟩ := ph (by omega) (by omega)
          have hL : L1 = [] := List.eq_nil_of_length_eq_zero (by rw [hl1, show ys.length = 0 by omega]; simp)
          have := app_room (P := P) (w := w) (ty := ty) k.und g1 (base := some adr) (sLen := len) (sCap := cap) (by rw [g6]; exact src1) hg (w' := w) (by subst hL; show (storeCells _ []).run P w = _; simp [storeCells])
          exact ⟨_, w, _, this, .hs (by omega) hg hsp (fun h => absurd hc0 h), p1, p2⟩
        · obtain ⟨b, o, hi, rfl, hbig⟩ := hcap hc0
          exact app_fits (P := P) (ty := ty) h k.und k'.und g1 g6 g7 hb0 hr0 hle hi hbig hcl (cap' := cap') hl1 hr1 hs1 hg hr1'
      · have hold : ∃ L0 : List Value, L0.length = ((xs.drop off).take len).length * i.esize ∧ ERel w Z inj st.nx i.esize ((xs.drop off).take len) L0.toArray ∧ SrcAt w (some adr) L0 ((xs.drop off).take len) := by
          by_cases h0 : len = 0
          · subst h0
            exact ⟨[], by simp, by simpa using ERel.nil, fun k u hu => by simp at hu⟩
          · obtain ⟨b, o, hi, rfl, hbig⟩ := hcap (by omega)
            rcases q3 with ⟨_, q4⟩ | ⟨b', o', arr, ty', q3, q4, q5⟩
            · rw [hi] at q4; cases q4
            · rw [hi] at q3; cases q3
              obtain ⟨L, l1, l2, l3⟩ := row_read (w := w) (Z := Z) (inj := inj) (nx := st.nx) (b := b) (o := o + off * i.esize) (xs := (xs.drop off).take len) g7 (sub_lens q2) (q5.cells q4)
              exact ⟨L, l1, l3, fun k u hu => by rw [addr_add]; exact l2 k u hu⟩
        obtain ⟨L0, a1, a2, a3⟩ := hold
        have := app_grow (P := P) (ty := ty) h k.und k'.und g1 g3 g6 g7 g8 g9 gz hdrop hextd (base := some adr) (cap := cap) a1 a2 a3 (cap' := cap') hl1 hr1 hs1 (by rw [hlen]; omega) (by rw [hlen]; exact hroom) (b1 := b1) hr1'
        rw [hlen] at this
        exact this
  cases sv <;> simp only [appendV, reduceCtorEq] at ha
  case d x =>
    cases x <;> simp only [reduceCtorEq] at ha
    cases hsr with | d hsr =>
    cases hsr
    cases hcd : contsD st xv with
    | some ys =>
      simp only [hcd] at ha
      split at ha <;> try simp at ha
      rename_i hroom
      have hcv := contsD_conts hcd
      by_cases h0 : ys = []
      · rw [if_pos h0] at ha; simp at ha; obtain ⟨rfl, rfl⟩ := ha
        exact ⟨_, w, inj, nilnil _ hcv rfl (by simpa using h0), .d .nilsl, h.heap, .refl, rfl, Nat.le_refl _⟩
      · rw [if_neg h0] at ha; simp at ha; obtain ⟨rfl, rfl⟩ := ha
        have := nilcase _ (.dat i.esize ys) hcv rfl rfl (by simpa using hroom) (by simpa using h0)
        obtain ⟨x, w', inj', h1, h2, h3, h4⟩ := this
        exact ⟨x, w', inj', h1, by simpa [AS.new] using h2, h3, h4, rfl, by simp [AS.new]⟩
    | none =>
      simp only [hcd] at ha
      cases hcv : conts st xv with
      | none => simp [hcv] at ha
      | some ys =>
        simp only [hcv] at ha
        split at ha <;> try simp at ha
        rename_i hroom
        by_cases h0 : ys = []
        · rw [if_pos h0] at ha; simp at ha; obtain ⟨rfl, rfl⟩ := ha
          exact ⟨_, w, inj, nilnil _ hcv rfl (by simpa using h0), .d .nilsl, h.heap, .refl, rfl, Nat.le_refl _⟩
        · rw [if_neg h0] at ha; simp at ha; obtain ⟨rfl, rfl⟩ := ha
          obtain ⟨x, w', inj', h1, h2, h3, h4⟩ := nilcase _ (.cel i.esize ys) hcv rfl rfl hroom (by simpa using h0)
          exact ⟨x, w', inj', h1, by simpa [AS.new] using h2, h3, h4, rfl, by simp [AS.new]⟩
  case hs n es off len =>
    split at ha
    · rename_i k0 xs ys hb hcd
      split at ha <;> simp at ha
      rename_i hcond
      obtain ⟨c1, rfl, c3, rfl⟩ := hcond
      obtain ⟨rfl, rfl⟩ := ha
      have := hscase n off len (xs.map (·.map .d)) (ys.map (·.map .d)) _ (.dat i.esize ((xs.drop off).take len ++ ys)) rfl hb rfl (by simpa using c1) (contsD_conts hcd) (by simp [rowsOf, List.map_take, List.map_drop]) (by simpa using c3)
      obtain ⟨x, w', inj', h1, h2, h3, h4⟩ := this
      exact ⟨x, w', inj', h1, by simpa [AS.new, AS.setBlk] using h2, h3, h4, rfl, by simp [AS.new, AS.setBlk]⟩
    · rename_i k0 xs hb hcd
      split at ha <;> try simp at ha
      rename_i ys hcv
      obtain ⟨⟨c1, rfl, c3, rfl⟩, rfl, rfl⟩ := ha
      have := hscase n off len (xs.map (·.map .d)) ys _ (.cel i.esize ((((xs.map (·.map V.d)).drop off).take len) ++ ys)) rfl hb rfl (by simpa using c1) hcv rfl c3
      obtain ⟨x, w', inj', h1, h2, h3, h4⟩ := this
      exact ⟨x, w', inj', h1, by simpa [AS.new, AS.setBlk] using h2, h3, h4, rfl, by simp [AS.new, AS.setBlk]⟩
    · rename_i k0 xs hb
      split at ha <;> try simp at ha
      rename_i ys hcv
      obtain ⟨⟨c1, rfl, c3, rfl⟩, rfl, rfl⟩ := ha
      have := hscase n off len xs ys _ (.cel i.esize ((xs.drop off).take len ++ ys)) rfl hb rfl c1 hcv rfl c3
      obtain ⟨x, w', inj', h1, h2, h3, h4⟩ := this
      exact ⟨x, w', inj', h1, by simpa [AS.new, AS.setBlk] using h2, h3, h4, rfl, by simp [AS.new, AS.setBlk]⟩
    · simp at ha
end
end Go.Am
