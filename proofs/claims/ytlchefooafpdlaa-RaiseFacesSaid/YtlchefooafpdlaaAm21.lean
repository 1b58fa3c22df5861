/- ONE OPERATION, IN THE MACHINE's CALCULUS. -/
import Derived.Test.YtlchefooafpdlaaAm20
import Derived.OrdersIn
import Derived.RangeFuncCalls
namespace Go.Am
open Go
variable {P : Program} {T : Tab}

def Fw (ro : Option Nat) : Fence := { fn := fun _ => True, depth := none, alive := false, round := ro }
def toE : Ex → Exit
  | .nor => .normal
  | .exit id => .exit id
  | .ret => .ret
def roundOk (ro : Option Nat) (w : World) : Prop := ∀ l, ro = some l → ∃ r, w.heap[l]? = some (.loop r)

/-- What stands at the end of a piece of code. -/
def PostAt (base : Nat) (w : World) (Z : Nat → Prop) (inj : Inj) (st : AS) (a : Act) (Ds : List Nat) (st' : AS) (a' : Act) (w' : World) : Prop :=
  ∃ Z' inj' Ds', RelS w' Z' inj' st' a' Ds' ∧ Ext w Z inj st.hp w' Z' inj' st'.hp base ∧ a'.tmps.size = a.tmps.size ∧ base ≤ st'.nx ∧ ∀ D ∈ Ds', D ∈ Ds ∨ w.heap.size ≤ D

section
variable {base : Nat} {w : World} {Z : Nat → Prop} {inj : Inj} {st st' st'' : AS} {a a' a'' : Act} {Ds : List Nat} {w' w'' : World}

theorem PostAt.refl (h : RelS w Z inj st a Ds) (hb : base ≤ st.nx) : PostAt base w Z inj st a Ds st a w := ⟨Z, inj, Ds, h, .refl, rfl, hb, fun _ h => .inl h⟩

theorem roundOk.ext {ro : Option Nat} {Z' : Nat → Prop} {inj' : Inj} {hp hp' : List (Nat × Blk)} {pin : Nat} (h : roundOk ro w) (e : Ext w Z inj hp w' Z' inj' hp' pin) : roundOk ro w' :=
  fun l hl => let ⟨r, hr⟩ := h l hl; let ⟨r', h', _⟩ := e.loops l r hr; ⟨r', h'⟩

/-- What comes behind a first piece. -/
theorem PostAt.bind {Q : Prop} (p : PostAt base w Z inj st a Ds st' a' w') (h : ∀ Z' inj' Ds', RelS w' Z' inj' st' a' Ds' → a'.tmps.size = a.tmps.size → base ≤ st'.nx → (∀ ro, roundOk ro w → roundOk ro w') →
    (∀ st'' a'' w'', PostAt base w' Z' inj' st' a' Ds' st'' a'' w'' → PostAt base w Z inj st a Ds st'' a'' w'') → Q) : Q := by
  obtain ⟨Z', inj', Ds', h1, h2, h3, h4, h5⟩ := p
  refine h Z' inj' Ds' h1 h3 h4 (fun ro hr => hr.ext h2) ?_
  rintro st'' a'' w'' ⟨Z2, i2, D2, k1, k2, k3, k4, k5⟩
  refine ⟨Z2, i2, D2, k1, h2.trans k2 (Nat.le_refl _), k3.trans h3, k4, fun D hD => ?_⟩
  rcases k5 D hD with h | h
  · exact h5 D h
  · exact .inr (Nat.le_trans h2.size h)

theorem dst_lt {n : Nat} {t : Tmp} (h : dstOk n (some t) = true) : t < n := by simpa [dstOk, Nat.blt_eq] using h

theorem put_size (a : Act) (d : Option Tmp) (v : Value) : (a.put d v).tmps.size = a.tmps.size := by cases d <;> simp [Act.put]

theorem RelSlots.put {nx : Nat} {s : List (Nat × V)} {tmps : Array Value} {v : V} {x : Value} {t : Tmp} (h : RelSlots w Z inj nx s tmps) (hv : RelV w Z inj nx v x) (ht : t < tmps.size) : RelSlots w Z inj nx ((t, v) :: s) (tmps.setIfInBounds t x) := by
  intro u y hy
  rw [find_cons] at hy
  split at hy
  · rename_i e; subst e; cases hy
    exact ⟨x, by simp [ht], hv⟩
  · rename_i e
    obtain ⟨z, hz, hr⟩ := h u y hy
    exact ⟨z, by rw [Array.getElem?_setIfInBounds_ne e]; exact hz, hr⟩

/-- A value is put into a slot: the blocks may have changed on the way. -/
theorem relS_step {Z' : Nat → Prop} {inj' : Inj} {hp' : List (Nat × Blk)} {nx' : Nat} {v : V} {x : Value} {dst : Option Tmp} (h : RelS w Z inj st a Ds) (e : Ext w Z inj st.hp w' Z' inj' hp' st.nx) (hh : RelH w' Z' inj' hp' nx') (hn : st.nx ≤ nx')
    (hv : RelV w' Z' inj' nx' v x) (hd : dstOk a.tmps.size dst = true) : RelS w' Z' inj' ({ sl := st.sl, hp := hp', nx := nx' : AS }.putD dst v) (a.put dst x) Ds := by
  have hs : RelSlots w' Z' inj' nx' st.sl a.tmps := h.slots.mono (e.zkeep h.heap) e.zin e.big e.pinj hn
  cases dst with
  | none => exact ⟨hs, hh, h.defs, h.nodup, fun D hD => e.marks h.heap (h.marks D hD)⟩
  | some t => exact ⟨hs.put hv (dst_lt hd), hh, h.defs, h.nodup, fun D hD => e.marks h.heap (h.marks D hD)⟩

theorem putD_hp (st : AS) (d : Option Tmp) (v : V) : (st.putD d v).hp = st.hp := by cases d <;> rfl
theorem putD_nx (st : AS) (d : Option Tmp) (v : V) : (st.putD d v).nx = st.nx := by cases d <;> rfl

theorem post_step {Z' : Nat → Prop} {inj' : Inj} {hp' : List (Nat × Blk)} {nx' : Nat} {v : V} {x : Value} {dst : Option Tmp} (h : RelS w Z inj st a Ds) (hb : base ≤ st.nx) (e : Ext w Z inj st.hp w' Z' inj' hp' st.nx) (hh : RelH w' Z' inj' hp' nx') (hn : st.nx ≤ nx')
    (hv : RelV w' Z' inj' nx' v x) (hd : dstOk a.tmps.size dst = true) : PostAt base w Z inj st a Ds ({ sl := st.sl, hp := hp', nx := nx' : AS }.putD dst v) (a.put dst x) w' :=
  ⟨Z', inj', Ds, relS_step h e hh hn hv hd, by rw [putD_hp]; exact e.pin_le hb, put_size _ _ _, by rw [putD_nx]; exact Nat.le_trans hb hn, fun _ h => .inl h⟩

/-! ### One operation -/
def stepO (P : Program) (F : Fence) (ops : Array Oper) (Q : Exit → Act → World → Prop) (o : Oper) (K : Act → World → Prop) (a : Act) (w : World) : Prop :=
  if Region.wanted o (yielded ops a.tmps) then o.wpIn F 0 P a w K Q else (∀ f, o.about P w a.eval = some f → F.fn f) ∧ K (a.put o.dst undef) w

theorem stepO_in {F : Fence} {ops : Array Oper} {Q : Exit → Act → World → Prop} {o : Oper} {K : Act → World → Prop} {i : Nat} (hi : ops[i]? = some o) (h : stepO P F ops Q o K a w) : wpOpIn F 0 P ops Q i K a w := by
  unfold wpOpIn; rw [hi]; exact h

def SeqGood (P : Program) (base : Nat) (ops : Array Oper) (o : Oper) (st st' : AS) : Prop :=
  ∀ (ro : Option Nat) (Q : Exit → Act → World → Prop) (w : World) (Z : Nat → Prop) (inj : Inj) (a : Act) (Ds : List Nat) (K : Act → World → Prop), RelS w Z inj st a Ds → dstOk a.tmps.size o.dst = true → base ≤ st.nx → roundOk ro w →
    (∀ a' w', PostAt base w Z inj st a Ds st' a' w' → K a' w') → stepO P (Fw ro) ops Q o K a w

theorem guard_wanted {ops : Array Oper} {o : Oper} {b : Bool} (h : RelS w Z inj st a Ds) (hg : guardOk ops st o = some b) : Region.wanted o (yielded ops a.tmps) = b := by
  unfold guardOk at hg
  unfold Region.wanted
  cases hgo : o.guard with
  | none => rw [hgo] at hg; simp at hg; simp [hg]
  | some jw =>
    obtain ⟨j, want⟩ := jw
    rw [hgo] at hg
    simp only at hg ⊢
    cases hd : (ops[j]?).bind (·.dst) with
    | none => rw [hd] at hg; simp at hg
    | some t =>
      rw [hd] at hg
      simp only at hg
      unfold yielded
      rw [hd]
      split at hg
      · rename_i bb hv
        obtain ⟨x, hx, hr⟩ := h.slots t _ hv
        cases hr with | d hr =>
        cases hr
        simp at hg
        simp [hx, hg]
      · rename_i hv
        obtain ⟨x, hx, hr⟩ := h.slots t _ hv
        cases hr with | d hr =>
        cases hr
        simp at hg
        simp [hx, ← hg]
      · simp at hg

theorem rel_undef {nx : Nat} : RelV w Z inj nx (.d (.tup [])) undef := .d (.tup (by simp) (by simp))

theorem good_skip {ops : Array Oper} {o : Oper} (hg : guardOk ops st o = some false) : SeqGood P base ops o st (st.putD o.dst (.d (.tup []))) := by
  intro ro Q w Z inj a Ds K h hd hb _ hK
  unfold stepO
  rw [guard_wanted h hg]
  simp only [Bool.false_eq_true, if_false]
  exact ⟨fun _ _ => trivial, hK _ _ (post_step h hb .refl h.heap (Nat.le_refl _) rel_undef hd)⟩

theorem op_no_defer {op : Op} {v : V} {st1 : AS} (ho : opFn T st op = some (v, st1)) : ∀ c, op ≠ .defer c := by
  rintro c rfl; simp [opFn] at ho

theorem good_op {ops : Array Oper} {o : Oper} {v : V} {st1 : AS} (hT : TabOk P T) (hg : guardOk ops st o = some true) (ho : opFn T st o.op = some (v, st1)) : SeqGood P base ops o st (st1.putD o.dst v) := by
  intro ro Q w Z inj a Ds K h hd hb _ hK
  unfold stepO
  rw [guard_wanted h hg]
  simp only [if_true]
  refine ⟨fun _ _ => trivial, ?_⟩
  rw [show (Fw ro).round = ro from rfl, Oper.semAt_eq ro _ o (op_no_defer ho)]
  obtain ⟨x, w', inj', hr, hv, hh, he, hsl, hn⟩ := op_sound hT h ho
  obtain ⟨sl1, hp1, nx1⟩ := st1
  simp only at hsl hn hv hh he; subst hsl
  have hpost := post_step h hb he hh hn hv hd
  rcases hr with hr | ⟨hr, rfl⟩
  · rw [hr]; exact hK _ _ hpost
  · rw [hr]; exact hK _ _ hpost

/-! ### Calls -/
def CallGood (P : Program) (f : FuncId) (vs : List V) (hp : List (Nat × Blk)) (nx : Nat) (v : V) (hp' : List (Nat × Blk)) (nx' : Nat) : Prop :=
  (∀ (args : Array Value) (w : World), (callFunc f args).run P w = .ok (.enter f args) w) ∧
  ∀ (w : World) (Z : Nat → Prop) (inj : Inj) (xs : Array Value), RelH w Z inj hp nx → LRel w Z inj nx vs xs →
    CallsIn (Fw none) 0 P f xs w (fun e w' => ∃ x Z' inj', e = .returned x ∧ RelH w' Z' inj' hp' nx' ∧ Ext w Z inj hp w' Z' inj' hp' nx ∧ RelV w' Z' inj' nx' v x ∧ nx ≤ nx')

theorem callee_run {c : Call} {o : Oper} {f : FuncId} {vs : List V} (h : RelS w Z inj st a Ds) (ho : o.op = .call c) (hc : callee st c = some (f, vs)) (hcall : ∀ (args : Array Value) (w : World), (callFunc f args).run P w = .ok (.enter f args) w) :
    ∃ xs, (execOp a.eval o).run P w = .ok (.enter f xs) w ∧ LRel w Z inj st.nx vs xs := by
  obtain ⟨dst, op, type, pos, after, guard⟩ := o
  simp only at ho; subst ho
  obtain ⟨cal, args, argTypes⟩ := c
  unfold callee at hc
  simp only at hc
  cases cal <;> simp only [reduceCtorEq] at hc
  rename_i g
  have app : ∀ {as caps : List V} {xs ys : Array Value}, LRel w Z inj st.nx as xs → LRel w Z inj st.nx caps ys → LRel w Z inj st.nx (as ++ caps) (xs ++ ys) := by
    intro as caps xs ys h1 h2
    refine ⟨by simp [h1.1, h2.1], fun i d c hd hc => ?_⟩
    by_cases hi : i < as.length
    · rw [List.getElem?_append_left hi] at hd
      rw [Array.getElem?_append_left (by rw [← h1.1]; exact hi)] at hc
      exact h1.2 i d c hd hc
    · rw [List.getElem?_append_right (by omega)] at hd
      rw [Array.getElem?_append_right (by rw [← h1.1]; omega), ← h1.1] at hc
      exact h2.2 _ d c hd hc
  have e2 : (args.toList.map a.eval).toArray = args.map a.eval := by apply Array.ext'; simp
  split at hc <;> simp at hc
  · rename_i f' caps vs' hf hv
    obtain ⟨rfl, rfl⟩ := hc
    have hr := ev_rel h hf
    generalize hge : a.eval g = gv at hr
    cases hr with | d hr =>
    cases hr with | @fn _ _ cs h1 h2 =>
    have hl := evL_rel h hv
    rw [e2] at hl
    refine ⟨args.map a.eval ++ cs, ?_, app hl ⟨by simpa using h1, fun i d c hd hc => ?_⟩⟩
    · simp [execOp, resolve, hge, Deferred.ofValue, invoke, hcall]
    · simp only [List.getElem?_map, Option.map_eq_some_iff] at hd
      obtain ⟨d', hd, rfl⟩ := hd
      exact .d (h2 i d' c hd hc)
  · rename_i f' caps vs' hf hv
    obtain ⟨rfl, rfl⟩ := hc
    have hr := ev_rel h hf
    generalize hge : a.eval g = gv at hr
    cases hr with | @fn _ _ cs h1 h2 =>
    have hl := evL_rel h hv
    rw [e2] at hl
    refine ⟨args.map a.eval ++ cs, ?_, app hl ⟨h1, h2⟩⟩
    simp [execOp, resolve, hge, Deferred.ofValue, invoke, hcall]

theorem good_callS {ops : Array Oper} {o : Oper} {c : Call} {f : FuncId} {vs : List V} {v : V} {hp' : List (Nat × Blk)} {nx' : Nat} (hg : guardOk ops st o = some true) (ho : o.op = .call c) (hc : callee st c = some (f, vs))
    (hgood : CallGood P f vs st.hp st.nx v hp' nx') : SeqGood P base ops o st ({ sl := st.sl, hp := hp', nx := nx' : AS }.putD o.dst v) := by
  intro ro Q w Z inj a Ds K h hd hb _ hK
  unfold stepO
  rw [guard_wanted h hg]
  simp only [if_true]
  refine ⟨fun _ _ => trivial, ?_⟩
  obtain ⟨xs, hr, hl⟩ := callee_run h ho hc hgood.1
  rw [show (Fw ro).round = ro from rfl, Oper.semAt_eq ro _ o (by rintro c' h'; rw [ho] at h'; cases h'), hr, Oper.uponIn_enter]
  refine ⟨fun h => by simp [Fw] at h, ?_⟩
  refine CallsIn.mono (hgood.2 w Z inj xs h.heap hl) ?_
  rintro e w' ⟨x, Z', inj', rfl, hh, he, hv, hn⟩
  exact hK _ _ (post_step h hb he hh hn hv hd)

theorem good_callP {ops : Array Oper} {o : Oper} {c : Call} {f : FuncId} {vs : List V} {ds : List DV} {v : V} {hp' : List (Nat × Blk)} {nx' : Nat} {r' r : DV} (hg : guardOk ops st o = some true) (ho : o.op = .call c) (hc : callee st c = some (f, vs))
    (hfz : allFrozen st.hp vs = some ds) (hgood : CallGood P f (ds.map .d) [] 0 v hp' nx') (hto : toD hp' 8 v = some r') (hle : DLe r' r) (hs : vs.all V.isD = true ∨ r.scalar = true) : SeqGood P base ops o st (st.putD o.dst (.d r)) := by
  intro ro Q w Z inj a Ds K h hd hb _ hK
  unfold stepO
  rw [guard_wanted h hg]
  simp only [if_true]
  refine ⟨fun _ _ => trivial, ?_⟩
  obtain ⟨xs, hr, hl⟩ := callee_run h ho hc hgood.1
  rw [show (Fw ro).round = ro from rfl, Oper.semAt_eq ro _ o (by rintro c' h'; rw [ho] at h'; cases h'), hr, Oper.uponIn_enter]
  refine ⟨fun h => by simp [Fw] at h, ?_⟩
  have noim : ∀ (i : Inj) b, ¬ im ([] : List (Nat × Blk)) i b := by rintro i b ⟨n, blk, o, h1, _⟩; simp [find] at h1
  have keep : ∀ {Z0 : Nat → Prop} {w' : World} {Z' : Nat → Prop} {inj' : Inj}, Ext w Z0 inj [] w' Z' inj' hp' 0 → ∀ b, b < w.heap.size → w'.heap[b]? = w.heap[b]? := fun e b hb => e.keep b hb (noim _ b)
  -- the caller's blocks lie as they lay, whatever data is new
  have back : ∀ {Z0 : Nat → Prop} {w' : World} {Z' : Nat → Prop} {inj' : Inj} (Z2 : Nat → Prop), Ext w Z0 inj [] w' Z' inj' hp' 0 → (∀ b, Z b → Z2 b) → (∀ b, Z2 b → Z b ∨ w.heap.size ≤ b) → (∀ b, Z2 b → ∃ c e f, w'.heap[b]? = some (.cells c e f)) →
      RelH w' Z2 inj st.hp st.nx ∧ Ext w Z inj st.hp w' Z2 inj st.hp st.nx := by
    intro Z0 w' Z' inj' Z2 e hz1 hz2 hz3
    have hk := keep e
    have hE : Ext w Z inj st.hp w' Z2 inj st.hp st.nx := ⟨e.size, fun b hb _ => hk b hb, fun _ h => .inl h, e.big, e.loops, hz1, fun b hb => (hz2 b hb).elim .inl (fun h => .inr (.inr h)), fun _ _ => rfl, e.tape, e.os, e.output, e.frz⟩
    refine ⟨⟨fun n b hn => ?_, h.heap.sep, ?_, ?_, hz3⟩, hE⟩
    · obtain ⟨h1, h2⟩ := h.heap.blk n b hn
      refine ⟨h1, h2.mono (hE.zkeep h.heap) hz1 e.big (fun _ _ => rfl) (Nat.le_refl _) h1 fun p hp hlv => hk _ (h.heap.im_lt ⟨n, b, p.2, hn, hlv, hp⟩)⟩
    · intro n b p h1 h2 h3 hz
      rcases hz2 _ hz with h4 | h4
      · exact h.heap.out n b p h1 h2 h3 h4
      · have := h.heap.im_lt (b := p.1) ⟨n, b, p.2, h1, h2, h3⟩; omega
    · intro b hb
      obtain ⟨c, e', f', hc⟩ := hz3 b hb
      exact some_lt hc
  rcases hs with hs | hs
  · -- data alone goes in
    have h0 : RelH w Z inj [] 0 := ⟨fun _ _ h => by simp [find] at h, fun _ _ _ _ _ _ h => by simp [find] at h, fun _ _ _ h => by simp [find] at h, h.heap.zs, h.heap.zc⟩
    refine CallsIn.mono (hgood.2 w Z inj xs h0 (lrel_data hfz hs hl inj)) ?_
    rintro e w' ⟨x, Z', inj', rfl, hh, he, hv, hn⟩
    have hD := (toD_rel hh 8 hto hv).le hle
    obtain ⟨hh2, he2⟩ := back (zAll w' Z' inj' hp') he (fun b hb => .inl (he.zin b hb))
      (fun b hb => by
        rcases hb with hb | ⟨hb, _⟩
        · rcases he.zout b hb with h | h | h
          · exact .inl h
          · exact absurd h (noim _ _)
          · exact .inr h
        · rcases he.imm b hb with h | h
          · exact absurd h (noim _ _)
          · exact .inr h)
      (fun b hb => by
        rcases hb with hb | ⟨_, hb⟩
        · exact hh.zc b hb
        · exact hb)
    exact hK _ _ (post_step h hb he2 hh2 (Nat.le_refl _) (.d hD) hd)
  · -- a scalar comes out
    have h0 : RelH w (zAll w Z inj st.hp) inj [] 0 := ⟨fun _ _ h => by simp [find] at h, fun _ _ _ _ _ _ h => by simp [find] at h, fun _ _ _ h => by simp [find] at h,
      fun b hb => by
        rcases hb with hb | ⟨hb, _⟩
        · exact h.heap.zs b hb
        · exact h.heap.im_lt hb,
      fun b hb => by
        rcases hb with hb | ⟨_, hb⟩
        · exact h.heap.zc b hb
        · exact hb⟩
    refine CallsIn.mono (hgood.2 w _ inj xs h0 (lrel_frozen h.heap hfz hl inj)) ?_
    rintro e w' ⟨x, Z', inj', rfl, hh, he, hv, hn⟩
    have hD := (toD_rel hh 8 hto hv).le hle
    obtain ⟨hh2, he2⟩ := back Z he (fun _ h => h) (fun _ h => .inl h) (fun b hb => by rw [keep he b (h.heap.zs b hb)]; exact h.heap.zc b hb)
    exact hK _ _ (post_step h hb he2 hh2 (Nat.le_refl _) (.d (scalar_rel hD hs)) hd)
end
end Go.Am
