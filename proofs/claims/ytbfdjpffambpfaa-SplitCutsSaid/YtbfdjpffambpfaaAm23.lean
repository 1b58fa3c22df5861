/- A REGION THAT DRAWS ITS ORDER: any order is as good as the text's. -/
import Derived.Test.YtbfdjpffambpfaaAm22
namespace Go.Am
open Go
variable {P : Program} {T : Tab}
section
variable {base : Nat} {w : World} {Z : Nat → Prop} {inj : Inj} {st st1 st2 : AS} {a : Act} {Ds : List Nat} {ops : Array Oper} {o : Oper}

structure Agree (ops : Array Oper) (o : Oper) (st st2 : AS) : Prop where
  hp : touch o.op ≠ 0 → st2.hp = st.hp ∧ st2.nx = st.nx
  sl : ∀ t ∈ reads ops o, st2.get t = st.get t

theorem Agree.ev (h : Agree ops o st st2) {x : Operand} (hx : x ∈ o.op.operands) : st2.ev x = st.ev x := by
  cases x with
  | tmp t => exact h.sl t (List.mem_append_left _ (by unfold slotsOf; rw [List.mem_filterMap]; exact ⟨.tmp t, by simpa using hx, rfl⟩))
  | const v => rfl
  | func f => rfl
  | global g => rfl

theorem Agree.guard (h : Agree ops o st st2) : guardOk ops st2 o = guardOk ops st o := by
  have hs := h.sl
  unfold reads at hs
  unfold guardOk
  cases hg : o.guard with
  | none => rfl
  | some jw =>
    obtain ⟨j, want⟩ := jw
    simp only [hg] at hs
    simp only
    cases hd : (ops[j]?).bind (·.dst) with
    | none => rfl
    | some t =>
      simp only [hd] at hs
      simp only
      rw [hs t (by simp)]

theorem Agree.callee (h : Agree ops o st st2) {c : Call} (ho : o.op = .call c) : callee st2 c = callee st c := by
  obtain ⟨cal, args, argTypes⟩ := c
  unfold Am.callee
  cases cal with
  | builtin b => rfl
  | invoke r n => rfl
  | value f =>
    simp only
    rw [h.ev (x := f) (by rw [ho]; simp [Op.operands, Call.operands]), evL_congr (fun x hx => h.ev (x := x) (by rw [ho]; simp [Op.operands, Call.operands]; exact .inr (by simpa using hx)))]

theorem get_putD {st : AS} {d : Option Tmp} {v : V} {t : Tmp} : (st.putD d v).get t = if d = some t then some v else st.get t := by
  cases d with
  | none => simp [AS.putD]
  | some d => simp only [AS.putD, AS.put, AS.get, find_cons, Option.some.injEq]

/-- What an operation does, here and wherever it reads the same. -/
structure Step (P : Program) (base : Nat) (ops : Array Oper) (o : Oper) (st st1 : AS) : Prop where
  good : SeqGood P base ops o st st1
  sl : ∀ t, o.dst ≠ some t → st1.get t = st.get t
  hp : touch o.op ≠ 2 → st1.hp = st.hp ∧ st1.nx = st.nx
  other : ∀ st2, Agree ops o st st2 → ∃ st3, SeqGood P base ops o st2 st3 ∧ (∀ t, o.dst ≠ some t → st3.get t = st2.get t) ∧ (∀ t, o.dst = some t → st3.get t = st1.get t) ∧
    (touch o.op ≠ 2 → st3.hp = st2.hp ∧ st3.nx = st2.nx) ∧ (touch o.op = 2 → st3.hp = st1.hp ∧ st3.nx = st1.nx)

theorem step_put {v : V} (hg : SeqGood P base ops o st (st.putD o.dst v)) (h2 : ∀ st2, Agree ops o st st2 → SeqGood P base ops o st2 (st2.putD o.dst v)) (ht : touch o.op ≠ 2 ∨ ∀ st2, Agree ops o st st2 → st2.hp = st.hp ∧ st2.nx = st.nx) : Step P base ops o st (st.putD o.dst v) := by
  refine ⟨hg, fun t h => by rw [get_putD, if_neg h], fun _ => ⟨putD_hp _ _ _, putD_nx _ _ _⟩, fun st2 ha => ⟨_, h2 st2 ha, fun t h => by rw [get_putD, if_neg h], fun t h => by rw [get_putD, get_putD, if_pos h, if_pos h], fun _ => ⟨putD_hp _ _ _, putD_nx _ _ _⟩, fun h => ?_⟩⟩
  rw [putD_hp, putD_hp, putD_nx, putD_nx]
  exact ht.elim (fun h' => absurd h h') (fun h' => h' st2 ha)

theorem step_skip (hg : guardOk ops st o = some false) : Step P base ops o st (st.putD o.dst (.d (.tup []))) := by
  refine step_put (good_skip hg) (fun _ ha => good_skip (ha.guard.trans hg)) ?_
  by_cases h : touch o.op = 2
  · exact .inr fun st2 ha => ha.hp (by omega)
  · exact .inl h
theorem step_op {v : V} (hT : TabOk P T) (hg : guardOk ops st o = some true) (ho : opFn T st o.op = some (v, st1)) : Step P base ops o st (st1.putD o.dst v) := by
  by_cases ht : touch o.op = 2
  · have hsl : st1.sl = st.sl := (op_local2 (st2 := st) ho ht rfl rfl (fun _ _ => rfl)).1
    have hget : ∀ t, st1.get t = st.get t := fun t => by unfold AS.get; rw [hsl]
    refine ⟨good_op hT hg ho, fun t h => by rw [get_putD, if_neg h, hget], fun h => absurd ht h, fun st2 ha => ?_⟩
    have hh := ha.hp (by omega)
    refine ⟨_, good_op hT (ha.guard.trans hg) (op_local2 ho ht hh.1 hh.2 (fun x hx => ha.ev hx)).2, fun t h => by rw [get_putD, if_neg h]; rfl, fun t h => by rw [get_putD, get_putD, if_pos h, if_pos h], fun h => absurd ht h, fun _ => ⟨by rw [putD_hp, putD_hp], by rw [putD_nx, putD_nx]⟩⟩
  · have hle : touch o.op ≤ 1 := by
      have : touch o.op ≤ 2 := by unfold touch; split <;> omega
      omega
    have h0 := (op_local (st2 := st) ho hle (fun _ => rfl) (fun _ _ => rfl)).1
    subst h0
    exact step_put (good_op hT hg ho) (fun st2 ha => good_op hT (ha.guard.trans hg) (op_local ho hle (fun h => (ha.hp h).1) (fun x hx => ha.ev hx)).2) (.inl ht)
/-! A row that is frozen as it is made -/
theorem wv_self {w : World} {Z : Nat → Prop} {inj : Inj} {nx : Nat} {fz : List Nat} {st0 : AS} {v : V} {x : Value} (h : RelV w Z inj nx v x) : Wv st0 (fun n => n) fz [] nx v v := by
  induction h with
  | d h => exact .d (.refl _)
  | @agg ds cs hl _ ih =>
    exact .agg rfl fun i c d hc hd => by
      rw [hc] at hd; cases hd
      obtain ⟨y, hy⟩ := ex_getA (xs := cs) (i := i) (by rw [← hl]; exact lt_size hc)
      exact ih i c y hc hy
  | @tup ds cs hl _ ih =>
    exact .tup rfl fun i c d hc hd => by
      rw [hc] at hd; cases hd
      obtain ⟨y, hy⟩ := ex_getA (xs := cs) (i := i) (by rw [← hl]; exact lt_size hc)
      exact ih i c y hc hy
  | @fn f ds cs hl _ ih =>
    exact .fn rfl fun i c d hc hd => by
      rw [hc] at hd; cases hd
      obtain ⟨y, hy⟩ := ex_getA (xs := cs) (i := i) (by rw [← hl]; exact lt_size hc)
      exact ih i c y hc hy
  | ref h1 h2 => exact .ref rfl (by simp) h1
  | @dref cs j _ _ _ _ _ => exact .dref cs j
  | hsnil h1 => exact .hs rfl (by simp) h1
  | hs h1 _ _ _ => exact .hs rfl (by simp) h1
  | yld h1 _ => exact .yld rfl (by simp) h1
  | dead v => exact .dead _
theorem wb_self {w : World} {Z : Nat → Prop} {inj : Inj} {nx n : Nat} {fz : List Nat} {st0 : AS} {b : Blk} (h : RelB w Z inj nx n b) : Wb st0 (fun n => n) fz [] nx b b := by
  cases b with
  | dead => exact .dead _
  | dat es xs => exact .dat _ _
  | cel es xs =>
    obtain ⟨_, _, h3⟩ := h
    refine .cel rfl fun i x y hx hy => ?_
    rw [hx] at hy; cases hy
    refine ⟨rfl, fun j c d hc hd => ?_⟩
    rw [hc] at hd; cases hd
    rcases h3 with ⟨rfl, _⟩ | ⟨b, o, arr, ty, _, _, h5⟩
    · simp at hx
    · obtain ⟨h6, c', _, h8⟩ := h5 i x j c hx hc
      exact ⟨wv_self h8, h6⟩
  | loop s ps assign body dn pe =>
    obtain ⟨b, tmps, D, fn, _, _, _, h4⟩ := h
    refine .loop fun t v' hv => ?_
    obtain ⟨x, _, hr⟩ := h4 t v' hv
    exact ⟨v', hv, wv_self hr⟩
theorem post_freeze {w : World} {Z : Nat → Prop} {inj : Inj} {a a' : Act} {Ds : List Nat} {w' : World} {dst : Option Tmp} {n es : Nat} {xs : List (List DV)} {hp2 : List (Nat × Blk)}
    (h : PostAt base w Z inj st a Ds (st1.putD dst (.hs n es 0 xs.length)) a' w') (hh : st1.hp = (n, .dat es xs) :: hp2) (hf : find hp2 n = none) (hn : base ≤ n) :
    PostAt base w Z inj st a Ds (({ sl := st1.sl, hp := hp2, nx := st1.nx } : AS).putD dst (.d (.sl es xs))) a' w' := by
  obtain ⟨Z', inj', Ds', h1, h2, h3, h4, h5⟩ := h
  have hw : Wk base (fun n => n) [n] [] (st1.putD dst (.hs n es 0 xs.length)) (({ sl := st1.sl, hp := hp2, nx := st1.nx } : AS).putD dst (.d (.sl es xs))) := by
    have hnx : (({ sl := st1.sl, hp := hp2, nx := st1.nx } : AS).putD dst (.d (.sl es xs))).nx = st1.nx := putD_nx _ _ _
    have hhp : (({ sl := st1.sl, hp := hp2, nx := st1.nx } : AS).putD dst (.d (.sl es xs))).hp = hp2 := putD_hp _ _ _
    have hblk : ∀ m b, find hp2 m = some b → m ≠ n ∧ find (st1.putD dst (.hs n es 0 xs.length)).hp m = some b := by
      intro m b hm
      have hne : m ≠ n := by rintro rfl; rw [hf] at hm; cases hm
      refine ⟨hne, ?_⟩
      rw [putD_hp, hh, find_cons, if_neg (by intro e; exact hne e.symm)]; exact hm
    refine ⟨?_, ?_, ?_, ?_, fun _ _ => rfl, by rw [hnx]; rw [putD_nx] at h4; exact h4, fun m hm => by simp at hm; omega, fun m hm => by cases hm⟩
    · intro t v' hv
      rw [hnx]
      rw [get_putD] at hv
      by_cases ht : dst = some t
      · rw [if_pos ht] at hv; cases hv
        refine ⟨_, by rw [get_putD, if_pos ht], .frz (k := es) (xs := xs) ?_ (by simp) (by omega) (by simp) rfl⟩
        show find (st1.putD dst _).hp n = _
        rw [putD_hp, hh, find_cons, if_pos rfl]
      · rw [if_neg ht] at hv
        have hg : (st1.putD dst (.hs n es 0 xs.length)).get t = some v' := by rw [get_putD, if_neg ht]; exact hv
        obtain ⟨x, _, hr⟩ := h1.slots t v' hg
        rw [putD_nx] at hr
        exact ⟨v', hg, wv_self hr⟩
    · intro m b' hm
      rw [hnx]
      unfold AS.blk at hm
      rw [hhp] at hm
      obtain ⟨hne, hm'⟩ := hblk m b' hm
      obtain ⟨k1, k2⟩ := h1.heap.blk m b' hm'
      rw [putD_nx] at k1 k2
      exact ⟨k1, .inr ⟨by simp, b', hm', wb_self k2⟩⟩
    · intro m k b c _ _ _ _ e; exact e
    · intro m b hm _ hc
      unfold AS.blk at hm
      rw [hhp] at hm
      simp at hc
      exact (hblk m b hm).1 hc
  obtain ⟨hrel, hext⟩ := wk_sound h1 hw
  exact ⟨_, _, Ds', hrel, h2.trans hext (Nat.le_refl _), h3, hw.bs, h5⟩
theorem good_opF {n es : Nat} {xs : List (List DV)} {hp2 : List (Nat × Blk)} (hT : TabOk P T) (hg : guardOk ops st o = some true) (ho : opFn T st o.op = some (.hs n es 0 xs.length, st1)) (hn : st.nx ≤ n) (hh : st1.hp = (n, .dat es xs) :: hp2) (hf : find hp2 n = none) :
    SeqGood P base ops o st (({ sl := st1.sl, hp := hp2, nx := st1.nx } : AS).putD o.dst (.d (.sl es xs))) := by
  intro ro Q w Z inj a Ds K h hd hb hro hK
  exact good_op hT hg ho ro Q w Z inj a Ds K h hd hb hro fun a' w' hp => hK a' w' (post_freeze hp hh hf (Nat.le_trans hb hn))
theorem step_opF {n es : Nat} {xs : List (List DV)} {hp2 : List (Nat × Blk)} (hT : TabOk P T) (hg : guardOk ops st o = some true) (ho : opFn T st o.op = some (.hs n es 0 xs.length, st1)) (ht : touch o.op = 2) (hn : st.nx ≤ n) (hh : st1.hp = (n, .dat es xs) :: hp2) (hf : find hp2 n = none) :
    Step P base ops o st (({ sl := st1.sl, hp := hp2, nx := st1.nx } : AS).putD o.dst (.d (.sl es xs))) := by
  have hsl : st1.sl = st.sl := (op_local2 (st2 := st) ho ht rfl rfl (fun _ _ => rfl)).1
  have hget : ∀ t, st1.get t = st.get t := fun t => by unfold AS.get; rw [hsl]
  refine ⟨good_opF hT hg ho hn hh hf, fun t h => by rw [get_putD, if_neg h]; exact hget t, fun h => absurd ht h, fun st2 ha => ?_⟩
  have hh2 := ha.hp (by omega)
  refine ⟨_, good_opF (st1 := { st1 with sl := st2.sl }) hT (ha.guard.trans hg) (op_local2 ho ht hh2.1 hh2.2 (fun x hx => ha.ev hx)).2 (by rw [hh2.2]; exact hn) hh hf, fun t h => by rw [get_putD, if_neg h]; rfl, fun t h => by rw [get_putD, get_putD, if_pos h, if_pos h], fun h => absurd ht h, fun _ => ⟨by rw [putD_hp, putD_hp], by rw [putD_nx, putD_nx]⟩⟩
theorem step_callP {c : Call} {f : FuncId} {vs : List V} {ds : List DV} {v : V} {hp' : List (Nat × Blk)} {nx' : Nat} {r' r : DV} (hg : guardOk ops st o = some true) (ho : o.op = .call c) (hc : callee st c = some (f, vs))
    (hfz : allFrozen st.hp vs = some ds) (hgood : CallGood P f (ds.map .d) [] 0 v hp' nx') (hto : toD hp' 8 v = some r') (hle : DLe r' r) (hs : vs.all V.isD = true ∨ r.scalar = true) : Step P base ops o st (st.putD o.dst (.d r)) := by
  have ht : touch o.op = 1 := by
    rw [ho]
    obtain ⟨cal, args, argTypes⟩ := c
    cases cal <;> simp [callee] at hc
    rfl
  exact step_put (good_callP hg ho hc hfz hgood hto hle hs) (fun st2 ha => good_callP (ha.guard.trans hg) ho ((ha.callee ho).trans hc) (by rw [(ha.hp (by omega)).1]; exact hfz) hgood hto hle hs) (.inl (by omega))
theorem step_callS {c : Call} {f : FuncId} {vs : List V} {v : V} {hp' : List (Nat × Blk)} {nx' : Nat} (hg : guardOk ops st o = some true) (ho : o.op = .call c) (hc : callee st c = some (f, vs)) (hgood : CallGood P f vs st.hp st.nx v hp' nx') :
    SeqGood P base ops o st ({ sl := st.sl, hp := hp', nx := nx' : AS }.putD o.dst v) := good_callS hg ho hc hgood

inductive Chain (P : Program) (base : Nat) (ops : Array Oper) : Bool → List Oper → AS → AS → Prop
  | nil {dr : Bool} {st : AS} : Chain P base ops dr [] st st
  | cons {dr : Bool} {o : Oper} {l : List Oper} {st st1 st2 : AS} : Step P base ops o st st1 → Chain P base ops dr l st1 st2 → Chain P base ops dr (o :: l) st st2
  | loud {o : Oper} {l : List Oper} {st st1 st2 : AS} : SeqGood P base ops o st st1 → Chain P base ops false l st1 st2 → Chain P base ops false (o :: l) st st2
  | wk {ρ : Nat → Nat} {fz ph : List Nat} {l : List Oper} {st st1 st2 : AS} : Wk base ρ fz ph st st1 → Chain P base ops false l st1 st2 → Chain P base ops false l st st2

theorem chain_states : ∀ {l : List Oper} {st st' : AS}, Chain P base ops true l st st' → ∃ S : Nat → AS, S 0 = st ∧ S l.length = st' ∧ ∀ i o, l[i]? = some o → Step P base ops o (S i) (S (i + 1))
  | [], st, st', h => by cases h; exact ⟨fun _ => st, rfl, rfl, fun i o h => by simp at h⟩
  | o :: l, st, st', h => by
    cases h with | @cons _ _ _ _ st1 _ h1 h2 =>
    obtain ⟨S, e0, e1, hs⟩ := chain_states h2
    refine ⟨fun i => match i with | 0 => st | i + 1 => S i, rfl, e1, fun i o' ho => ?_⟩
    cases i with
    | zero => simp at ho; subst ho; simp only [e0]; exact h1
    | succ i => exact hs i o' (by simpa using ho)

/-! ### What the check says -/
def Adm (ops : Array Oper) (S : Nat → Prop) : Prop := ∀ j o, S j → ops[j]? = some o → ∀ e ∈ o.after, Region.binds .any e = true → S e.on
def Behind (ops : Array Oper) (o : Oper) (j : Nat) : Prop := ∀ S : Nat → Prop, Adm ops S → (∀ e ∈ o.after, Region.binds .any e = true → S e.on) → S j

theorem mask_bits (acc : List Nat) (j : Nat) : ∀ (l : List Edge) (s : Nat), (l.foldl (fun s e => if Region.binds .any e then s ||| 2 ^ e.on ||| acc.getD e.on 0 else s) s).testBit j = true →
    s.testBit j = true ∨ ∃ e ∈ l, Region.binds .any e = true ∧ (e.on = j ∨ (acc.getD e.on 0).testBit j = true)
  | [], s, h => .inl h
  | e :: l, s, h => by
    simp only [List.foldl_cons] at h
    rcases mask_bits acc j l _ h with h | ⟨e', h1, h2, h3⟩
    · by_cases hb : Region.binds .any e = true
      · simp only [hb, if_true, Nat.testBit_or, Bool.or_eq_true, Nat.testBit_two_pow] at h
        rcases h with (h | h) | h
        · exact .inl h
        · exact .inr ⟨e, by simp, hb, .inl (by simpa using h)⟩
        · exact .inr ⟨e, by simp, hb, .inr h⟩
      · simp only [hb] at h; exact .inl (by simpa using h)
    · exact .inr ⟨e', List.mem_cons_of_mem _ h1, h2, h3⟩

theorem masks_spec : ∀ (r : List Oper) (pre : List Oper) (acc : List Nat), ops.toList = pre ++ r → acc.length = pre.length →
    (∀ (i m : Nat), acc[i]? = some m → ∃ o, ops[i]? = some o ∧ ∀ j, m.testBit j = true → Behind ops o j) →
    (masks acc r).length = ops.size ∧ ∀ (i m : Nat), (masks acc r)[i]? = some m → ∃ o, ops[i]? = some o ∧ ∀ j, m.testBit j = true → Behind ops o j
  | [], pre, acc, h, hl, ha => by
    refine ⟨?_, ha⟩
    have := congrArg List.length h
    simp at this
    simp [masks, hl, this]
  | o :: r, pre, acc, h, hl, ha => by
    refine masks_spec r (pre ++ [o]) (acc ++ [maskOf acc o]) (by rw [h]; simp) (by simp [hl]) ?_
    intro i m hm
    by_cases hi : i < acc.length
    · rw [List.getElem?_append_left hi] at hm; exact ha i m hm
    · rw [List.getElem?_append_right (by omega)] at hm
      have hi' : i = acc.length := by
        have := lt_size hm
        simp at this; omega
      subst hi'
      simp at hm; subst hm
      refine ⟨o, by rw [← Array.getElem?_toList, h, hl]; simp, fun j hj S hS he => ?_⟩
      rcases mask_bits acc j _ _ hj with h0 | ⟨e, h1, h2, h3⟩
      · simp at h0
      · have hse := he e (by simpa using h1) h2
        rcases h3 with h3 | h3
        · exact h3 ▸ hse
        · rw [List.getD_eq_getElem?_getD] at h3
          cases hc : acc[e.on]? with
          | none => rw [hc] at h3; simp at h3
          | some m' =>
            rw [hc] at h3
            obtain ⟨o', ho', hb⟩ := ha _ _ hc
            exact hb j h3 S hS (fun e' he' hb' => hS _ _ hse ho' e' he' hb')

theorem edges_spec : ∀ (l : List Oper) (n : Nat), edgesOk n l = true → ∀ i o, l[i]? = some o → ∀ e ∈ o.after, Region.binds .any e = true → e.on < n + i
  | [], _, _, i, o, h => by simp at h
  | x :: l, n, h, i, o, ho => by
    simp only [edgesOk, Bool.and_eq_true, List.all_eq_true] at h
    cases i with
    | zero =>
      simp at ho; subst ho
      intro e he hb
      have := h.1 e (by simpa using he)
      simp [hb] at this
      exact this
    | succ i =>
      intro e he hb
      have := edges_spec l (n + 1) h.2 i o (by simpa using ho) e he hb
      omega

structure DrawOk (ops : Array Oper) : Prop where
  edges : ∀ j o, ops[j]? = some o → ∀ e ∈ o.after, Region.binds .any e = true → e.on < j
  pairs : ∀ i j a b, i < j → ops[i]? = some a → ops[j]? = some b → Behind ops b i ∨ (touch a.op + touch b.op ≤ 2 ∧ (∀ t ∈ reads ops a, b.dst ≠ some t) ∧ (∀ t ∈ reads ops b, a.dst ≠ some t) ∧ ∀ t, a.dst = some t → b.dst ≠ some t)

theorem zip_get {α : Type} {l : List α} {i : Nat} {x : α} (h : l[i]? = some x) : (x, i) ∈ l.zipIdx := by
  refine List.mem_of_getElem? (i := i) ?_
  simp [h]

theorem dstIs_iff {o : Oper} {t : Tmp} : dstIs o t = true ↔ o.dst = some t := by
  unfold dstIs
  cases o.dst with
  | none => simp
  | some d => simp

theorem draw_ok (h : drawOk ops = true) : DrawOk ops := by
  simp only [drawOk, Bool.and_eq_true, List.all_eq_true] at h
  obtain ⟨h2, h5⟩ := h
  obtain ⟨ml, ms⟩ := masks_spec (ops := ops) ops.toList [] [] rfl rfl (by simp)
  have toL : ∀ (i : Nat) (o : Oper), ops[i]? = some o → ops.toList[i]? = some o := fun i o ho => by rw [Array.getElem?_toList]; exact ho
  refine ⟨fun j o ho e he hb => ?_, fun i j a b hij ha hb => ?_⟩
  · have := edges_spec _ 0 h2 j o (toL j o ho) e he hb
    omega
  · have := h5 _ (zip_get (toL j b hb)) _ (zip_get (toL i a ha))
    simp only [Bool.or_eq_true] at this
    rcases this with (h | h) | h
    · have hb' : Nat.blt i j = true := by rw [Nat.blt_eq]; exact hij
      simp only [hb'] at h; cases h
    · left
      obtain ⟨m, hm⟩ := ex_get (xs := masks [] ops.toList) (i := j) (by rw [ml]; exact lt_sizeA hb)
      obtain ⟨o', ho', hbm⟩ := ms j m hm
      rw [hb] at ho'; cases ho'
      rw [List.getD_eq_getElem?_getD, hm] at h
      exact hbm i h
    · right
      simp only [apartB, Bool.and_eq_true, Nat.ble_eq, List.all_eq_true, Bool.not_eq_true'] at h
      obtain ⟨⟨⟨h3, h4⟩, h6⟩, h7⟩ := h
      refine ⟨h3, fun t ht hd => ?_, fun t ht hd => ?_, fun t ht hd => ?_⟩
      · have := h4 t ht; rw [dstIs_iff.2 hd] at this; cases this
      · have := h6 t ht; rw [dstIs_iff.2 hd] at this; cases this
      · rw [ht] at h7; simp only at h7; rw [dstIs_iff.2 hd] at h7; simp at h7
end
end Go.Am
