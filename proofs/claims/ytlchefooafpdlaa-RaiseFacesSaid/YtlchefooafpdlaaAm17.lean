/- EACH OPERATION OF THE ABSTRACT MACHINE SAYS WHAT THE MODEL's DOES (12): all together. -/
import Derived.Test.YtlchefooafpdlaaAm16
namespace Go.Am
open Go
variable {P : Program} {T : Tab}
section
variable {w : World} {Z : Nat → Prop} {inj : Inj} {st : AS} {a : Act} {Ds : List Nat}

theorem minI_cons {mx : Bool} {v b : V} {r : List V} {u : V} (h : minI mx v (b :: r) = some u) : ∃ k n k' m, v = .d (.int k n) ∧ b = .d (.int k' m) ∧ minI mx (.d (.int k (bif mx then (if m > n then m else n) else (if m < n then m else n)))) r = some u := by
  unfold minI at h
  split at h
  · rename_i heq; cases heq
  · rename_i heq; cases heq; exact ⟨_, _, _, _, rfl, rfl, h⟩
  · simp at h

theorem minI_rel {mx : Bool} {nx : Nat} : ∀ (r : List V) (v u : V) (x : Value) (xs : List Value), minI mx v r = some u → RelV w Z inj nx v x → r.length = xs.length → (∀ (i : Nat) (d : V) (c : Value), r[i]? = some d → xs[i]? = some c → RelV w Z inj nx d c) →
    ∃ y, (xs.foldlM (if mx then Builtin.max2 else Builtin.min2) x).run P w = .ok y w ∧ RelV w Z inj nx u y
  | [], v, u, x, xs, h, hv, hl, _ => by
    simp [minI] at h; subst h
    have : xs = [] := by cases xs <;> simp_all
    subst this
    exact ⟨x, by simp, hv⟩
  | b :: r, v, u, x, xs, h, hv, hl, hr => by
    match xs, hl, hr with
    | c :: xs, hl, hr =>
      have hb := hr 0 b c rfl rfl
      obtain ⟨k, n, k', m, rfl, rfl, h⟩ := minI_cons h
      cases hv with | d hv =>
      cases hv
      cases hb with | d hb =>
      cases hb
      obtain ⟨y, h1, h2⟩ := minI_rel r _ u (.int k (bif mx then (if m > n then m else n) else (if m < n then m else n))) xs h (.d (.int _ _)) (by simpa using hl) (fun i d c hd hc => hr (i + 1) d c (by simpa using hd) (by simpa using hc))
      refine ⟨y, ?_, h2⟩
      cases mx
      · simp only [Bool.false_eq_true, if_false, List.foldlM_cons, Builtin.min2, Sem.run_bind, Sem.run_pure, Result.andThen_ok, cond_false] at h1 ⊢; exact h1
      · simp only [if_true, List.foldlM_cons, Builtin.max2, Sem.run_bind, Sem.run_pure, Result.andThen_ok, cond_true] at h1 ⊢; exact h1

theorem lrel_two {nx : Nat} {x y : V} {xs : Array Value} (h : LRel w Z inj nx [x, y] xs) : ∃ a b, xs = #[a, b] ∧ RelV w Z inj nx x a ∧ RelV w Z inj nx y b := by
  obtain ⟨h1, h2⟩ := h
  obtain ⟨l⟩ := xs
  match l, h1 with
  | [a, b], _ => exact ⟨a, b, rfl, h2 0 _ _ rfl rfl, h2 1 _ _ rfl rfl⟩
theorem lrel_one {nx : Nat} {x : V} {xs : Array Value} (h : LRel w Z inj nx [x] xs) : ∃ a, xs = #[a] ∧ RelV w Z inj nx x a := by
  obtain ⟨h1, h2⟩ := h
  obtain ⟨l⟩ := xs
  match l, h1 with
  | [a], _ => exact ⟨a, rfl, h2 0 _ _ rfl rfl⟩
theorem argT0 {ts : Array TypeId} {t : TypeId} (h : ts[0]? = some t) (hs : ts.size = 1 ∨ True) : ∃ r, ts.toList = t :: r := by
  obtain ⟨l⟩ := ts
  cases l with
  | nil => simp at h
  | cons x r => simp at h; subst h; exact ⟨r, rfl⟩

/-- A built-in, on values. -/
theorem builtin_sound {b : Builtin} {ts : Array TypeId} {ty : TypeId} {cs : Array Bool} {vs : List V} {xs : Array Value} {v : V} {st1 : AS} (hT : TabOk P T) (h : RelS w Z inj st a Ds) (hv : LRel w Z inj st.nx vs xs) (hb : builtinV T st b ts vs = some (v, st1)) :
    OpRes st st1 v w Z inj ((builtin b ts ty cs xs).run P w) := by
  unfold builtinV at hb
  split at hb
  · -- len
    rename_i x
    obtain ⟨xv, rfl, hx⟩ := lrel_one hv
    split at hb <;> try simp at hb
    rename_i t ht0
    split at hb <;> try simp at hb
    rename_i i hti
    obtain ⟨info, d, z, k⟩ := ti_ok (hT _ _ hti)
    have hkk := k.kind
    unfold KindOk at hkk
    have fin : ∀ n : Int, (Builtin.len_ ts ty #[xv]).run P w = .ok (.int .i64 n) w → OpRes st st (.d (.int .i64 n)) w Z inj ((builtin .len ts ty cs #[xv]).run P w) := fun n hr =>
      .quiet h (by simp [builtin, hr]) (.d (.int _ _))
    split at hb <;> try simp at hb
    · rename_i hk
      simp only [hk] at hkk
      obtain ⟨e, ie, de, rfl, _⟩ := hkk
      obtain ⟨rfl, rfl⟩ := hb
      refine fin _ ?_
      simp only [Builtin.len_, ht0]
      simp [run_underlying k.und, goInt]
    · rename_i hk
      simp only [hk] at hkk
      obtain ⟨e, ie, de, ze, rfl, _⟩ := hkk
      have hlen : ∀ ad n cap, xv = .slice ad n cap → (Builtin.len_ ts ty #[xv]).run P w = .ok (.int .i64 n) w := by
        rintro ad n cap rfl
        simp only [Builtin.len_, ht0]
        simp [run_underlying k.und, goInt]
      split at hb <;> try simp at hb
      · obtain ⟨rfl, rfl⟩ := hb
        cases hx with | d hx =>
        cases hx
        exact fin 0 (hlen _ _ _ rfl)
      · obtain ⟨rfl, rfl⟩ := hb
        cases hx with | d hx =>
        cases hx with
        | slnil => exact fin _ (hlen _ _ _ rfl)
        | slemp => exact fin _ (hlen _ _ _ rfl)
        | sl => exact fin _ (hlen _ _ _ rfl)
      · obtain ⟨rfl, rfl⟩ := hb
        cases hx with
        | hsnil => exact fin _ (hlen _ _ _ rfl)
        | hs => exact fin _ (hlen _ _ _ rfl)
    · rename_i hk
      simp only [hk] at hkk
      obtain ⟨rfl, _⟩ := hkk
      split at hb <;> try simp at hb
      obtain ⟨rfl, rfl⟩ := hb
      cases hx with | d hx =>
      cases hx
      refine fin _ ?_
      simp only [Builtin.len_, ht0]
      simp [run_underlying k.und, goInt]
  · -- append
    obtain ⟨sv, xv, rfl, hs, hx⟩ := lrel_two hv
    split at hb <;> try simp at hb
    rename_i t u ht0 hu0
    split at hb <;> try simp at hb
    rename_i i j hti htj
    obtain ⟨⟨h1, h2, h3⟩, hb⟩ := hb
    have key : (Builtin.append_ ts ty #[sv, xv]).run P w = (Builtin.append_ #[t, u] ty #[sv, xv]).run P w := by
      unfold Builtin.append_; simp only [ht0, hu0]; rfl
    obtain ⟨x, w', inj', hr, r1, r2, r3, r4, r5⟩ := op_append (ty := ty) h (hT _ _ hti) (hT _ _ htj) h1 h2 h3 hs hx hb
    exact ⟨x, w', inj', .inl (by simp [builtin, key, hr]), r1, r2, r3, r4, r5⟩
  · -- copy
    obtain ⟨sv, xv, rfl, hs, hx⟩ := lrel_two hv
    split at hb <;> try simp at hb
    rename_i t u ht0 hu0
    split at hb <;> try simp at hb
    rename_i i j hti htj
    obtain ⟨⟨h1, h2, h3, h4⟩, hb⟩ := hb
    have key : (Builtin.copy_ ts ty #[sv, xv]).run P w = (Builtin.copy_ #[t, u] ty #[sv, xv]).run P w := by
      unfold Builtin.copy_; simp only [ht0]; rfl
    obtain ⟨x, w', inj', hr, r1, r2, r3, r4, r5⟩ := op_copy (ty := ty) h (hT _ _ hti) (hT _ _ htj) h1 h2 h3 h4 hs hx hb
    exact ⟨x, w', inj', .inl (by simp [builtin, key, hr]), r1, r2, r3, r4, r5⟩
  · -- min
    rename_i v0 r
    cases hm : minI false v0 r with
    | none => simp [hm] at hb
    | some u =>
      simp [hm] at hb; obtain ⟨rfl, rfl⟩ := hb
      obtain ⟨l⟩ := xs
      match l, hv with
      | [], hv => simp [LRel] at hv
      | x :: xs, hv =>
        obtain ⟨y, h1, h2⟩ := minI_rel (P := P) r v0 u x xs hm (hv.2 0 _ _ rfl rfl) (by simpa using hv.1) (fun i d c hd hc => hv.2 (i + 1) d c (by simpa using hd) (by simpa using hc))
        refine .quiet h ?_ h2
        simp only [Bool.false_eq_true, if_false] at h1
        simp [builtin, Builtin.min_, h1]
  · rename_i v0 r
    cases hm : minI true v0 r with
    | none => simp [hm] at hb
    | some u =>
      simp [hm] at hb; obtain ⟨rfl, rfl⟩ := hb
      obtain ⟨l⟩ := xs
      match l, hv with
      | [], hv => simp [LRel] at hv
      | x :: xs, hv =>
        obtain ⟨y, h1, h2⟩ := minI_rel (P := P) r v0 u x xs hm (hv.2 0 _ _ rfl rfl) (by simpa using hv.1) (fun i d c hd hc => hv.2 (i + 1) d c (by simpa using hd) (by simpa using hc))
        refine .quiet h ?_ h2
        simp only [if_true] at h1
        simp [builtin, Builtin.max_, h1]
  · simp at hb

theorem op_sound {o : Oper} {v : V} {st1 : AS} (hT : TabOk P T) (h : RelS w Z inj st a Ds) (ho : opFn T st o.op = some (v, st1)) : OpRes st st1 v w Z inj ((execOp a.eval o).run P w) := by
  obtain ⟨dst, op, type, pos, after, guard⟩ := o
  simp only at ho
  cases op <;> simp only [opFn, reduceCtorEq] at ho
  case move x =>
    cases hx : st.ev x with
    | none => simp [hx] at ho
    | some u => simp [hx] at ho; obtain ⟨rfl, rfl⟩ := ho; exact op_move h hx rfl
  case assign x =>
    cases hx : st.ev x with
    | none => simp [hx] at ho
    | some u => simp [hx] at ho; obtain ⟨rfl, rfl⟩ := ho; exact op_move h hx rfl
  case pick c x y =>
    split at ho <;> try simp at ho
    · rename_i hc
      obtain ⟨u, hx, rfl, rfl⟩ := ho
      have hcr := ev_rel h hc
      generalize hce : a.eval c = cv at hcr
      cases hcr with | d hcr =>
      cases hcr
      exact .quiet h (by simp [execOp, hce, asBool]) (ev_rel h hx)
    · rename_i hc
      obtain ⟨u, hx, rfl, rfl⟩ := ho
      have hcr := ev_rel h hc
      generalize hce : a.eval c = cv at hcr
      cases hcr with | d hcr =>
      cases hcr
      exact .quiet h (by simp [execOp, hce, asBool]) (ev_rel h hx)
  case alloc t =>
    cases ht : T t with
    | none => simp [ht] at ho
    | some i => simp [ht] at ho; obtain ⟨rfl, rfl⟩ := ho; exact op_alloc h (hT _ _ ht)
  case box t x =>
    split at ho <;> try simp at ho
    rename_i i u ht hx
    obtain ⟨⟨h1, h2⟩, rfl, rfl⟩ := ho
    exact op_box h (hT _ _ ht) hx h1 (by simpa using h2)
  case build t ps =>
    split at ho <;> try simp at ho
    rename_i i vs ht hv
    obtain ⟨h1, ho⟩ := ho
    split at ho <;> try simp at ho
    rename_i l hl
    obtain ⟨cs, hc, rfl, rfl⟩ := ho
    exact op_build h (hT _ _ ht) hv h1 hl hc
  case buildSlice t len ps =>
    split at ho <;> try simp at ho
    rename_i i vs ht hv
    split at ho <;> try simp at ho
    rename_i l hl
    obtain ⟨⟨h1, h2⟩, xs, hc, rfl, rfl⟩ := ho
    exact op_buildSlice h (hT _ _ ht) hv hl h1 h2 hc
  case load t p =>
    split at ho <;> try simp at ho
    rename_i i u ht hp
    obtain ⟨x, hx, rfl, rfl⟩ := ho
    exact op_load h (hT _ _ ht) hp hx
  case store t p x =>
    split at ho <;> try simp at ho
    rename_i i u y ht hp hx
    obtain ⟨hs, rfl⟩ := ho
    exact op_store h (hT _ _ ht) hp hx hs
  case binOp op t x y u =>
    split at ho
    · rename_i p q hx hy
      split at ho <;> try simp at ho
      rename_i i ht
      split at ho <;> try simp at ho
      rename_i ks hks
      split at ho <;> simp at ho
      · rename_i r hc; obtain ⟨rfl, rfl⟩ := ho; exact op_binAgg h (hT _ _ ht) hx hy hks hc (.inl ⟨rfl, rfl⟩)
      · rename_i r hc; obtain ⟨rfl, rfl⟩ := ho; exact op_binAgg h (hT _ _ ht) hx hy hks hc (.inr ⟨rfl, rfl⟩)
    · rename_i hx hy
      simp at ho
      obtain ⟨r, hr, rfl, rfl⟩ := ho
      exact op_binInt h hx hy hr
    · rename_i hx hy
      split at ho <;> try simp at ho
      rename_i i ht
      obtain ⟨r, hr, rfl, rfl⟩ := ho
      exact op_binEq h (hT _ _ ht) hx hy hr
    · simp at ho
  case unOp op t x =>
    split at ho <;> try simp at ho
    rename_i p hx
    obtain ⟨r, hr, rfl, rfl⟩ := ho
    exact op_un h hx hr
  case convert src dst x =>
    split at ho <;> try simp at ho
    rename_i i j k n hi hj hx
    split at ho <;> simp at ho
    rename_i k0 k1 hk0 hk1
    obtain ⟨rfl, rfl⟩ := ho
    exact op_convert h (hT _ _ hi) (hT _ _ hj) hk0 hk1 hx
  case makeFunc fn first caps =>
    cases fn <;> simp only [reduceCtorEq] at ho
    rename_i f
    split at ho <;> simp at ho
    rename_i hf
    obtain ⟨vs, hv, rfl, rfl⟩ := ho
    exact op_makeFunc h hf hv
  case makeSlice t l c =>
    split at ho <;> try simp at ho
    rename_i i k1 n k2 m ht hl hc
    obtain ⟨⟨h1, h2, h3, h4⟩, rfl, rfl⟩ := ho
    exact op_makeSlice h (hT _ _ ht) h1 hl hc h2 h3 h4
  case slice t x lo hi mx =>
    split at ho <;> try simp at ho
    rename_i i u ht hx
    obtain ⟨⟨h1, h2⟩, ho⟩ := ho
    split at ho <;> try simp at ho
    rename_i n hn
    split at ho <;> try simp at ho
    rename_i p q hp hq
    obtain ⟨r, hr, rfl, rfl⟩ := ho
    subst h2
    exact op_slice h (hT _ _ ht) h1 hx hn hp hq hr
  case fieldAddr s p f =>
    split at ho <;> try simp at ho
    rename_i i u ht hp
    split at ho <;> try simp at ho
    rename_i off size ag hk hf
    obtain ⟨r, hr, rfl, rfl⟩ := ho
    exact op_fieldAddr h (hT _ _ ht) hp hk hf hr
  case field s x f =>
    split at ho <;> try simp at ho
    rename_i i u ht hx
    split at ho <;> try simp at ho
    rename_i off size ag cs hk hf ha
    split at ho <;> try simp at ho
    rename_i r hr
    obtain ⟨y, hy, rfl, rfl⟩ := ho
    exact op_field h (hT _ _ ht) hx hk hf ha hr hy
  case indexAddr t x ix =>
    split at ho <;> try simp at ho
    rename_i i u k n ht hx hn
    obtain ⟨y, hy, rfl, rfl⟩ := ho
    exact op_indexAddr h (hT _ _ ht) hx hn hy
  case index t x ix =>
    split at ho <;> try simp at ho
    rename_i i u k n ht hx hn
    split at ho <;> try simp only [reduceCtorEq] at ho
    · rename_i cs hk ha
      split at ho <;> try simp at ho
      rename_i h0
      split at ho <;> try simp at ho
      rename_i r hr
      obtain ⟨y, hy, rfl, rfl⟩ := ho
      exact op_index h (hT _ _ ht) hx hn hk ha h0 hr hy
    · rename_i hk
      split at ho <;> try simp only [reduceCtorEq] at ho
      rename_i s
      rw [Option.map_eq_some_iff] at ho
      obtain ⟨b, hb, e⟩ := ho
      cases e
      exact op_indexS h (hT _ _ ht) hx hn hk hb
  case extract x k =>
    split at ho <;> try simp at ho
    · rename_i vs hx
      obtain ⟨y, hy, rfl, rfl⟩ := ho
      exact op_extract h (.inl ⟨vs, y, hx, hy, rfl⟩)
    · rename_i vs hx
      obtain ⟨y, hy, rfl, rfl⟩ := ho
      exact op_extract h (.inr ⟨vs, hx, hy⟩)
  case nilCheck x =>
    have key : ∀ u, st.ev x = some u → (match a.eval x with | .pointer none | .nilIface | .nilFunc | .func (.method _) _ _ => False | _ => True) → OpRes st st u w Z inj ((execOp a.eval { dst := dst, op := .nilCheck x, type := type, pos := pos, after := after, guard := guard }).run P w) := by
      intro u hx hne
      have hr := ev_rel h hx
      refine .quiet (x := a.eval x) h ?_ hr
      simp only [execOp]
      split <;> simp_all
    split at ho <;> simp at ho
    all_goals
      rename_i hx
      obtain ⟨rfl, rfl⟩ := ho
      refine key _ hx ?_
      have hr := ev_rel h hx
      generalize a.eval x = xv at hr ⊢
      first
        | (cases hr with | d hr => cases hr <;> trivial)
        | (cases hr <;> trivial)
  case call c =>
    obtain ⟨cal, args, argTypes⟩ := c
    cases cal <;> simp only [reduceCtorEq] at ho
    rename_i b
    split at ho <;> try simp at ho
    rename_i vs hv
    have hl := evL_rel h hv
    have e2 : (args.toList.map a.eval).toArray = args.map a.eval := by apply Array.ext'; simp
    rw [e2] at hl
    have := builtin_sound (ty := type) (cs := args.map fun | .const _ => true | _ => false) hT h hl ho
    simp only [execOp, resolve, Sem.run_bind, Sem.run_pure, Result.andThen_ok, invoke]
    exact this
end
end Go.Am
