/- EACH OPERATION OF THE ABSTRACT MACHINE SAYS WHAT THE MODEL's DOES (4): integers, comparisons, addresses, slices. -/
import Derived.Test.YtlchefooafpdlaaAm8
namespace Go.Am
open Go
variable {P : Program} {T : Tab}

/-! ### '==' of rows of plain cells -/
theorem cellsEq_split : ∀ {k1 k2 : List (Option IntKind)} {a b : List DV} {r : Bool}, cellsEq (k1 ++ k2) a b = some r →
    ∃ p q, cellsEq k1 (a.take k1.length) (b.take k1.length) = some p ∧ cellsEq k2 (a.drop k1.length) (b.drop k1.length) = some q ∧ r = (p && q)
  | [], k2, a, b, r, h => ⟨true, r, by simp [cellsEq], by simpa using h, by simp⟩
  | k :: k1, k2, a, b, r, h => by
    match a, b, h with
    | x :: a, y :: b, h =>
      simp only [List.cons_append, cellsEq] at h
      split at h <;> simp at h
      rename_i u v h1 h2
      obtain ⟨p, q, h3, h4, h5⟩ := cellsEq_split h2
      refine ⟨u && p, q, by simp [cellsEq, h1, h3], by simpa using h4, ?_⟩
      rw [← h, h5, Bool.and_assoc]
    | [], _, h => simp [cellsEq] at h
    | _ :: _, [], h => simp [cellsEq] at h

theorem cellsEq_len : ∀ {ks : List (Option IntKind)} {a b : List DV} {r : Bool}, cellsEq ks a b = some r → a.length = ks.length ∧ b.length = ks.length
  | [], [], [], _, _ => ⟨rfl, rfl⟩
  | k :: ks, x :: a, y :: b, r, h => by
    simp only [cellsEq] at h
    split at h <;> simp at h
    rename_i h1 h2
    have := cellsEq_len h2
    simp; omega
  | [], _ :: _, _, _, h => by simp [cellsEq] at h
  | [], [], _ :: _, _, h => by simp [cellsEq] at h
  | _ :: _, [], _, _, h => by simp [cellsEq] at h
  | _ :: _, _ :: _, [], _, h => by simp [cellsEq] at h

section
variable {w : World} {Z : Nat → Prop}
def DRel (w : World) (Z : Nat → Prop) (ds : List DV) (cs : Array Value) : Prop := ds.length = cs.size ∧ ∀ (i : Nat) (d : DV) (c : Value), ds[i]? = some d → cs[i]? = some c → RelD w Z d c

theorem DRel.extract {ds : List DV} {cs : Array Value} (h : DRel w Z ds cs) (o s : Nat) (hs : o + s ≤ ds.length) : DRel w Z ((ds.drop o).take s) (cs.extract o (o + s)) := by
  have h1 := h.1
  refine ⟨by simp; omega, fun i d c hd hc => ?_⟩
  rw [List.getElem?_take] at hd
  split at hd
  · rw [List.getElem?_drop] at hd
    rw [Array.getElem?_extract] at hc
    split at hc
    · exact h.2 _ _ _ hd hc
    · simp at hc
  · simp at hd

theorem und_info {t : TypeId} {d : TypeDesc} (h : P.underlying t = some d) : ∃ info, P.info? t = some info ∧ P.cellsOf t = info.size := by
  cases hi : P.info? t with
  | none => simp [Program.underlying, hi] at h
  | some info => exact ⟨info, rfl, by simp [Program.cellsOf, hi]⟩

/-- What '==' of a type's values comes to. -/
def EqOk (P : Program) (w : World) (Z : Nat → Prop) (k : Nat) (t : TypeId) (desc : TypeDesc) (ks : List (Option IntKind)) : Prop :=
  ∀ (xs ys : List DV) (X Y : Array Value) (r : Bool), DRel w Z xs X → DRel w Z ys Y → cellsEq ks xs ys = some r →
    (aggDesc desc = true → (Op.equalIn k t (.agg X) (.agg Y)).run P w = .ok r w) ∧ (aggDesc desc = false → ks.length = 1 ∧ ∀ x y, X[0]? = some x → Y[0]? = some y → (Op.equalIn k t x y).run P w = .ok r w)

def eqBody (k : Nat) (X Y : Array Value) (f : Field) (_s : Option Bool × Unit) : Sem (ForInStep (Option Bool × Unit)) :=
  if f.name ≠ "_" then do
    let __do_lift ← part f.type X f.offset
    let __do_lift_1 ← part f.type Y f.offset
    let __do_lift ← Op.equalIn k f.type __do_lift __do_lift_1
    if (!__do_lift) = true then pure (ForInStep.done (some false, ())) else pure (ForInStep.yield (none, ()))
  else pure (ForInStep.yield (none, ()))

theorem eq_part {k : Nat} {t : TypeId} {desc : TypeDesc} {info : TypeInfo} {ks : List (Option IntKind)} (h : EqOk P w Z k t desc ks) (hu : P.underlying t = some desc) (hi : P.info? t = some info) (hs : info.size = ks.length)
    {xs ys : List DV} {X Y : Array Value} (hx : DRel w Z xs X) (hy : DRel w Z ys Y) {o : Nat} (hlx : o + ks.length ≤ xs.length) (hly : o + ks.length ≤ ys.length) {p : Bool}
    (hp : cellsEq ks ((xs.drop o).take ks.length) ((ys.drop o).take ks.length) = some p) :
    ∃ vx vy, (part t X o).run P w = .ok vx w ∧ (part t Y o).run P w = .ok vy w ∧ (Op.equalIn k t vx vy).run P w = .ok p w := by
  obtain ⟨e1, e2⟩ := h _ _ _ _ p (hx.extract o ks.length hlx) (hy.extract o ks.length hly) hp
  cases hag : aggDesc desc with
  | true =>
    exact ⟨.agg (X.extract o (o + ks.length)), .agg (Y.extract o (o + ks.length)), by simp [part, isAgg_run hu, hag, sizeOf_run hi, hs], by simp [part, isAgg_run hu, hag, sizeOf_run hi, hs], e1 hag⟩
  | false =>
    obtain ⟨h1, e2⟩ := e2 hag
    have hx1 := hx.1
    have hy1 := hy.1
    obtain ⟨x, hxx⟩ := ex_getA (xs := X) (i := o) (by omega)
    obtain ⟨y, hyy⟩ := ex_getA (xs := Y) (i := o) (by omega)
    refine ⟨x, y, by simp [part, isAgg_run hu, hag, hxx], by simp [part, isAgg_run hu, hag, hyy], e2 x y ?_ ?_⟩
    · rw [Array.getElem?_extract, h1, if_pos (by have := lt_sizeA hxx; omega)]; exact hxx
    · rw [Array.getElem?_extract, h1, if_pos (by have := lt_sizeA hyy; omega)]; exact hyy

theorem eq_loop (d : Nat) (k : Nat) (ih : ∀ t desc ks, P.underlying t = some desc → plainEq P d t = some ks → EqOk P w Z k t desc ks)
    (xs ys : List DV) (X Y : Array Value) (hx : DRel w Z xs X) (hy : DRel w Z ys Y) : ∀ (l : List Field) (o : Nat) (r : Bool) (ks : List (Option IntKind)), tile P (plainEq P d) o l = some ks → o + ks.length ≤ xs.length → o + ks.length ≤ ys.length →
    cellsEq ks (xs.drop o) (ys.drop o) = some r → (forIn l ((none : Option Bool), ()) (eqBody k X Y) : Sem (Option Bool × Unit)).run P w = .ok (if r then (none, ()) else (some false, ())) w
  | [], o, r, ks, ht, _, _, hc => by
    simp only [tile, Option.some.injEq] at ht; subst ht
    obtain ⟨h1, h2⟩ := cellsEq_len hc
    rw [List.eq_nil_of_length_eq_zero h1, List.eq_nil_of_length_eq_zero h2] at hc
    simp [cellsEq] at hc; subst hc
    simp
  | f :: l, o, r, ks, ht, hlx, hly, hc => by
    simp only [tile] at ht
    cases hpe : plainEq P d f.type with
    | none => simp [hpe] at ht
    | some ka =>
      simp only [hpe] at ht
      split at ht <;> try simp at ht
      rename_i hcond
      obtain ⟨rfl, hn, hsz⟩ := hcond
      cases htl : tile P (plainEq P d) (f.offset + ka.length) l with
      | none => simp [htl] at ht
      | some kb =>
        simp only [htl, Option.some.injEq] at ht; subst ht
        simp only [List.length_append] at hlx hly
        obtain ⟨p, q, hp, hq, hr⟩ := cellsEq_split hc
        rw [List.drop_drop, List.drop_drop] at hq
        obtain ⟨df, hdf⟩ : ∃ df, P.underlying f.type = some df := by
          cases hu : P.underlying f.type with
          | none => cases d <;> simp [plainEq, hu] at hpe
          | some df => exact ⟨df, rfl⟩
        obtain ⟨jf, hjf, hsz'⟩ := und_info hdf
        obtain ⟨vx, vy, g1, g2, g3⟩ := eq_part (ih f.type df ka hdf hpe) hdf hjf (by omega) hx hy (o := f.offset) (by omega) (by omega) hp
        rw [List.forIn_cons]
        simp only [eqBody, if_pos hn, Sem.run_bind, g1, g2, g3, Result.andThen_ok]
        cases p with
        | false => simp [hr]
        | true =>
          have := eq_loop d k ih xs ys X Y hx hy l (f.offset + ka.length) q kb htl (by omega) (by omega) hq
          simp only [Bool.true_and] at hr
          subst hr
          simpa using this

def eqBodyA (k : Nat) (e : TypeId) (n : Nat) (X Y : Array Value) (i : Nat) (_s : Option Bool × Unit) : Sem (ForInStep (Option Bool × Unit)) := do
  let __do_lift ← part e X (i * n)
  let __do_lift_1 ← part e Y (i * n)
  let __do_lift ← Op.equalIn k e __do_lift __do_lift_1
  if (!__do_lift) = true then pure (ForInStep.done (some false, ())) else pure (ForInStep.yield (none, ()))

theorem eq_loopA {k : Nat} {e : TypeId} {desc : TypeDesc} {info : TypeInfo} {a : List (Option IntKind)} (hE : EqOk P w Z k e desc a) (hu : P.underlying e = some desc) (hi : P.info? e = some info) (hs : info.size = a.length)
    {xs ys : List DV} {X Y : Array Value} (hx : DRel w Z xs X) (hy : DRel w Z ys Y) : ∀ (m s : Nat) (r : Bool), (s + m) * a.length ≤ xs.length → (s + m) * a.length ≤ ys.length →
    cellsEq (List.replicate m a).flatten (xs.drop (s * a.length)) (ys.drop (s * a.length)) = some r → (forIn (List.range' s m) ((none : Option Bool), ()) (eqBodyA k e info.size X Y) : Sem (Option Bool × Unit)).run P w = .ok (if r then (none, ()) else (some false, ())) w
  | 0, s, r, _, _, hc => by
    simp only [List.replicate_zero, List.flatten_nil] at hc
    obtain ⟨h1, h2⟩ := cellsEq_len hc
    rw [List.eq_nil_of_length_eq_zero h1, List.eq_nil_of_length_eq_zero h2] at hc
    simp [cellsEq] at hc; subst hc
    simp
  | m + 1, s, r, hlx, hly, hc => by
    rw [List.replicate_succ, List.flatten_cons] at hc
    obtain ⟨p, q, hp, hq, hr⟩ := cellsEq_split hc
    rw [List.drop_drop, List.drop_drop] at hq
    have e1 : s * a.length + a.length = (s + 1) * a.length := by rw [Nat.add_mul]; simp
    have e2 : (s + 1) * a.length + m * a.length = (s + (m + 1)) * a.length := by rw [← Nat.add_mul]; congr 1; omega
    obtain ⟨vx, vy, g1, g2, g3⟩ := eq_part hE hu hi hs hx hy (o := s * a.length) (by omega) (by omega) hp
    rw [List.range'_succ, List.forIn_cons]
    simp only [eqBodyA, hs, Sem.run_bind, g1, g2, g3, Result.andThen_ok]
    cases p with
    | false => simp [hr]
    | true =>
      rw [e1] at hq
      have := eq_loopA hE hu hi hs hx hy m (s + 1) q (by rw [Nat.add_mul]; omega) (by rw [Nat.add_mul]; omega) hq
      simp only [Bool.true_and] at hr
      subst hr
      rw [hs] at this
      simpa using this

theorem eq_run : ∀ (d : Nat) (t : TypeId) (desc : TypeDesc) (ks : List (Option IntKind)), P.underlying t = some desc → plainEq P d t = some ks → ∀ k, d ≤ k → EqOk P w Z k t desc ks
  | 0, t, desc, ks, hu, hp, k, hk => by simp [plainEq] at hp
  | d + 1, t, desc, ks, hu, hp, k, hk => by
    obtain ⟨k, rfl⟩ : ∃ k', k = k' + 1 := ⟨k - 1, by omega⟩
    intro xs ys X Y r hx hy hc
    obtain ⟨hl1, hl2⟩ := cellsEq_len hc
    simp only [plainEq, hu] at hp
    cases desc <;> simp only [reduceCtorEq, Option.some.injEq] at hp
    case bool =>
      subst hp
      refine ⟨by simp [aggDesc], fun _ => ⟨rfl, fun x y hxx hyy => ?_⟩⟩
      match xs, ys, hl1, hl2, hc with
      | [a], [b], _, _, hc =>
        have ra := hx.2 0 a x rfl hxx
        have rb := hy.2 0 b y rfl hyy
        simp only [cellsEq] at hc
        cases a <;> cases b <;> simp only [cellEq, reduceCtorEq] at hc
        simp at hc; subst hc
        cases ra; cases rb; simp [Op.equalIn, run_underlying hu]
    case int k0 =>
      subst hp
      refine ⟨by simp [aggDesc], fun _ => ⟨rfl, fun x y hxx hyy => ?_⟩⟩
      match xs, ys, hl1, hl2, hc with
      | [a], [b], _, _, hc =>
        have ra := hx.2 0 a x rfl hxx
        have rb := hy.2 0 b y rfl hyy
        simp only [cellsEq] at hc
        cases a <;> cases b <;> simp only [cellEq, reduceCtorEq] at hc
        split at hc <;> simp at hc
        rename_i h1 h2
        split at h1 <;> simp at h1
        rename_i hkk
        obtain ⟨rfl, rfl⟩ := hkk
        subst h1 hc
        simp at h2; subst h2
        cases ra; cases rb; simp [Op.equalIn, run_underlying hu]
    case struct fs =>
      refine ⟨fun _ => ?_, by simp [aggDesc]⟩
      split at hp
      · simp at hp
      · rename_i hst
        simp only [Op.equalIn, Sem.run_bind, run_underlying hu, Result.andThen_ok, run_program, hst, Bool.false_eq_true, if_false]
        have := eq_loop (P := P) (w := w) (Z := Z) d k (fun t desc ks h1 h2 => eq_run d t desc ks h1 h2 k (by omega)) xs ys X Y hx hy fs.toList 0 r ks hp (by omega) (by omega) (by simpa using hc)
        rw [Array.forIn_toList] at this
        have e : (fun (f : Field) (_s : Option Bool × Unit) => eqBody k X Y f _s) = eqBody k X Y := rfl
        unfold eqBody at this
        rw [this]
        cases r <;> simp
    case array n e =>
      refine ⟨fun _ => ?_, by simp [aggDesc]⟩
      cases hpe : plainEq P d e with
      | none => simp [hpe] at hp
      | some a =>
        simp only [hpe] at hp
        split at hp
        · rename_i hsz
          simp only [Option.some.injEq] at hp; subst hp
          obtain ⟨de, hde⟩ : ∃ de, P.underlying e = some de := by
            cases hu' : P.underlying e with
            | none => cases d <;> simp [plainEq, hu'] at hpe
            | some de => exact ⟨de, rfl⟩
          obtain ⟨je, hje, hsz'⟩ := und_info hde
          have hlen : (List.replicate n a).flatten.length = n * a.length := by simp
          have := eq_loopA (eq_run d e de a hde hpe k (by omega)) hde hje (by omega) hx hy n 0 r (by rw [Nat.zero_add]; omega) (by rw [Nat.zero_add]; omega) (by simpa using hc)
          simp only [Op.equalIn, Sem.run_bind, run_underlying hu, Result.andThen_ok, sizeOf_run hje, Std.Legacy.Range.forIn_eq_forIn_range']
          have e : (fun (i : Nat) (_s : Option Bool × Unit) => eqBodyA k e je.size X Y i _s) = eqBodyA k e je.size X Y := rfl
          unfold eqBodyA at this
          simp only [Std.Legacy.Range.size, Nat.sub_zero, Nat.add_sub_cancel, Nat.div_one]
          rw [this]
          cases r <;> simp
        · simp at hp
end

section
variable {w : World} {Z : Nat → Prop} {inj : Inj} {st : AS} {a : Act} {Ds : List Nat}

theorem binI_run {op : BinOp} {k : IntKind} {x y : Int} {r : DV} (h : binI op k x y = some r) (hs : op ≠ .shl ∧ op ≠ .shr) : ∃ v, (∀ t, (binOp op t (.int k x) (.int k y)).run P w = .ok v w) ∧ RelD w Z r v := by
  cases op <;> simp only [binI, reduceCtorEq, Option.some.injEq] at h <;> try (simp at hs; done)
  case add => subst h; exact ⟨_, fun t => by simp [binOp, Op.intArith], .int _ _⟩
  case sub => subst h; exact ⟨_, fun t => by simp [binOp, Op.intArith], .int _ _⟩
  case mul => subst h; exact ⟨_, fun t => by simp [binOp, Op.intArith], .int _ _⟩
  case quo => split at h <;> simp at h; subst h; rename_i hy; exact ⟨_, fun t => by simp [binOp, Op.intDiv, hy], .int _ _⟩
  case rem => split at h <;> simp at h; subst h; rename_i hy; exact ⟨_, fun t => by simp [binOp, Op.intDiv, hy], .int _ _⟩
  case and => subst h; exact ⟨_, fun t => by simp [binOp, Op.intBits], .int _ _⟩
  case or => subst h; exact ⟨_, fun t => by simp [binOp, Op.intBits], .int _ _⟩
  case xor => subst h; exact ⟨_, fun t => by simp [binOp, Op.intBits], .int _ _⟩
  case eql => subst h; exact ⟨_, fun t => by simp [binOp, Op.intCmp], .bool _⟩
  case neq => subst h; exact ⟨_, fun t => by simp [binOp, Op.intCmp], .bool _⟩
  case lss => subst h; exact ⟨_, fun t => by simp [binOp, Op.intCmp], .bool _⟩
  case leq => subst h; exact ⟨_, fun t => by simp [binOp, Op.intCmp], .bool _⟩
  case gtr => subst h; exact ⟨_, fun t => by simp [binOp, Op.intCmp], .bool _⟩
  case geq => subst h; exact ⟨_, fun t => by simp [binOp, Op.intCmp], .bool _⟩

theorem shiftI_run {op : BinOp} {k k' : IntKind} {x y : Int} {r : DV} (h : shiftI op k x y = some r) : ∃ v, (∀ t, (binOp op t (.int k x) (.int k' y)).run P w = .ok v w) ∧ RelD w Z r v := by
  unfold shiftI at h
  split at h <;> try simp at h
  rename_i hy
  cases op <;> simp only [reduceCtorEq, Option.some.injEq] at h
  case shl => subst h; exact ⟨_, fun t => by simp [binOp, Op.shift, hy], .int _ _⟩
  case shr => subst h; exact ⟨_, fun t => by simp [binOp, Op.shift, hy], .int _ _⟩

theorem eqGuard_plain {op : BinOp} {t : TypeId} {x y : Operand} {u v : Value} (hu : ∀ c, u ≠ .agg c) (hn : u ≠ .nilIface) : (eqGuard op t x y u v).run P w = .ok () w := by
  unfold eqGuard
  cases op <;> simp <;> cases u <;> simp_all

theorem eqGuard_agg {op : BinOp} {t : TypeId} {x y : Operand} {u v : Array Value} (h : P.eqGuardType P.depth t = false) : (eqGuard op t x y (.agg u) (.agg v)).run P w = .ok () w := by
  unfold eqGuard
  cases op <;> simp [h]
end
end Go.Am
