/- EACH OPERATION OF THE ABSTRACT MACHINE SAYS WHAT THE MODEL's DOES (5). -/
import Derived.Test.YtlchefooafpdlaaAm9
namespace Go.Am
open Go
variable {P : Program} {T : Tab}
section
variable {w : World} {Z : Nat → Prop} {inj : Inj} {st : AS} {a : Act} {Ds : List Nat}

theorem tile_noguard {pk : TypeId → Option (List (Option IntKind))} {k : Nat} (ih : ∀ t ks, pk t = some ks → P.eqGuardType k t = false) : ∀ {l : List Field} {o : Nat} {ks}, tile P pk o l = some ks → l.any (fun f => f.name != "_" && P.eqGuardType k f.type) = false
  | [], _, _, _ => rfl
  | f :: r, o, ks, h => by
    simp only [tile] at h
    cases hp : pk f.type with
    | none => simp [hp] at h
    | some ka =>
      simp only [hp] at h
      split at h <;> try simp at h
      cases ht : tile P pk (o + ka.length) r with
      | none => simp [ht] at h
      | some kb =>
        have := tile_noguard ih ht
        simp only [List.any_cons, this, ih _ _ hp, Bool.and_false, Bool.or_false]

theorem noguard : ∀ (d : Nat) (t : TypeId) (ks : List (Option IntKind)), plainEq P d t = some ks → ∀ k, d ≤ k → P.eqGuardType k t = false
  | 0, t, ks, h, k, hk => by simp [plainEq] at h
  | d + 1, t, ks, h, k, hk => by
    obtain ⟨k, rfl⟩ : ∃ k', k = k' + 1 := ⟨k - 1, by omega⟩
    simp only [plainEq] at h
    simp only [Program.eqGuardType]
    cases hu : P.underlying t with
    | none => rfl
    | some desc =>
      cases desc <;> simp only [hu, reduceCtorEq] at h <;> try rfl
      case array n e =>
        cases hp : plainEq P d e with
        | none => simp [hp] at h
        | some a => exact noguard d e a hp k (by omega)
      case struct fs =>
        split at h <;> try simp at h
        have := tile_noguard (fun t ks hp => noguard d t ks hp k (by omega)) h
        simp only []
        rw [← Array.any_toList]; exact this

theorem op_binAgg {op : BinOp} {t : TypeId} {i : TI} {x y : Operand} {p q : List DV} {ks : List (Option IntKind)} {r : Bool} {b : DV} (h : RelS w Z inj st a Ds) (ht : tiOf P t = some i) (hx : st.ev x = some (.d (.agg p))) (hy : st.ev y = some (.d (.agg q)))
    (he : i.eqs = some ks) (hc : cellsEq ks p q = some r) (hop : (op = .eql ∧ b = .bool r) ∨ (op = .neq ∧ b = .bool (!r))) :
    OpRes st st (.d b) w Z inj ((do pure (Next.value (← (do eqGuard op t x y (a.eval x) (a.eval y); binOp op t (a.eval x) (a.eval y) : Sem Value)) ) : Sem Next).run P w) := by
  obtain ⟨info, d, z, k⟩ := ti_ok ht
  have h1 := ev_rel h hx
  have h2 := ev_rel h hy
  generalize a.eval x = vx at h1 ⊢
  generalize a.eval y = vy at h2 ⊢
  cases h1 with | d h1 => cases h1 with | @agg _ X hl1 hr1 =>
  cases h2 with | d h2 => cases h2 with | @agg _ Y hl2 hr2 =>
  obtain ⟨hpe, hag⟩ := k.eqs ks he
  have hg : P.eqGuardType P.depth t = false := noguard 8 t ks hpe _ (by unfold Program.depth Made.depth; omega)
  have hrun := (eq_run (w := w) (Z := Z) 8 t d ks k.und hpe Op.maxDepth (by unfold Op.maxDepth; omega) p q X Y r ⟨hl1, hr1⟩ ⟨hl2, hr2⟩ hc).1 hag
  rcases hop with ⟨rfl, rfl⟩ | ⟨rfl, rfl⟩
  · exact .quiet h (run_value (x := .bool r) (by simp [eqGuard_agg hg, binOp, Op.equal, hrun])) (.d (.bool _))
  · exact .quiet h (run_value (x := .bool (!r)) (by simp [eqGuard_agg hg, binOp, Op.equal, hrun])) (.d (.bool _))

theorem op_binInt {op : BinOp} {t : TypeId} {x y : Operand} {k k' : IntKind} {p q : Int} {b : DV} (h : RelS w Z inj st a Ds) (hx : st.ev x = some (.d (.int k p))) (hy : st.ev y = some (.d (.int k' q)))
    (hc : binD op (.int k p) (.int k' q) = some b) :
    OpRes st st (.d b) w Z inj ((do pure (Next.value (← (do eqGuard op t x y (a.eval x) (a.eval y); binOp op t (a.eval x) (a.eval y) : Sem Value)) ) : Sem Next).run P w) := by
  have h1 := ev_rel h hx
  have h2 := ev_rel h hy
  generalize a.eval x = vx at h1 ⊢
  generalize a.eval y = vy at h2 ⊢
  cases h1 with | d h1 =>
  cases h1
  cases h2 with | d h2 =>
  cases h2
  have hg := eqGuard_plain (P := P) (w := w) (op := op) (t := t) (x := x) (y := y) (u := .int k p) (v := .int k' q) (by simp) (by simp)
  have key : ∃ v, (∀ t, (binOp op t (.int k p) (.int k' q)).run P w = .ok v w) ∧ RelD w Z b v := by
    unfold binD at hc
    split at hc
    · rename_i e1 e2; cases e1; cases e2; exact shiftI_run hc
    · rename_i e1 e2; cases e1; cases e2; exact shiftI_run hc
    · rename_i n1 n2 e1 e2
      cases e1; cases e2
      split at hc <;> try simp at hc
      rename_i hk; subst hk
      exact binI_run hc ⟨fun e => n1 e, fun e => n2 e⟩
    · simp at hc
  obtain ⟨v, hv, hr⟩ := key
  exact .quiet h (run_value (x := v) (by simp [hg, hv])) (.d hr)

theorem maxD : Op.maxDepth = 9999 + 1 := rfl
theorem eq_bool {t : TypeId} (h : P.underlying t = some .bool) (p q : Bool) : (Op.equal t (.bool p) (.bool q)).run P w = .ok (p == q) w := by
  rw [Op.equal, maxD, Op.equalIn]; simp only [Sem.run_bind, run_underlying h, Result.andThen_ok]; rfl
theorem eq_nilnil {t e : TypeId} (h : P.underlying t = some (.slice e)) (a : Option Addr) (n c : Nat) : (Op.equal t (.slice none 0 0) (.slice a n c)).run P w = .ok a.isNone w := by
  rw [Op.equal, maxD, Op.equalIn]; simp only [Sem.run_bind, run_underlying h, Result.andThen_ok]; rfl
theorem eq_slnil {t e : TypeId} (h : P.underlying t = some (.slice e)) (a : Addr) (n c : Nat) : (Op.equal t (.slice (some a) n c) (.slice none 0 0)).run P w = .ok false w := by
  rw [Op.equal, maxD, Op.equalIn]; simp only [Sem.run_bind, run_underlying h, Result.andThen_ok]; rfl
theorem eq_ff {t : TypeId} {x y z} (h : P.underlying t = some (.func x y z)) : (Op.equal t .nilFunc .nilFunc).run P w = .ok true w := by
  rw [Op.equal, maxD, Op.equalIn]; simp only [Sem.run_bind, run_underlying h, Result.andThen_ok]; rfl
theorem eq_fn {t : TypeId} {x y z} (h : P.underlying t = some (.func x y z)) (f g c) : (Op.equal t .nilFunc (.func f g c)).run P w = .ok false w := by
  rw [Op.equal, maxD, Op.equalIn]; simp only [Sem.run_bind, run_underlying h, Result.andThen_ok]; rfl
theorem eq_nf {t : TypeId} {x y z} (h : P.underlying t = some (.func x y z)) (f g c) : (Op.equal t (.func f g c) .nilFunc).run P w = .ok false w := by
  rw [Op.equal, maxD, Op.equalIn]; simp only [Sem.run_bind, run_underlying h, Result.andThen_ok]; rfl

theorem bin_of_eq {t : TypeId} {u v : Value} {r : Bool} (he : (Op.equal t u v).run P w = .ok r w) (h1 : ∀ k n, u ≠ .int k n) (h2 : ∀ k n, u ≠ .float k n) (h3 : ∀ k n m, u ≠ .complex k n m) (h4 : ∀ s, u ≠ .string s) :
    (binOp .eql t u v).run P w = .ok (.bool r) w ∧ (binOp .neq t u v).run P w = .ok (.bool (!r)) w := by
  cases u <;> first | (exfalso; exact h1 _ _ rfl) | (exfalso; exact h2 _ _ rfl) | (exfalso; exact h3 _ _ _ rfl) | (exfalso; exact h4 _ rfl) | (constructor <;> (simp only [binOp]; simp [he]))

theorem op_binEq {op : BinOp} {t : TypeId} {i : TI} {x y : Operand} {p q : DV} {b : DV} (h : RelS w Z inj st a Ds) (ht : tiOf P t = some i) (hx : st.ev x = some (.d p)) (hy : st.ev y = some (.d q))
    (hc : binE op i.kind p q = some b) :
    OpRes st st (.d b) w Z inj ((do pure (Next.value (← (do eqGuard op t x y (a.eval x) (a.eval y); binOp op t (a.eval x) (a.eval y) : Sem Value)) ) : Sem Next).run P w) := by
  obtain ⟨info, d, z, k⟩ := ti_ok ht
  have h1 := ev_rel h hx
  have h2 := ev_rel h hy
  generalize a.eval x = vx at h1 ⊢
  generalize a.eval y = vy at h2 ⊢
  cases h1 with | d h1 =>
  cases h2 with | d h2 =>
  have key : ∀ r, eqK i.kind p q = some r → (eqGuard op t x y vx vy).run P w = .ok () w ∧ (binOp .eql t vx vy).run P w = .ok (.bool r) w ∧ (binOp .neq t vx vy).run P w = .ok (.bool (!r)) w := by
    intro r hr
    have hk := k.kind
    unfold KindOk at hk
    unfold eqK at hr
    split at hr <;> simp at hr <;> (rename_i hkk; simp only [hkk] at hk)
    · subst hr; obtain ⟨rfl, _⟩ := hk; cases h1; cases h2
      exact ⟨eqGuard_plain (by simp) (by simp), bin_of_eq (eq_bool k.und _ _) (by simp) (by simp) (by simp) (by simp)⟩
    · subst hr; cases h1; cases h2
      exact ⟨eqGuard_plain (by simp) (by simp), by simp only [binOp, Op.stringOp]; rfl, by simp only [binOp, Op.stringOp]; rfl⟩
    · subst hr; obtain ⟨e, ie, de, ze, rfl, _⟩ := hk; cases h1; cases h2
      exact ⟨eqGuard_plain (by simp) (by simp), bin_of_eq (eq_nilnil k.und _ _ _) (by simp) (by simp) (by simp) (by simp)⟩
    · subst hr; obtain ⟨e, ie, de, ze, rfl, _⟩ := hk; cases h1; cases h2
      exact ⟨eqGuard_plain (by simp) (by simp), bin_of_eq (eq_nilnil k.und _ _ _) (by simp) (by simp) (by simp) (by simp)⟩
    · subst hr; obtain ⟨e, ie, de, ze, rfl, _⟩ := hk; cases h1; cases h2
      exact ⟨eqGuard_plain (by simp) (by simp), bin_of_eq (eq_slnil k.und _ _ _) (by simp) (by simp) (by simp) (by simp)⟩
    · subst hr; obtain ⟨⟨e, f, g, rfl⟩, _⟩ := hk; cases h1; cases h2
      exact ⟨eqGuard_plain (by simp) (by simp), bin_of_eq (eq_ff k.und) (by simp) (by simp) (by simp) (by simp)⟩
    · subst hr; obtain ⟨⟨e, f, g, rfl⟩, _⟩ := hk; cases h1; cases h2
      exact ⟨eqGuard_plain (by simp) (by simp), bin_of_eq (eq_fn k.und _ _ _) (by simp) (by simp) (by simp) (by simp)⟩
    · subst hr; obtain ⟨⟨e, f, g, rfl⟩, _⟩ := hk; cases h1; cases h2
      exact ⟨eqGuard_plain (by simp) (by simp), bin_of_eq (eq_nf k.und _ _ _) (by simp) (by simp) (by simp) (by simp)⟩
  unfold binE at hc
  split at hc
  · cases hr : eqK i.kind p q with
    | none => simp [hr] at hc
    | some r =>
      simp [hr] at hc; subst hc
      obtain ⟨g1, g2, _⟩ := key r hr
      exact .quiet h (run_value (x := .bool r) (by simp [g1, g2])) (.d (.bool _))
  · cases hr : eqK i.kind p q with
    | none => simp [hr] at hc
    | some r =>
      simp [hr] at hc; subst hc
      obtain ⟨g1, _, g2⟩ := key r hr
      exact .quiet h (run_value (x := .bool (!r)) (by simp [g1, g2])) (.d (.bool _))
  · simp at hc
end
end Go.Am
