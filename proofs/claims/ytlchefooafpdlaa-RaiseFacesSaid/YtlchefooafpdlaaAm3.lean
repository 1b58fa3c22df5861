/- THE ABSTRACT MACHINE: how its runs are shown, step by step. -/
import Derived.Test.YtlchefooafpdlaaAm2
namespace Go.Am
variable {P : Program} {T : Tab}

def CodeK (P : Program) (T : Tab) (base : Nat) (c : Code) (st : AS) (K : Ex → AS → Prop) : Prop := ∃ ex st', EvCode P T base c st ex st' ∧ K ex st'
def OpsK (P : Program) (T : Tab) (base : Nat) (ops : Array Oper) (dr : Dr) (l : List Oper) (st : AS) (K : AS → Prop) : Prop := ∃ st', EvOps P T base ops dr l st st' ∧ K st'
def thenK (N : AS → Prop) (K : Ex → AS → Prop) : Ex → AS → Prop
  | .nor, st => N st
  | .exit i, st => K (.exit i) st
  | .ret, st => K .ret st
def blockK (id : Nat) (N : AS → Prop) (K : Ex → AS → Prop) : Ex → AS → Prop
  | .nor, st => N st
  | .exit i, st => if i = id then N st else K (.exit i) st
  | .ret, st => K .ret st
def RunK (P : Program) (T : Tab) (base : Nat) : List Code → AS → (Ex → AS → Prop) → Prop
  | [], st, K => K .nor st
  | c :: cs, st, K => CodeK P T base c st (thenK (fun st' => RunK P T base cs st' K) K)

theorem CodeK.mono {base : Nat} {c : Code} {st : AS} {K K' : Ex → AS → Prop} (h : CodeK P T base c st K) (hk : ∀ ex st, K ex st → K' ex st) : CodeK P T base c st K' :=
  let ⟨ex, st', e, k⟩ := h; ⟨ex, st', e, hk _ _ k⟩
theorem thenK_of {N : AS → Prop} {K : Ex → AS → Prop} {ex : Ex} {st : AS} (hx : ex ≠ .nor) (h : thenK N K ex st) : K ex st := by
  cases ex <;> first | exact absurd rfl hx | exact h
theorem thenK_to {N : AS → Prop} {K : Ex → AS → Prop} {ex : Ex} {st : AS} (hx : ex ≠ .nor) (h : K ex st) : thenK N K ex st := by
  cases ex <;> first | exact absurd rfl hx | exact h
theorem ck_of_run {base : Nat} {c : Code} {st : AS} {K : Ex → AS → Prop} (h : RunK P T base [c] st K) : CodeK P T base c st K :=
  CodeK.mono h fun ex st h => by cases ex <;> exact h

section
variable {base : Nat} {cs : List Code} {st : AS} {K : Ex → AS → Prop}
theorem rk_nil (h : K .nor st) : RunK P T base [] st K := h
theorem rk_seq {a b : Code} (h : RunK P T base (a :: b :: cs) st K) : RunK P T base (.seq a b :: cs) st K := by
  obtain ⟨ex, st1, e1, k1⟩ := h
  cases ex with
  | nor =>
    obtain ⟨ex2, st2, e2, k2⟩ := k1
    exact ⟨ex2, st2, .seqN e1 e2, k2⟩
  | exit i => exact ⟨_, _, .seqX e1 (by simp), k1⟩
  | ret => exact ⟨_, _, .seqX e1 (by simp), k1⟩
theorem rk_skip (h : RunK P T base cs st K) : RunK P T base (.skip :: cs) st K := ⟨.nor, st, .skip, h⟩
theorem rk_ret (h : K .ret st) : RunK P T base (.ret :: cs) st K := ⟨.ret, st, .ret, h⟩
theorem rk_exit {i : Nat} (h : K (.exit i) st) : RunK P T base (.exit i :: cs) st K := ⟨.exit i, st, .exit, h⟩
theorem rk_condT {c : Operand} {a b : Code} (hc : st.ev c = some (.d (.bool true))) (h : RunK P T base (a :: cs) st K) : RunK P T base (.cond c a b :: cs) st K := by
  obtain ⟨ex, st1, e1, k1⟩ := h
  exact ⟨ex, st1, .condT hc e1, k1⟩
theorem rk_condF {c : Operand} {a b : Code} (hc : st.ev c = some (.d (.bool false))) (h : RunK P T base (b :: cs) st K) : RunK P T base (.cond c a b :: cs) st K := by
  obtain ⟨ex, st1, e1, k1⟩ := h
  exact ⟨ex, st1, .condF hc e1, k1⟩
theorem rk_cond {c : Operand} {a b : Code} {t : Bool} (hc : st.ev c = some (.d (.bool t))) (ht : t = true → RunK P T base (a :: cs) st K) (hf : t = false → RunK P T base (b :: cs) st K) :
    RunK P T base (.cond c a b :: cs) st K := by
  cases t with
  | true => exact rk_condT hc (ht rfl)
  | false => exact rk_condF hc (hf rfl)
theorem rk_block {id : Nat} {a : Code} (h : RunK P T base [a] st (blockK id (fun st' => RunK P T base cs st' K) K)) : RunK P T base (.block id a :: cs) st K := by
  obtain ⟨ex, st1, e1, k1⟩ := ck_of_run h
  refine ⟨ex.block id, st1, .block e1, ?_⟩
  cases ex with
  | nor => exact k1
  | ret => exact k1
  | exit i =>
    simp only [blockK] at k1
    by_cases hi : i = id
    · simp only [Ex.block, hi, if_true] at k1 ⊢; exact k1
    · simp only [Ex.block, hi, if_false] at k1 ⊢; exact k1
theorem rk_region {id : Nat} {ops : Array Oper} (h : OpsK P T base ops none ops.toList st (fun st' => RunK P T base cs st' K)) : RunK P T base (.region id ops false :: cs) st K := by
  obtain ⟨st1, e1, k1⟩ := h
  exact ⟨.nor, st1, .region e1, k1⟩
theorem rk_regionD {id : Nat} {ops : Array Oper} (F : List Fp) (hc : drawOk F ops = true) (h : OpsK P T base ops (some F) ops.toList st (fun st' => RunK P T base cs st' K)) : RunK P T base (.region id ops true :: cs) st K := by
  obtain ⟨st1, e1, k1⟩ := h
  exact ⟨.nor, st1, .regionD e1 hc, k1⟩
def WkE (base : Nat) (st st' : AS) : Prop := ∃ ρ fz ph, Wk base ρ fz ph st st'
theorem rk_wk {st' : AS} (hw : WkE base st st') (h : RunK P T base cs st' K) (hne : cs ≠ []) : RunK P T base cs st K := by
  cases cs with
  | nil => exact absurd rfl hne
  | cons c cs =>
    obtain ⟨ρ, fz, ph, w⟩ := hw
    obtain ⟨ex, st1, e1, k1⟩ := h
    exact ⟨ex, st1, .wk w e1, k1⟩
/-- A loop: S a is the state at a round's head, C what holds there, μ goes down. -/
theorem rk_loop {α : Type} (S : α → AS) (C : α → Prop) (μ : α → Nat) (a0 : α) {body : Code} (h0 : WkE base st (S a0)) (c0 : C a0)
    (round : ∀ a, C a → RunK P T base [body] (S a) (fun ex st' => match ex with
      | .nor => ∃ a', C a' ∧ μ a' < μ a ∧ WkE base st' (S a')
      | ex => K ex st')) : RunK P T base (.loop body :: cs) st K := by
  have key : ∀ n a, μ a = n → C a → ∃ ex st', EvCode P T base (.loop body) (S a) ex st' ∧ ex ≠ .nor ∧ K ex st' := by
    intro n
    induction n using Nat.strongRecOn with
    | _ n ih =>
      intro a hn hc
      obtain ⟨ex, st1, e1, k1⟩ := ck_of_run (round a hc)
      cases ex with
      | nor =>
        obtain ⟨a', hc', hlt, ρ, fz, ph, w⟩ := k1
        obtain ⟨ex2, st2, e2, hx, k2⟩ := ih (μ a') (hn ▸ hlt) a' rfl hc'
        exact ⟨ex2, st2, .loopN e1 (.wk w e2), hx, k2⟩
      | exit i => exact ⟨_, _, .loopX e1 (by simp), by simp, k1⟩
      | ret => exact ⟨_, _, .loopX e1 (by simp), by simp, k1⟩
  obtain ⟨ρ, fz, ph, w⟩ := h0
  obtain ⟨ex, st2, e2, hx, k2⟩ := key _ a0 rfl c0
  exact ⟨ex, st2, .wk w e2, thenK_to hx k2⟩
end

section
variable {base : Nat} {ops : Array Oper} {dr : Dr} {l : List Oper} {st : AS} {K : AS → Prop}
theorem ok_nil (h : K st) : OpsK P T base ops dr [] st K := ⟨st, .nil, h⟩
theorem ok_op {o : Oper} {v : V} {st1 : AS} (hg : guardOk ops st o = some true) (ho : opFn T st o.op = some (v, st1)) (h : OpsK P T base ops dr l (st1.putD o.dst v) K) (hf : okO dr l.length st o.op st1 = true) : OpsK P T base ops dr (o :: l) st K := by
  obtain ⟨st2, e2, k⟩ := h
  exact ⟨st2, .op hg ho hf e2, k⟩
theorem ok_opF {o : Oper} {st1 : AS} {n es : Nat} {xs : List (List DV)} {hp2 : List (Nat × Blk)} (hg : guardOk ops st o = some true) (ho : opFn T st o.op = some (.hs n es 0 xs.length, st1)) (ht : touch o.op = 2) (hn : n = st.nx ∧ st1.nx = n + 1) (hh : st1.hp = (n, .dat es xs) :: hp2) (hf : find hp2 n = none)
    (h : OpsK P T base ops dr l (({ sl := st1.sl, hp := hp2, nx := st1.nx } : AS).putD o.dst (.d (.sl es xs))) K) (hF : okF dr l.length (fp st o.op) = true) : OpsK P T base ops dr (o :: l) st K := by
  obtain ⟨st2, e2, k⟩ := h
  exact ⟨st2, .opF hg ho ht hn hh hf hF e2, k⟩
theorem ok_skip {o : Oper} (hg : guardOk ops st o = some false) (h : OpsK P T base ops dr l (st.putD o.dst (.d (.tup []))) K) : OpsK P T base ops dr (o :: l) st K := by
  obtain ⟨st2, e2, k⟩ := h
  exact ⟨st2, .skip hg e2, k⟩
theorem ok_callP {o : Oper} {c : Call} {f : FuncId} {vs : List V} {ds : List DV} {r : DV} (hg : guardOk ops st o = some true) (ho : o.op = .call c) (hc : callee st c = some (f, vs)) (hd : allFrozen st.hp vs = some ds)
    (hs : (vs.all V.isD = true ∨ r.scalar = true)) (hp : Pure P T f ds r) (h : OpsK P T base ops dr l (st.putD o.dst (.d r)) K) (hF : okF dr l.length (fpC vs) = true) : OpsK P T base ops dr (o :: l) st K := by
  obtain ⟨v, hp', nx, r', e1, hr, hle⟩ := hp
  obtain ⟨st2, e2, k⟩ := h
  exact ⟨st2, .callP hg ho hc hd e1 hr hle hs hF e2, k⟩
theorem ok_callS {o : Oper} {c : Call} {f : FuncId} {vs : List V} {v : V} {hp : List (Nat × Blk)} {nx : Nat} (hg : guardOk ops st o = some true) (ho : o.op = .call c) (hc : callee st c = some (f, vs))
    (he : EvCall P T f vs st.hp st.nx v hp nx) (h : OpsK P T base ops none l ({ sl := st.sl, hp := hp, nx := nx : AS }.putD o.dst v) K) : OpsK P T base ops none (o :: l) st K := by
  obtain ⟨st2, e2, k⟩ := h
  exact ⟨st2, .callS hg ho hc he e2, k⟩
theorem ok_wk {st' : AS} (hw : WkE base st st') (h : OpsK P T base ops none l st' K) : OpsK P T base ops none l st K := by
  obtain ⟨ρ, fz, ph, w⟩ := hw
  obtain ⟨st2, e2, k⟩ := h
  exact ⟨st2, .wk w e2, k⟩
end

theorem argSlots_get : ∀ (l : List V) (k t : Nat), find (argSlots k l) t = if k ≤ t then l[t - k]? else none
  | [], k, t => by simp [argSlots, find]
  | v :: r, k, t => by
    simp only [argSlots, find]
    by_cases h : k = t
    · subst h; simp
    · have hb : Nat.beq k t = false := by
        cases hb : Nat.beq k t with
        | true => exact absurd (Nat.eq_of_beq_eq_true hb) h
        | false => rfl
      rw [hb]
      simp only
      rw [argSlots_get r (k + 1) t]
      by_cases h2 : k ≤ t
      · rw [if_pos h2, if_pos (by omega), show t - k = (t - (k + 1)) + 1 by omega, List.getElem?_cons_succ]
      · rw [if_neg h2, if_neg (by omega)]
/-- A pure contract out of the body. -/
theorem pure_of_run {f : FuncId} {fn : Func} {c : Code} {ds : List DV} {r : DV} (hf : P.funcs[f]? = some fn) (hb : fn.body = some c) (hname : (fn.name == "runtime.NumGoroutine") = false) (hok : codeOk fn.ntmps c = true) (hl : Nat.ble ds.length fn.ntmps = true)
    (h : RunK P T 0 [c] { sl := argSlots 0 (ds.map .d), hp := [], nx := 0 } (fun ex st => (ex = .nor ∨ ex = .ret) ∧ ∃ v r', resV T st fn.results.toList = some v ∧ toD st.hp 8 v = some r' ∧ DLe r' r)) : Pure P T f ds r := by
  obtain ⟨ex, st', e, hx, v, r', hv, hr, hle⟩ := ck_of_run h
  exact ⟨v, st'.hp, st'.nx, r', .mk hf hb hname hok (by simpa using hl) e hx hv, hr, hle⟩

/-! ### Forgetting, shown slot by slot -/
def WkL (st : AS) (ρ : Nat → Nat) (fz ph : List Nat) (nx : Nat) : List (Nat × V) → Prop
  | [] => True
  | (t, v') :: r => (∃ v, st.get t = some v ∧ Wv st ρ fz ph nx v v') ∧ WkL st ρ fz ph nx r
def WkH (st : AS) (ρ : Nat → Nat) (fz ph : List Nat) (nx : Nat) : List (Nat × Blk) → Prop
  | [] => True
  | (n, b') :: r => (n < nx ∧ ((n ∈ ph ∧ ∃ es, es ≠ 0 ∧ b' = .dat es []) ∨ (n ∉ ph ∧ ∃ b, st.blk (ρ n) = some b ∧ Wb st ρ fz ph nx b b'))) ∧ WkH st ρ fz ph nx r
theorem find_mem {α : Type} {l : List (Nat × α)} {t : Nat} {v : α} (h : find l t = some v) : (t, v) ∈ l := by
  induction l with
  | nil => simp [find] at h
  | cons x r ih =>
    obtain ⟨k, y⟩ := x
    simp only [find] at h
    cases hk : Nat.beq k t with
    | true => rw [hk] at h; simp at h; subst h; rw [Nat.eq_of_beq_eq_true hk]; exact List.mem_cons_self
    | false => rw [hk] at h; exact List.mem_cons_of_mem _ (ih h)
theorem WkL.get {st : AS} {ρ : Nat → Nat} {fz ph : List Nat} {nx : Nat} {l : List (Nat × V)} (h : WkL st ρ fz ph nx l) {t : Nat} {v' : V} (hm : (t, v') ∈ l) : ∃ v, st.get t = some v ∧ Wv st ρ fz ph nx v v' := by
  induction l with
  | nil => cases hm
  | cons x r ih =>
    obtain ⟨k, y⟩ := x
    cases hm with
    | head => exact h.1
    | tail _ hm => exact ih h.2 hm
theorem WkH.get {st : AS} {ρ : Nat → Nat} {fz ph : List Nat} {nx : Nat} {l : List (Nat × Blk)} (h : WkH st ρ fz ph nx l) {n : Nat} {b' : Blk} (hm : (n, b') ∈ l) :
    n < nx ∧ ((n ∈ ph ∧ ∃ es, es ≠ 0 ∧ b' = .dat es []) ∨ (n ∉ ph ∧ ∃ b, st.blk (ρ n) = some b ∧ Wb st ρ fz ph nx b b')) := by
  induction l with
  | nil => cases hm
  | cons x r ih =>
    obtain ⟨k, y⟩ := x
    cases hm with
    | head => exact h.1
    | tail _ hm => exact ih h.2 hm
/-- New names for old: a list. -/
def rho (l : List (Nat × Nat)) (n : Nat) : Nat := match find l n with
  | some m => m
  | none => n
def memN (l : List Nat) (n : Nat) : Bool := match l with
  | [] => false
  | k :: r => Nat.beq k n || memN r n
theorem memN_iff {l : List Nat} {n : Nat} : memN l n = true ↔ n ∈ l := by
  induction l with
  | nil => simp [memN]
  | cons k r ih =>
    simp only [memN, Bool.or_eq_true, ih, List.mem_cons]
    constructor
    · rintro (h | h)
      · exact .inl (Nat.eq_of_beq_eq_true h).symm
      · exact .inr h
    · rintro (h | h)
      · exact .inl (by rw [h]; exact Nat.beq_refl k)
      · exact .inr h
def wkOk (base : Nat) (l : List (Nat × Nat)) (fz ph : List Nat) (hp : List (Nat × Blk)) (nx : Nat) : Bool :=
  Nat.ble base nx && l.all (fun x => Nat.ble base x.1) && fz.all (fun n => Nat.ble base n) && ph.all (fun n => Nat.ble base n) &&
  hp.all (fun x => memN ph x.1 || (!memN fz (rho l x.1) && hp.all fun y => memN ph y.1 || !(Nat.beq (rho l x.1) (rho l y.1)) || Nat.beq x.1 y.1))
theorem wkE {base : Nat} {st st' : AS} (l : List (Nat × Nat)) (fz ph : List Nat) (hok : wkOk base l fz ph st'.hp st'.nx = true) (hs : WkL st (rho l) fz ph st'.nx st'.sl) (hh : WkH st (rho l) fz ph st'.nx st'.hp) : WkE base st st' := by
  simp only [wkOk, Bool.and_eq_true, Nat.ble_eq, List.all_eq_true] at hok
  obtain ⟨⟨⟨⟨h1, h2⟩, h3⟩, h5⟩, h4⟩ := hok
  refine ⟨rho l, fz, ph, ?_, ?_, ?_, ?_, ?_, h1, ?_, ?_⟩
  · exact fun t v' h => hs.get (find_mem h)
  · exact fun n b' h => hh.get (find_mem h)
  · intro n m b c hn hm hpn hpm he
    have := h4 _ (find_mem hn)
    simp only [Bool.or_eq_true, Bool.and_eq_true, memN_iff, List.all_eq_true, Bool.not_eq_true'] at this
    rcases this with h | h
    · exact absurd h hpn
    · have := h.2 _ (find_mem hm)
      rcases this with (h' | h') | h'
      · exact absurd h' hpm
      · rw [he] at h'; simp at h'
      · exact Nat.eq_of_beq_eq_true h'
  · intro n b hn hpn hc
    have := h4 _ (find_mem hn)
    simp only [Bool.or_eq_true, Bool.and_eq_true, memN_iff, Bool.not_eq_true'] at this
    rcases this with h | h
    · exact absurd h hpn
    · rw [memN_iff.2 hc] at h; exact absurd h.1 (by simp)
  · intro n hn
    unfold rho
    split
    · rename_i m hm
      have := h2 _ (find_mem hm)
      simp at this; omega
    · rfl
  · exact fun n hn => h3 n hn
  · exact fun n hn => h5 n hn
end Go.Am
