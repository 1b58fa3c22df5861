/- EVERY RUN OF THE ABSTRACT MACHINE IS ONE OF THE MODEL's (2): ranges over functions, calls, and all of it. -/
import Derived.Test.YtlchefooafpdlaaAm26
namespace Go.Am
open Go
variable {P : Program} {T : Tab}
section
variable {base : Nat} {st st1 st2 : AS} {ex : Ex}

theorem callGood_in {ro : Option Nat} {f : FuncId} {xs : Array Value} {w : World} {R : Ending → World → Prop} (h : CallsIn (Fw none) 0 P f xs w R) : CallsIn (Fw ro) 0 P f xs w R := by
  cases ro <;> exact h

theorem nodup_cons_new {w : World} {Ds : List Nat} (h : Ds.Nodup) (hm : ∀ D ∈ Ds, w.heap[D]? = some (.deferred (some []))) : (w.heap.size :: Ds).Nodup :=
  List.nodup_cons.2 ⟨fun hc => by have := some_lt (hm _ hc); omega, h⟩

theorem cg_rangeF {g : Operand} {ps : Array Tmp} {assign body : Code} {f : FuncId} {caps : List V} {v : V} {hp : List (Nat × Blk)} {nx : Nat} {pe : Option Code} {s : List (Nat × V)} {ls : LoopState}
    (hg : st.ev g = some (.fn f caps) ∨ ∃ ds, st.ev g = some (.d (.fn f ds)) ∧ caps = ds.map .d)
    (hgood : CallGood P f (.yld st.nx :: caps) ((st.nx, .loop st.sl ps.toList assign body .ready none) :: st.hp) (st.nx + 1) v hp nx)
    (hfind : find hp st.nx = some (.loop s ps.toList assign body ls pe)) (hls : ls ≠ .busy) (hpe : pe = ex.code) : CodeGood P base (.rangeFunc g ps assign body) st ex { sl := st.sl, hp := repl hp st.nx .dead, nx := nx } := by
  refine cg_of (by simp) fun ro w Z inj a Ds h hok hb hro => wpIn_rangeFunc fun fn _ => ?_
  simp only [codeOk, Bool.and_eq_true, List.all_eq_true, Nat.blt_eq] at hok
  -- the function's value
  have hval : ∃ cs : Array Value, a.eval g = .func (.func f) #[] cs ∧ LRel w Z inj st.nx caps cs := by
    rcases hg with hg | ⟨ds, hg, rfl⟩
    · have hr := ev_rel h hg
      generalize a.eval g = gv at hr ⊢
      cases hr with | @fn _ _ cs h1 h2 =>
      exact ⟨cs, rfl, h1, h2⟩
    · have hr := ev_rel h hg
      generalize a.eval g = gv at hr ⊢
      cases hr with | d hr =>
      cases hr with | @fn _ _ cs h1 h2 =>
      refine ⟨cs, rfl, by simpa using h1, fun i d c hd hc => ?_⟩
      simp only [List.getElem?_map, Option.map_eq_some_iff] at hd
      obtain ⟨d', hd, rfl⟩ := hd
      exact .d (h2 i d' c hd hc)
  obtain ⟨cs, hge, hcs⟩ := hval
  -- the record is laid; what follows is alike whether the loop is an outermost one or not
  have rest : ∀ (w1 : World) (l : Nat) (mark : List Deferred) (r : Loop) (Dn : List Nat), (Instr.enterLoop fn a.tmps ps assign body (Fw ro).round).run P w = .ok (l, mark) w1 →
      w1.heap[l]? = some (.loop r) → r.state = .ready → r.pending = none →
      RelH w1 Z (upd inj st.nx (some (l, 0))) ((st.nx, .loop st.sl ps.toList assign body .ready none) :: st.hp) (st.nx + 1) →
      Ext w Z inj st.hp w1 Z (upd inj st.nx (some (l, 0))) ((st.nx, .loop st.sl ps.toList assign body .ready none) :: st.hp) st.nx →
      mark = Dn.map (fun D => { target := .collected D, args := #[] }) → (Dn ++ Ds).Nodup → (∀ D ∈ Dn, w1.heap[D]? = some (.deferred (some [])) ∧ w.heap.size ≤ D) →
      ∃ (l : Nat) (mark : List Deferred) (w₁ : World) (d : Deferred) (w₁' : World) (f : FuncId) (args : Array Value) (w₂ : World),
      (Instr.enterLoop fn a.tmps ps assign body (Fw ro).round).run P w = .ok (l, mark) w₁ ∧
      (resolve a.eval (rangeCall g l) 0).run P w₁ = .ok d w₁' ∧
      (∀ f', Target.leads P w₁' d.target d.args = some f' → (Fw ro).fn f') ∧
      (invoke d.target d.args).run P w₁' = .ok (.enter f args) w₂ ∧
      ((Fw ro).depth.isSome = true → 1 ≤ 0) ∧
      CallsIn (Fw ro) (0 - 1) P f args w₂ (rangePost (Fw ro) 0 P l (CP base w Z inj st a Ds ex { sl := st.sl, hp := repl hp st.nx .dead, nx := nx }) { a with defers := mark ++ a.defers }) := by
    intro w1 l mark r Dn henter hl1 hst hpen hH1 hE1 hmark hnd hDn
    refine ⟨l, mark, w1, { target := .fn (.func f) cs, args := #[.func (.yield l) #[] #[]] }, w1, f, #[.func (.yield l) #[] #[]] ++ cs, w1, henter, ?_, fun _ _ => trivial, ?_, fun h => by simp [Fw] at h, ?_⟩
    · simp only [resolve, hge]; simp [Deferred.ofValue, Act.eval]
    · simp [invoke, hgood.1]
    · refine callGood_in (CallsIn.mono (hgood.2 w1 Z _ _ hH1 ?_) ?_)
      · refine ⟨by simp [hcs.1]; omega, fun i d c hd hc => ?_⟩
        cases i with
        | zero =>
          rw [Array.getElem?_append_left (by simp)] at hc
          simp at hd hc; subst hd hc
          exact .yld (by omega) (upd_same _ _ _)
        | succ i =>
          rw [Array.getElem?_append_right (by simp)] at hc
          simp at hd hc
          exact (hcs.2 i d c hd hc).mono (fun b hz => hE1.keep b (h.heap.zs b hz) (h.heap.z_im hz)) (fun _ h => h) hE1.big (fun m hm => hE1.pinj m hm) (by omega)
      · rintro e w3 ⟨x, Z', inj', rfl, hh3, he3, hv3, hn3⟩
        obtain ⟨b3, r3, i3, w3h, es3, ep3, hdead⟩ := relH_loopDead (pin := st.nx) hh3 hfind
        obtain ⟨hh4, he4⟩ := hdead { r3 with state := .exhausted } rfl
        have hlb : b3 = l := by
          have := he3.pinj st.nx (by omega)
          rw [upd_same, i3] at this
          cases this; rfl
        subst hlb
        refine ⟨r3.pending, _, run_endLoop w3h (by rw [es3]; exact hls), ?_⟩
        have hE : Ext w Z inj st.hp (w3.putObj b3 (.loop { r3 with state := .exhausted })) Z' inj' (repl hp st.nx .dead) st.nx := (hE1.trans he3 (by omega)).trans he4 (Nat.le_refl _)
        have hfin : PostAt base w Z inj st a Ds { sl := st.sl, hp := repl hp st.nx .dead, nx := nx } { a with defers := mark ++ a.defers } (w3.putObj b3 (.loop { r3 with state := .exhausted })) := by
          refine ⟨Z', inj', Dn ++ Ds, ⟨?_, hh4, ?_, hnd, ?_⟩, hE.pin_le hb, rfl, by show base ≤ nx; omega, ?_⟩
          · exact h.slots.mono (hE.zkeep h.heap) hE.zin hE.big hE.pinj (by show st.nx ≤ nx; omega)
          · simp [hmark, h.defs]
          · intro D hD
            rcases List.mem_append.1 hD with hD | hD
            · obtain ⟨h5, h6⟩ := hDn D hD
              have h7 := he3.marks hH1 h5
              rw [World.putObj_heap_other (fun e => by rw [e] at h7; rw [w3h] at h7; cases h7)]
              exact h7
            · exact hE.marks h.heap (h.marks D hD)
          · intro D hD
            rcases List.mem_append.1 hD with hD | hD
            · exact .inr (hDn D hD).2
            · exact .inl hD
        rw [ep3, hpe] at hfin
        rw [ep3, hpe]
        cases ex with
        | nor => exact ⟨rfl, hfin⟩
        | exit id => exact wpIn_exit ⟨rfl, hfin⟩
        | ret => exact wpIn_ret ⟨rfl, hfin⟩
  have relb : ∀ (w1 : World) (l : Nat) (r : Loop), r.state = .ready → r.pending = none → r.tmps = a.tmps → r.params = ps → r.assign = assign → r.body = body → RelSlots w1 Z (upd inj st.nx (some (l, 0))) (st.nx + 1) st.sl a.tmps →
      w1.heap[l]? = some (.loop r) → RelB w1 Z (upd inj st.nx (some (l, 0))) (st.nx + 1) st.nx (.loop st.sl ps.toList assign body .ready none) := by
    rintro w1 l r e1 e2 e3 e4 e5 e6 hs hl
    obtain ⟨f1, f2, f3, f4, f5, f6, f7, f8⟩ := r
    simp only at e1 e2 e3 e4 e5 e6
    subst e1 e2 e3 e4 e5 e6
    exact ⟨l, _, _, _, upd_same _ _ _, hl, ⟨hok.1.2, hok.2, fun p hp => hok.1.1 p hp⟩, hs⟩
  cases ro with
  | none =>
    -- an outermost loop: the block of the deferred calls, and its mark
    have hW0 : RelH (w.alloc (.deferred (some []))) Z inj st.hp st.nx := h.heap.grow fun b hb => alloc_old w _ hb
    have hsl : ∀ o, RelSlots ((w.alloc (.deferred (some []))).alloc o) Z (upd inj st.nx (some (w.heap.size + 1, 0))) (st.nx + 1) st.sl a.tmps := fun o =>
      h.slots.mono (fun b hz => by have := h.heap.zs b hz; rw [alloc_old _ _ (by simp; omega), alloc_old _ _ this]) (fun _ h => h)
        (fun b c e f hb => by obtain ⟨c1, e1, f1, h1, s1⟩ := keepBig_alloc w (.deferred (some [])) b c e f hb; obtain ⟨c2, e2, f2, h2, s2⟩ := keepBig_alloc _ o b c1 e1 f1 h1; exact ⟨c2, e2, f2, h2, s2.trans s1⟩) (fun _ hm => upd_lt _ _ hm) (by omega)
    have hnew := alloc_new (w.alloc (.deferred (some []))) (.loop { state := .ready, pending := none, fn, tmps := a.tmps, params := ps, assign, body, defers := w.heap.size })
    rw [World.size_alloc] at hnew
    have hB := relb _ (w.heap.size + 1) { state := .ready, pending := none, fn, tmps := a.tmps, params := ps, assign, body, defers := w.heap.size } rfl rfl rfl rfl rfl rfl (hsl _) hnew
    have hn := hW0.new (.loop { state := .ready, pending := none, fn, tmps := a.tmps, params := ps, assign, body, defers := w.heap.size }) (.loop st.sl ps.toList assign body .ready none) 0 (by rw [World.size_alloc]; exact hB)
    have he := Ext.new hW0 (.loop { state := .ready, pending := none, fn, tmps := a.tmps, params := ps, assign, body, defers := w.heap.size }) (.loop st.sl ps.toList assign body .ready none) 0
    rw [World.size_alloc] at hn he
    refine rest _ (w.heap.size + 1) _ _ [w.heap.size] (run_enterLoop_outer fn a.tmps ps assign body) hnew rfl rfl hn ((Ext.alloc _).trans he (Nat.le_refl _)) rfl (nodup_cons_new h.nodup h.marks) ?_
    intro D hD
    simp at hD; subst hD
    exact ⟨by rw [alloc_old _ _ (by simp)]; exact alloc_new _ _, Nat.le_refl _⟩
  | some l0 =>
    obtain ⟨r0, hr0⟩ := hro l0 rfl
    have hsl : ∀ o, RelSlots (w.alloc o) Z (upd inj st.nx (some (w.heap.size, 0))) (st.nx + 1) st.sl a.tmps := fun o =>
      h.slots.mono (fun b hz => alloc_old _ _ (h.heap.zs b hz)) (fun _ h => h) (keepBig_alloc w o) (fun _ hm => upd_lt _ _ hm) (by omega)
    have hnew := alloc_new w (.loop { state := .ready, pending := none, fn, tmps := a.tmps, params := ps, assign, body, defers := r0.defers })
    have hB := relb _ w.heap.size { state := .ready, pending := none, fn, tmps := a.tmps, params := ps, assign, body, defers := r0.defers } rfl rfl rfl rfl rfl rfl (hsl _) hnew
    exact rest _ w.heap.size _ _ [] (run_enterLoop_inner hr0 fn a.tmps ps assign body) hnew rfl rfl (h.heap.new _ _ 0 hB) (Ext.new h.heap _ _ 0) rfl (by simpa using h.nodup) (by simp)

theorem call_good {f : FuncId} {fn : Func} {c : Code} {vs : List V} {hp : List (Nat × Blk)} {nx : Nat} {v : V} (hT : TabOk P T) (hf : P.funcs[f]? = some fn) (hb : fn.body = some c) (hname : (fn.name == "runtime.NumGoroutine") = false) (hok : codeOk fn.ntmps c = true) (hvs : vs.length ≤ fn.ntmps)
    (hc : CodeGood P nx c { sl := argSlots 0 vs, hp := hp, nx := nx } ex st) (hx : ex = .nor ∨ ex = .ret) (hres : resV T st fn.results.toList = some v) : CallGood P f vs hp nx v st.hp st.nx := by
  refine ⟨fun args w => ?_, fun w Z inj xs h hl => ?_⟩
  · unfold callFunc
    have hn' : ¬ fn.name = "runtime.NumGoroutine" := by simpa using hname
    simp [hf, hn', hb]
  · refine callsIn_of_wp_marks hf hb trivial ?_
    have hsz : (xs ++ Array.replicate (fn.ntmps - xs.size) undef).size = fn.ntmps := by
      have := hl.1
      simp; omega
    have h0 : RelS w Z inj { sl := argSlots 0 vs, hp := hp, nx := nx } { tmps := xs ++ Array.replicate (fn.ntmps - xs.size) undef, defers := [] } [] := ⟨relSlots_args _ hl, h, rfl, by simp, by simp⟩
    refine wpIn_mono (hc none w Z inj _ [] h0 (by show codeOk (xs ++ Array.replicate (fn.ntmps - xs.size) undef).size c = true; rw [hsz]; exact hok) (Nat.le_refl _) (fun l hl => by cases hl)).1 ?_
    rintro e a' w' ⟨rfl, Z', inj', Ds', g1, g2, g3, g4, g5⟩
    have hL := leaves_marks (P := P) (fn := fn) (pin := nx) (w0 := w) (Z0 := Z) (inj0 := inj) (hp0 := hp) hT hres
      (R := fun e w' => ∃ x Z' inj', e = .returned x ∧ RelH w' Z' inj' st.hp st.nx ∧ Ext w Z inj hp w' Z' inj' st.hp nx ∧ RelV w' Z' inj' st.nx v x ∧ nx ≤ st.nx)
      (fun x w' Z' inj' k1 k2 k3 => ⟨x, Z', inj', rfl, k1, k2, k3, g4⟩) Ds' w' Z' inj' a' g1.slots g1.heap g2 g1.nodup (fun D hD => ⟨g1.marks D hD, (g5 D hD).resolve_left (by simp)⟩)
    rcases hx with rfl | rfl
    · show LeavesInM (Fw none) 0 P fn a'.tmps _ a'.defers .returning w'
      rw [g1.defs]; exact hL
    · show LeavesInM (Fw none) 0 P fn a'.tmps _ a'.defers .returning w'
      rw [g1.defs]; exact hL
end

/-- What is known of a call's end may be forgotten. -/
theorem callGood_wk {f : FuncId} {vs : List V} {hp hp' hp1 : List (Nat × Blk)} {nx nx' nx1 : Nat} {v v1 : V} {ρ : Nat → Nat} {fz ph : List Nat} (h : CallGood P f vs hp nx v hp' nx') (hw : Wk nx ρ fz ph { sl := [(0, v)], hp := hp', nx := nx' } { sl := [(0, v1)], hp := hp1, nx := nx1 }) : CallGood P f vs hp nx v1 hp1 nx1 := by
  refine ⟨h.1, fun w Z inj xs hh hl => (h.2 w Z inj xs hh hl).mono ?_⟩
  rintro e w' ⟨x, Z', inj', rfl, hh', he, hv, hn⟩
  have hrel : RelS w' Z' inj' { sl := [(0, v)], hp := hp', nx := nx' } { tmps := #[x], defers := [] } [] := by
    refine ⟨fun t u ht => ?_, hh', rfl, List.nodup_nil, by simp⟩
    rw [find_cons] at ht
    split at ht
    · rename_i e; subst e; cases ht; exact ⟨x, rfl, hv⟩
    · simp [find] at ht
  obtain ⟨hr3, he3⟩ := wk_sound hrel hw
  obtain ⟨y, hy, hr⟩ := hr3.slots 0 v1 (by simp [find])
  simp at hy; subst hy
  exact ⟨x, _, _, rfl, hr3.heap, he.trans he3 (Nat.le_refl _), hr, hw.bs⟩
/-- **EVERY RUN OF THE ABSTRACT MACHINE IS ONE OF THE MODEL's.** -/
theorem call_sound (hT : TabOk P T) (hm : P.follows .mixedOrders = true) {f : FuncId} {vs : List V} {hp : List (Nat × Blk)} {nx : Nat} {v : V} {hp' : List (Nat × Blk)} {nx' : Nat} (h : EvCall P T f vs hp nx v hp' nx') : CallGood P f vs hp nx v hp' nx' := by
  refine EvCall.rec (motive_1 := fun base c st ex st' _ => CodeGood P base c st ex st') (motive_2 := fun base ops dr l st st' _ => ChainD P base ops dr l st st') (motive_3 := fun f vs hp nx v hp' nx' _ => CallGood P f vs hp nx v hp' nx')
    ?_ ?_ ?_ ?_ ?_ ?_ ?_ ?_ ?_ ?_ ?_ ?_ ?_ ?_ ?_ ?_ ?_ ?_ ?_ ?_ ?_ ?_ ?_ ?_ ?_ h
  · exact cg_skip
  · exact fun _ _ h1 h2 => cg_seqN h1 h2
  · exact fun _ hx h1 => cg_seqX h1 hx
  · exact fun hc _ h1 => cg_condT hc h1
  · exact fun hc _ h1 => cg_condF hc h1
  · exact fun _ h1 => cg_block h1
  · exact cg_exit
  · exact cg_ret
  · exact fun _ _ h1 h2 => cg_loopN h1 h2
  · exact fun _ hx h1 => cg_loopX h1 hx
  · exact fun _ h1 => cg_region h1
  · exact fun _ hd h1 => cg_regionD hm h1 hd
  · exact fun hw _ h1 => cg_wk hw h1
  · exact fun hg _ hf hls hpe h1 => cg_rangeF hg h1 hf hls hpe
  · exact fun {_ _ dr _} => by cases dr <;> exact .nil
  · exact fun hg _ h1 => cd_skip hg h1
  · exact fun hg ho hf _ h1 => cd_op hT hg ho hf h1
  · exact fun hg ho _ hn hh hf hF _ h1 => cd_opF hT hg ho hn hh hf hF h1
  · exact fun hg ho hc hfz _ hto hle hs hF _ h1 h2 => cd_callP hg ho hc hfz h1 hto hle hs hF h2
  · exact fun hg ho hc _ _ h1 h2 => Chain.cons (step_callS hg ho hc h1) h2
  · exact fun hg ho hc hlen hw1 _ hw3 hb _ h1 h2 => Chain.cons (good_callF hg ho hc hlen hw1 h1 hw3 hb) h2
  · exact fun hg ho hcal hev hvs hblk hlen _ hb1 _ hb2 _ h1 h2 h3 => Chain.cons (good_yield hg ho hcal hev hvs hblk hlen h1 hb1 h2 hb2) h3
  · exact fun hw _ h1 => Chain.wk hw h1
  · exact fun hf hb hname hok hvs _ hx hres h1 => call_good hT hf hb hname hok hvs h1 hx hres
  · exact fun _ hw h1 => callGood_wk h1 hw
end Go.Am
