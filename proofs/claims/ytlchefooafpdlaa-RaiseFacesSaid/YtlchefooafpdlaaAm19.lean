/- RESULTS, AND THE WAY OUT OF A FUNCTION. -/
import Derived.Test.YtlchefooafpdlaaAm18
import Derived.RangeFuncRecord
import Derived.RangeFuncNested
namespace Go.Am
open Go
variable {P : Program} {T : Tab}
section
variable {w : World} {Z : Nat → Prop} {inj : Inj} {st : AS} {a : Act} {Ds : List Nat}

theorem resOne_run {r : ResultVar} {v : V} (hT : TabOk P T) (h : RelH w Z inj st.hp st.nx) (hs : RelSlots w Z inj st.nx st.sl a.tmps) (hr : resOne T st r = some v) :
    ∃ x, (match r with | .tmp t => pure (a.tmps.getD t undef) | .cell p t => (do loadVar t (← asAddr (a.tmps.getD p undef)) : Sem Value) : Sem Value).run P w = .ok x w ∧ RelV w Z inj st.nx v x := by
  cases r with
  | tmp t =>
    obtain ⟨x, hx, hrel⟩ := hs t v hr
    exact ⟨x, by simp [Array.getD_eq_getD_getElem?, hx], hrel⟩
  | cell p t =>
    simp only [resOne] at hr
    split at hr <;> try simp at hr
    rename_i pv i hp ht
    obtain ⟨x, hx, hrel⟩ := hs p pv hp
    obtain ⟨b, o, y, e, hrun, hy⟩ := loadP_run (P := P) h (hT _ _ ht) hrel hr
    refine ⟨y, ?_, hy⟩
    rw [e] at hx hrun
    simp [Instr.loadAt, Instr.sureAddr] at hrun
    simp [Array.getD_eq_getD_getElem?, hx, asAddr, hrun]

theorem resL_run (hT : TabOk P T) (h : RelH w Z inj st.hp st.nx) (hs : RelSlots w Z inj st.nx st.sl a.tmps) (g : ResultVar → Sem Value) (hg1 : ∀ t, g (.tmp t) = pure (a.tmps.getD t undef))
    (hg2 : ∀ p t, g (.cell p t) = (do loadVar t (← asAddr (a.tmps.getD p undef)))) : ∀ {l : List ResultVar} {vs : List V}, resL T st l = some vs →
    ∃ xs : List Value, (l.mapM g).run P w = .ok xs w ∧ LRel w Z inj st.nx vs xs.toArray
  | [], vs, hr => by simp [resL] at hr; subst hr; exact ⟨[], by simp, by simp, by simp⟩
  | r :: l, vs, hr => by
    simp only [resL] at hr
    split at hr <;> try simp at hr
    rename_i v vs' h1 h2
    subst hr
    obtain ⟨x, hx, hrel⟩ := resOne_run hT h hs h1
    obtain ⟨xs, hxs, hl⟩ := resL_run hT h hs g hg1 hg2 h2
    have hx : (g r).run P w = .ok x w := by
      rw [← hx]; cases r
      · rw [hg1]
      · rw [hg2]
    refine ⟨x :: xs, ?_, ?_, ?_⟩
    · rw [List.mapM_cons]
      simp only [Sem.run_bind, hx, Result.andThen_ok, hxs, Sem.run_pure]
    · have := hl.1; simp at this ⊢; omega
    · intro i d c hd hc
      cases i with
      | zero => simp at hd hc; subst hd hc; exact hrel
      | succ i => simp at hd hc; exact hl.2 i d c hd (by simpa using hc)

theorem mkTup_rel {nx : Nat} {cs : List V} {xs : Array Value} (h : LRel w Z inj nx cs xs) : RelV w Z inj nx (mkTup cs) (.tuple xs) := by
  unfold mkTup
  split
  · rename_i ds hd
    have := allD_map hd; subst this
    refine .d (.tup (by simpa using h.1) fun i d c h1 h2 => ?_)
    have := h.2 i (.d d) c (by simp [h1]) h2
    cases this with | d h => exact h
  · exact .tup h.1 h.2

theorem res_run {fn : Func} {v : V} (hT : TabOk P T) (h : RelH w Z inj st.hp st.nx) (hs : RelSlots w Z inj st.nx st.sl a.tmps) (hr : resV T st fn.results.toList = some v) : ∃ x, (results fn a.tmps).run P w = .ok x w ∧ RelV w Z inj st.nx v x := by
  unfold resV at hr
  have key : ∀ vs, resL T st fn.results.toList = some vs → ∃ xs : List Value, (results fn a.tmps).run P w = .ok (if h : xs.toArray.size = 1 then xs.toArray[0] else .tuple xs.toArray) w ∧ LRel w Z inj st.nx vs xs.toArray := by
    intro vs hvs
    unfold results
    generalize hg : (fun x => match x with | .tmp t => pure (a.tmps.getD t undef) | .cell p t => (do loadVar t (← asAddr (a.tmps.getD p undef)) : Sem Value) : ResultVar → Sem Value) = g
    rw [Sem.run_bind, Array.mapM_eq_mapM_toList, Sem.run_map]
    obtain ⟨xs, hxs, hl⟩ := resL_run hT h hs g (fun t => by rw [← hg]) (fun p t => by rw [← hg]) hvs
    refine ⟨xs, ?_, hl⟩
    rw [hxs]
    rfl
  split at hr
  · rename_i v' hvs
    simp at hr; subst hr
    obtain ⟨xs, hx, hl⟩ := key _ hvs
    obtain ⟨y, hy, hrel⟩ := lrel_one hl
    have : xs = [y] := by simpa using congrArg Array.toList hy
    subst this
    exact ⟨y, by simpa using hx, hrel⟩
  · rename_i vs hne hvs
    simp at hr; subst hr
    obtain ⟨xs, hx, hl⟩ := key _ hvs
    refine ⟨.tuple xs.toArray, ?_, mkTup_rel hl⟩
    have : xs.toArray.size ≠ 1 := by
      rw [← hl.1]
      intro hc
      match vs, hc with
      | [x], _ => exact hne x rfl
    rw [dif_neg this] at hx
    exact hx
  · simp at hr
end
end Go.Am
