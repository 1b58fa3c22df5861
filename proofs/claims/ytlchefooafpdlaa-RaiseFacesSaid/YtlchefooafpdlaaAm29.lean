/- FROM A RUN ON DATA TO A ROW's CONTRACT. -/
import Derived.Test.YtlchefooafpdlaaAm28
namespace Go.Am
open Go
open Go.ChangeShapes Go.WideShapes Go.ChangeAt Go.RowKit Go.Deep

theorem tab_ok {P : Program} {l : List (Nat × TI)} (h : l.map (fun x => tiOf P x.1) = l.map (fun x => some x.2)) : TabOk P (tabOf l) := by
  intro t i ht
  have hm := find_mem (show find l t = some i from ht)
  obtain ⟨k, hk⟩ := List.getElem?_of_mem hm
  have := congrArg (fun r => r[k]?) h
  simp only [List.getElem?_map, hk, Option.map_some] at this
  exact Option.some.inj this

def aggT (P : Program) (t : TypeId) : Bool := match P.underlying t with
  | some (.struct _) | some (.array _ _) => true
  | _ => false

/-- Typed arguments. -/
inductive ArgsTy : List (Bool × List CT) → List DV → Prop
  | nil : ArgsTy [] []
  | one {c : CT} {d : DV} {ps : List (Bool × List CT)} {ds : List DV} : Ty c d → ArgsTy ps ds → ArgsTy ((false, [c]) :: ps) (d :: ds)
  | agg {l : List CT} {xs : List DV} {ps : List (Bool × List CT)} {ds : List DV} : xs.length = l.length → (∀ (j : Nat) (c : CT) (d : DV), l[j]? = some c → xs[j]? = some d → Ty c d) → ArgsTy ps ds → ArgsTy ((true, l) :: ps) (.agg xs :: ds)

section
variable {H : Type} {enc : TypeId × Value → H} {P : Program} {T : Tab} {W : World} {base : Nat}

theorem arg_one {t : TypeId} {f : Nat} {l : List CT} {v : Value} {d : DataW H} {p : List MemPlace} (hag : aggT P t = false) (hl : tyL P f t = some l) (hok : Value.okWide P W .any base t v) (h : DataW.Trod enc P W 0 (fun _ => true) true t v d p) :
    ∃ c x, l = [c] ∧ Ty c x ∧ RelD W (ZC W) x v := by
  obtain ⟨fuel, hf⟩ := h
  have hr := trod_reads f t l fuel _ _ hl hf
  have key : v.cells = #[v] → ∃ c, l = [c] → ∃ x, Ty c x ∧ RelD W (ZC W) x v := by
    intro hv
    rw [hv] at hr
    obtain ⟨h1, ds, h2, h3⟩ := hr
    match l, h1 with
    | [c], _ =>
      obtain ⟨x, _, h5, h6⟩ := h3 0 c v rfl rfl
      exact ⟨c, fun _ => ⟨x, h5, h6⟩⟩
  have fin : v.cells = #[v] → ∃ c x, l = [c] ∧ Ty c x ∧ RelD W (ZC W) x v := by
    intro hv
    have hlen := hr.1
    rw [hv] at hlen hr
    match l, hlen, hr with
    | [c], _, hr =>
      obtain ⟨_, ds, h2, h3⟩ := hr
      obtain ⟨x, _, h5, h6⟩ := h3 0 c v rfl rfl
      exact ⟨c, x, rfl, h5, h6⟩
  cases f with
  | zero => simp [tyL] at hl
  | succ f =>
    simp only [tyL] at hl
    split at hl <;> try simp at hl
    · rename_i ht; obtain ⟨b, rfl⟩ := okWide_bool ht hok; exact fin rfl
    · rename_i k ht; obtain ⟨n, rfl⟩ := okWide_int ht hok; exact fin rfl
    · rename_i ht; obtain ⟨s, rfl⟩ := okWide_string ht hok; exact fin rfl
    · rename_i e ht; obtain ⟨a0, len, cap, rfl⟩ := okWide_slice ht hok; exact fin rfl
    · rename_i fs ht; simp [aggT, ht] at hag

theorem arg_agg {t : TypeId} {f : Nat} {l : List CT} {v : Value} {d : DataW H} {p : List MemPlace} (hag : aggT P t = true) (hl : tyL P f t = some l) (hok : Value.okWide P W .any base t v) (h : DataW.Trod enc P W 0 (fun _ => true) true t v d p) :
    ∃ xs : List DV, xs.length = l.length ∧ (∀ (j : Nat) (c : CT) (d : DV), l[j]? = some c → xs[j]? = some d → Ty c d) ∧ RelD W (ZC W) (.agg xs) v := by
  obtain ⟨fuel, hf⟩ := h
  have hv : ∃ cs, v = .agg cs := by
    unfold aggT at hag
    unfold Value.okWide at hok
    split at hag
    · rename_i ht; simp only [ht] at hok; obtain ⟨cs, h, _⟩ := hok; exact ⟨cs, h⟩
    · rename_i ht; simp only [ht] at hok; obtain ⟨cs, h, _⟩ := hok; exact ⟨cs, h⟩
    · simp at hag
  obtain ⟨cs, rfl⟩ := hv
  obtain ⟨h1, ds, h2, h3⟩ := trod_reads f t l fuel _ _ hl hf
  simp only [Value.cells] at h1 h3
  refine ⟨ds, h2, fun j c d hc hd => ?_, .agg (by simpa [h2] using h1.symm) fun j d c hd hc => ?_⟩
  · obtain ⟨v, hv⟩ := ex_get (xs := cs.toList) (i := j) (by rw [h1]; exact lt_size hc)
    obtain ⟨d', g1, g2, _⟩ := h3 j c v hc hv
    rw [hd] at g1; cases g1; exact g2
  · obtain ⟨ct, hct⟩ := ex_get (xs := l) (i := j) (by rw [← h2]; exact lt_size hd)
    obtain ⟨d', g1, _, g3⟩ := h3 j ct c hct (by simpa using hc)
    rw [hd] at g1; cases g1; exact g3

theorem args_rel {f : Nat} : ∀ (ts : List TypeId) (ps : List (Bool × List CT)) (vs : List Value) (ds : List (DataW H)) (p : List MemPlace), ts.map (fun t => (aggT P t, tyL P f t)) = ps.map (fun x => (x.1, some x.2)) →
    (∀ (j : Nat) t v, ts[j]? = some t → vs[j]? = some v → Value.okWide P W .any base t v) → DataW.TrodAll enc P W 0 (fun _ => true) true ts vs ds p →
    ∃ xs : List DV, ArgsTy ps xs ∧ xs.length = vs.length ∧ ∀ (j : Nat) (x : DV) (v : Value), xs[j]? = some x → vs[j]? = some v → RelD W (ZC W) x v
  | [], ps, vs, ds, p, hp, hok, h => by
    obtain ⟨rfl, rfl, rfl⟩ := trodAll_nil h
    cases ps with
    | nil => exact ⟨[], .nil, rfl, by simp⟩
    | cons _ _ => simp at hp
  | t :: ts, ps, vs, ds, p, hp, hok, h => by
    obtain ⟨v, vs', d, ds', q, q', rfl, rfl, rfl, h1, h2⟩ := trodAll_cons h
    cases ps with
    | nil => simp at hp
    | cons pr ps =>
      obtain ⟨ag, l⟩ := pr
      simp only [List.map_cons, List.cons.injEq, Prod.mk.injEq] at hp
      obtain ⟨⟨hag, hl⟩, hp⟩ := hp
      obtain ⟨xs, g1, g2, g3⟩ := args_rel ts ps vs' ds' q' hp (fun j t v ht hv => hok (j + 1) t v (by simpa using ht) (by simpa using hv)) h2
      have hok0 := hok 0 t v rfl rfl
      cases ag with
      | false =>
        obtain ⟨c, x, rfl, k1, k2⟩ := arg_one hag hl hok0 h1
        refine ⟨x :: xs, .one k1 g1, by simp [g2], fun j y u hy hu => ?_⟩
        cases j with
        | zero => simp at hy hu; subst hy hu; exact k2
        | succ j => exact g3 j y u (by simpa using hy) (by simpa using hu)
      | true =>
        obtain ⟨zs, k0, k1, k2⟩ := arg_agg hag hl hok0 h1
        refine ⟨.agg zs :: xs, .agg k0 k1 g1, by simp [g2], fun j y u hy hu => ?_⟩
        cases j with
        | zero => simp at hy hu; subst hy hu; exact k2
        | succ j => exact g3 j y u (by simpa using hy) (by simpa using hu)

/-- The walk of a law, out of its run on data. -/
theorem walk_of_pure {F : FuncId} {vs : Array Value} {xs : List DV} (hT : TabOk P T) (hm : P.follows .mixedOrders = true) (hp : Pure P T F xs (.bool true)) (hl : xs.length = vs.size) (hr : ∀ (j : Nat) (x : DV) (v : Value), xs[j]? = some x → vs[j]? = some v → RelD W (ZC W) x v) :
    Calls P F vs W fun e W' => e = .returned (.bool true) ∧ Grown W W' ∧ Below W.heap.size W W' := by
  obtain ⟨v, hp', nx', r', he, hto, hle⟩ := hp
  have hg := call_sound hT hm he
  have h0 : RelH W (ZC W) (fun _ => none) [] 0 := ⟨fun _ _ h => by simp [find] at h, fun _ _ _ _ _ _ h => by simp [find] at h, fun _ _ _ h => by simp [find] at h,
    fun b ⟨c, e, f, h⟩ => some_lt h, fun b h => h⟩
  have hc := hg.2 W (ZC W) (fun _ => none) vs h0 ⟨by simpa using hl, fun j x v hx hv => by
    simp only [List.getElem?_map, Option.map_eq_some_iff] at hx
    obtain ⟨y, hy, rfl⟩ := hx
    exact .d (hr j y v hy hv)⟩
  refine (callsIn_wide (n := 0).1 hc).mono ?_
  rintro e W' ⟨x, Z', inj', rfl, hh, hext, hv, hn⟩
  have hD := (toD_rel hh 8 hto hv).le hle
  cases hD
  have hk : ∀ k, k < W.heap.size → W'.heap[k]? = W.heap[k]? := fun k hk => hext.keep k hk (by rintro ⟨n, blk, o, h1, _⟩; simp [find] at h1)
  refine ⟨rfl, ⟨⟨hext.os, hext.output, fun i hi => ?_⟩, hext.frz, hext.size⟩, ⟨hext.os, hext.tape, hext.output, hext.size, hk⟩⟩
  rw [hk i hi]
  cases hw : W.heap[i]? with
  | none => simp
  | some o => cases o <;> simp

theorem args_stay (hlay : laidOutB P = true) {W' : World} {sp : Nat → Bool} : ∀ (ts : List TypeId) (vs : List Value) (ds : List (DataW H)) (p : List MemPlace), (∀ t ∈ ts, P.readableRec t = true ∧ t < P.types.size) → DataW.TrodAll enc P W 0 (fun _ => true) true ts vs ds p →
    Below W.heap.size W W' → (∀ x ∈ p, x.block < W.heap.size ∧ sp x.block = true) → DataW.TrodAll enc P W' 0 sp true ts vs ds p
  | [], vs, ds, p, _, h, _, _ => by obtain ⟨rfl, rfl, rfl⟩ := trodAll_nil h; exact trodAll_mk0
  | t :: ts, vs, ds, p, ht, h, hb, hp => by
    obtain ⟨v, vs', d, ds', q, q', rfl, rfl, rfl, h1, h2⟩ := trodAll_cons h
    refine trodAll_cons_mk (WideElems.Trod_stays hlay (ht t (by simp)).1 (ht t (by simp)).2 h1 (fun x hx => hb.same (hp x (by simp [hx])).1) (fun x hx => (hp x (by simp [hx])).2))
      (args_stay hlay ts vs' ds' q' (fun u hu => ht u (by simp [hu])) h2 hb (fun x hx => hp x (by simp [hx])))

/-- **A LAW's CONTRACT.** -/
theorem contract {f : Func} {F : FuncId} {s : ChangeSpec} {tb : TypeId} {fuel : Nat} {ps : List (Bool × List CT)} (hT : TabOk P T) (hm : P.follows .mixedOrders = true) (hlay : laidOutB P = true)
    (hvars : s.vars = []) (hres : f.resultTypes = #[tb]) (hub : P.underlying tb = some .bool) (hread : ∀ t ∈ f.params.toList, P.readableRec t = true ∧ t < P.types.size)
    (hps : f.params.toList.map (fun t => (aggT P t, tyL P fuel t)) = ps.map (fun x => (x.1, some x.2)))
    (hs : ∀ ds : List (DataW H), ds.length = f.params.size → s.fn H ds = { results := [.lit (.bool true)], args := ds })
    (hpure : ∀ xs, ArgsTy ps xs → Pure P T F xs (.bool true))
    {args : Array Value} {ds gs : List (DataW H)} {before : List MemPlace} (hval : ∀ (j : Nat) t v, f.params[j]? = some t → args[j]? = some v → Value.okWide P W .any base t v)
    (hW : DataW.Whole enc P f.params.toList s.vars false W args.toList ds gs before) :
    Calls P F args W fun e W' => ∃ v, e = .returned v ∧ s.post enc P f false true false false W args v W' := by
  have hW' := hW
  obtain ⟨p, q, hA, hV, rfl, hfz, hnd⟩ := hW
  rw [hvars] at hV
  obtain ⟨rfl, rfl⟩ := trodVars_none hV
  have hlt := hW'.lt
  simp only [List.append_nil] at hW' hlt
  obtain ⟨xs, g1, g2, g3⟩ := args_rel (base := base) f.params.toList ps args.toList ds p hps (fun j t v ht hv => hval j t v (by simpa using ht) (by simpa using hv)) hA
  refine (walk_of_pure hT hm (hpure xs g1) (by simpa using g2) (fun j x v hx hv => g3 j x v hx (by simpa using hv))).mono ?_
  rintro e W' ⟨rfl, hg, hb⟩
  have hlen : ds.length = f.params.size := by
    have : ∀ (ts : List TypeId) (vs : List Value) (ds : List (DataW H)) (p : List MemPlace), DataW.TrodAll enc P W 0 (fun _ => true) true ts vs ds p → ds.length = ts.length := by
      intro ts
      induction ts with
      | nil => intro vs ds p h; obtain ⟨_, rfl, _⟩ := trodAll_nil h; rfl
      | cons t ts ih => intro vs ds p h; obtain ⟨v, vs', d, ds', q, q', rfl, rfl, rfl, _, h2⟩ := trodAll_cons h; simp [ih _ _ _ h2]
    simpa using this _ _ _ _ hA
  have hfn := hs (ds ++ []) (by simpa using hlen)
  refine ⟨_, rfl, post_of_same (pa := p) (pv := []) hW' ?_ ?_ ?_ (by simp) (hg.frame _) hg.2.1 (ok_one hres rfl (okWide_bool_mk hub _))⟩
  · intro b sp hd
    rw [hres, hfn]
    exact trodAll_cons_mk (shut_bool hub _) trodAll_mk0
  · intro sp hsp
    rw [hfn]
    show DataW.TrodAll enc P W' 0 sp true f.params.toList args.toList (ds ++ []) p
    rw [List.append_nil]
    exact args_stay hlay _ _ _ _ hread hA hb fun x hx => ⟨hlt x hx, hsp x hx⟩
  · intro sp hsp
    rw [hfn, hvars]
    rfl
end
end Go.Am
