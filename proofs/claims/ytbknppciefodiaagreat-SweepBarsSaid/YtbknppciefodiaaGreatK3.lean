/- Am12 Am13 Am14 Am15 Am16 -/
import Derived.Test.YtbknppciefodiaaGreatK2
import Derived.Laws.MakeOwn
import Derived.Deep.AppendSrc
import Derived.Room.Entries
namespace Go.Am
open Go
variable {P : Program} {T : Tab}
theorem qf1 {n : Int} (h : -9223372036854775808≤n∧n≤9223372036854775807) : IntKind.i64.wrap n = n:=by rw [IntKind.wrap_i64];omega
theorem qfu {es i i' j : Nat} (hj : j < es) : (i * es≤i' * es + j∧i' * es + j < i * es + es)↔i' = i:=by
  constructor
  · intro ⟨h1,h2⟩
    rcases Nat.lt_trichotomy i' i with h | h | h
    · have:=Nat.mul_le_mul_right es (show i' + 1≤i from h);rw [Nat.add_mul] at this;omega
    · exact h
    · have:=Nat.mul_le_mul_right es (show i + 1≤i' from h);rw [Nat.add_mul] at this;omega
  · rintro rfl;omega
theorem q2j {es n i j : Nat} (hi : i < n) (hj : j < es) : i * es + j < n * es:=by
  have:=Nat.mul_le_mul_right es (show i + 1≤n from hi);rw [Nat.add_mul] at this;omega
section
variable {w : World} {Z : Nat→Prop} {inj : Inj} {st : AS} {a : Act} {Ds : List Nat}
theorem qfq {dflt y : Nat} {o : Option Operand} {n : Nat} {code : BoundsCode} (h : RelS w Z inj st a Ds) (hb : bound st dflt o = some n) (hy : n≤y) :
    (∀ op,o = some op→(Instr.sliceBound (a.eval op) y code).run P w = .ok n w)∧(o = none→n = dflt):=by
  cases o with
  | none=>simp [bound] at hb;exact ⟨qd,fun _=>hb.symm⟩
  | some op=>
    refine ⟨fun op' e=>?_,qd⟩
    cases e
    simp only [bound] at hb
    split at hb <;> try simp at hb
    rename_i k m hm
    have h1:=K3 h hm
    generalize a.eval op = vx at h1 ⊢
    cases h1 with | d h1=>
    cases h1
    obtain ⟨h0,rfl⟩:=hb
    simp only [Instr.sliceBound,asIntOf,Sem.run_bind,Sem.run_pure,Result.andThen_ok]
    rw [Sem.run_ite,if_pos ⟨h0,q6⟩];rfl
theorem qr4 {t : TypeId} {i : TI} {x : Operand} {xv v : V} {lo hi : Option Operand} {n p q : Nat} (h : RelS w Z inj st a Ds) (ht : tiOf P t = some i) (hk : i.kind = .slice) (hx : st.ev x = some xv) (hn : lenV xv = some n)
    (hlo : bound st 0 lo = some p) (hhi : bound st n hi = some q) (hs : qbe i.esize xv p q = some v) :
    Ka st st v w Z inj ((do pure (Next.value (← Instr.sliceAt t (a.eval x) (lo.map a.eval) (hi.map a.eval) none)) : Sem Next).run P w):=by
  obtain ⟨info,d,z,k⟩:=Y9 ht
  have hkk:=k.kind
  unfold Yr at hkk
  simp only [hk] at hkk
  obtain ⟨e,ie,de,ze,rfl,g1,g2,g3,g4,g5,g6,g7,_⟩:=hkk
  have h3:=K3 h hx
  generalize a.eval x = vx at h3 ⊢
  have run : ∀ ad len cap,len = n→q≤cap→p≤q→(Instr.sliceAt t (.slice ad len cap) (lo.map a.eval) (hi.map a.eval) none).run P w = .ok (.slice (if cap = p then ad else ad.map (·.add (p * i.esize))) (q - p) (cap - p)) w:=by
    intro ad len cap hl hq hp
    obtain ⟨l1,l2⟩:=qfq (P:=P) (y:=q) (code:=.sliceB) h hlo hp
    obtain ⟨r1,r2⟩:=qfq (P:=P) (y:=cap) (code:=.sliceAcap) h hhi hq
    simp only [Instr.sliceAt,Sem.run_bind,run_underlying k.und,Result.andThen_ok,Instr.slice,Instr.sliceBounds,Yq g1,g6]
    cases hi with
    | none=>
      have:=r2 rfl;subst this
      cases lo with
      | none=>have:=l2 rfl;subst this;simp [hl]
      | some o=>simp [hl,l1 o rfl]
    | some o'=>
      cases lo with
      | none=>have:=l2 rfl;subst this;simp [r1 o' rfl]
      | some o=>simp [r1 o' rfl,l1 o rfl]
  cases xv <;> simp only [qbe,reduceCtorEq] at hs
  case d x=>
    cases x <;> simp only [reduceCtorEq] at hs
    case nilsl=>
      split at hs <;> simp at hs
      rename_i h0
      obtain ⟨rfl,rfl⟩:=h0
      subst hs
      simp [lenV] at hn
      cases h3 with | d h3=>
      cases h3
      exact .quiet h (K9 (run _ _ _ hn q6 q6)) (by simpa using RelV.d .nilsl)
    case sl es xs=>
      split at hs <;> simp at hs
      rename_i h0
      obtain ⟨h0,h1,he⟩:=h0
      subst hs
      simp [lenV] at hn
      cases h3 with | d h3=>
      cases h3 with
      | slnil=>
        simp at h1 hn
        obtain ⟨rfl,rfl⟩ : q = 0∧p = 0:=by omega
        exact .quiet h (K9 (run _ _ _ hn q6 q6)) (by simpa using RelV.d (.slnil _))
      | slemp=>
        simp at h1 hn
        obtain ⟨rfl,rfl⟩ : q = 0∧p = 0:=by omega
        exact .quiet h (K9 (run _ _ _ hn q6 q6)) (by simpa using RelV.d (.slemp _ _))
      | @sl _ _ b o cap hc hz hl hcell hrel=>
        refine .quiet h (K9 (run _ _ _ hn q6 h0)) ?_
        have hlen : ((xs.drop p).take (q - p)).length = q - p:=by simp;omega
        have hget : ∀ (i : Nat) (x : List DV),((xs.drop p).take (q - p))[i]? = some x→xs[p + i]? = some x:=by
          intro i x hx
          rw [List.getElem?_take] at hx
          split at hx
          · rwa [List.getElem?_drop] at hx
          · simp at hx
        by_cases hcp : cap = p
        · rw [if_pos hcp]
          have h9 : (xs.drop p).take (q - p) = []:=List.eq_nil_of_length_eq_zero (by rw [hlen];omega)
          have h8 : q - p = 0:=by omega
          rw [h9,h8]
          exact .d (RelD.sl (es:=es) (xs:=[]) qd qd qd qd qd)
        · rw [if_neg hcp,Option.map_some,J3]
          have e2 : ∀ k j,o + p * i.esize + (k * es + j) = o + ((p + k) * es + j):=by
            intro k j;rw [← he,Nat.add_mul];omega
          have:=RelD.sl (w:=w) (Z:=Z) (es:=es) (xs:=(xs.drop p).take (q - p)) (b:=b) (o:=o + p * i.esize) (cap:=cap - p) (by rw [hlen];omega) (fun hne=>hz (by rintro rfl;simp at hne)) (fun i x hx=>hl _ _ (hget i x hx))
            (fun k x j d hx hd=>by rw [e2];exact hcell _ _ j d (hget k x hx) hd)
            (fun k x j d c hx hd hc=>hrel _ _ j d c (hget k x hx) hd (by rw [e2] at hc;exact hc))
          rw [hlen] at this
          exact .d this
  case hs m es off len=>
    split at hs <;> simp at hs
    rename_i h0
    obtain ⟨h0,h1,he⟩:=h0
    subst hs
    simp [lenV] at hn
    cases h3 with
    | hsnil hm=>
      obtain ⟨rfl,rfl⟩ : q = 0∧p = 0:=by omega
      exact .quiet h (K9 (run _ _ _ hn q6 q6)) (by simpa using RelV.hsnil (es:=es) (off:=off) hm)
    | @hs _ _ _ _ cap ad hm hc hsp hcap=>
      refine .quiet h (K9 (run _ _ _ hn q6 h0)) ?_
      by_cases hcp : cap = p
      · rw [if_pos hcp]
        exact .hs hm q6 hsp (fun hne=>q6)
      · rw [if_neg hcp,Option.map_some]
        obtain ⟨b,o,hi,rfl,hbig⟩:=hcap q6
        rw [J3]
        refine .hs hm q6 rfl fun _=>⟨b,o,hi,?_,?_⟩
        · rw [he,Nat.add_mul,← Nat.add_assoc]
        · rwa [show off + p + (cap - p) = off + cap by omega]
theorem qf4 {ze : Value} {es n i j : Nat} {ds : List DV} (hc : ze.cells.toList.mapM Yx = some ds) (hl : ds.length = es) (hi : i < n) {d : DV} (hd : ds[j]? = some d) :
    ∃ c,((Array.range (n * es)).map (ze.cells[· % ze.cells.size]!))[i * es + j]? = some c∧RelD w Z d c∧Y5 d = true:=by
  obtain ⟨h1,h2⟩:=q71 (w:=w) (Z:=Z) hc
  obtain ⟨c,hcj,hr,hcell,_⟩:=h2 j d hd
  have hj : j < es:=by have:=K4 hd;omega
  refine ⟨c,?_,hr,hcell⟩
  have hlt:=q2j hi hj
  rw [Array.getElem?_map,Array.getElem?_range]
  simp only [hlt,if_true,Option.map_some]
  have : (i * es + j) % ze.cells.size = j:=by rw [← h1,hl,Nat.mul_comm,Nat.mul_add_mod,Nat.mod_eq_of_lt hj]
  rw [this]
  have h9 : ze.cells[j]! = ze.cells[j]'(Yg hcj):=getElem!_pos ze.cells j (Yg hcj)
  rw [h9]
  exact congrArg some (Array.getElem?_eq_some_iff.1 hcj).2
theorem qr2 {t : TypeId} {i : TI} {l c : Operand} {k1 k2 : IntKind} {n m : Int} (h : RelS w Z inj st a Ds) (ht : tiOf P t = some i) (hk : i.kind = .slice) (hl : st.ev l = some (.d (.int k1 n))) (hc : st.ev c = some (.d (.int k2 m)))
    (h0 : 0≤n) (h1 : n≤m) (hr : m * (i.ebytes * 4)≤room) :
    Ka st (st.new (.dat i.esize (List.replicate n.toNat i.ezero))) (.hs st.nx i.esize 0 n.toNat) w Z inj ((do pure (Next.value (← Instr.makeSlice t (a.eval l) (a.eval c))) : Sem Next).run P w):=by
  obtain ⟨info,d,z,k⟩:=Y9 ht
  have hkk:=k.kind
  unfold Yr at hkk
  simp only [hk] at hkk
  obtain ⟨e,ie,de,ze,rfl,g1,g2,g3,g4,g5,g6,g7,g8,g9,_⟩:=hkk
  have h3:=K3 h hl
  have h4:=K3 h hc
  generalize a.eval l = vl at h3 ⊢
  generalize a.eval c = vc at h4 ⊢
  cases h3 with | d h3=>
  cases h3
  cases h4 with | d h4=>
  cases h4
  have hm : m≤4294967296:=by
    have e1 : (1 : Int)≤(i.ebytes : Int) * 4:=by omega
    have:=Int.mul_le_mul_of_nonneg_left e1 (show (0:Int)≤m by omega)
    unfold room at hr;omega
  have hb : (i.ebytes : Int) * m≤281474976710656:=by
    unfold room at hr
    have : m * ((i.ebytes : Int) * 4) = (i.ebytes : Int) * m * 4:=by rw [← Int.mul_assoc,Int.mul_comm m]
    omega
  have w1 : IntKind.i64.wrap n = n:=qf1 q6
  have w2 : IntKind.i64.wrap m = m:=qf1 q6
  obtain ⟨N,rfl⟩:=Int.eq_ofNat_of_zero_le h0
  obtain ⟨M,rfl⟩:=Int.eq_ofNat_of_zero_le (show 0≤m by omega)
  simp only [Int.toNat_natCast]
  have hrun:=run_make (P:=P) w t e ie ze k.und g1 g3 k1 k2 (N : Int) (M : Int) h0 h1 (by rw [g8];exact hb) q6
  simp only [Int.toNat_natCast,g6] at hrun
  have hNM : N≤M:=by omega
  refine .new h (K9 hrun) ?_ ?_
  · refine ⟨g7,?_,.inr ⟨w.heap.size,0,_,e,Kn _ _ _,J4 _ _,?_⟩⟩
    · intro j x hx
      rw [List.getElem?_replicate] at hx
      split at hx <;> simp at hx
      rw [← hx];exact g5
    · intro j x j' d hx hd
      rw [List.getElem?_replicate] at hx
      split at hx <;> simp at hx
      rename_i hj
      subst hx
      obtain ⟨c,hc,hr,hcell⟩:=qf4 (w:=w.alloc (.cells (madeCells ze.cells (M * i.esize)) e)) (Z:=Z) g4 g5 (show j < M by omega) hd
      exact ⟨hcell,c,by rw [Nat.zero_add];exact hc,hr⟩
  · refine .hs q6 hNM rfl fun _=>⟨w.heap.size,0,Kn _ _ _,qd,?_⟩
    exact ⟨_,_,_,J4 _ _,by rw [size_madeCells];simp⟩
def ERel (w : World) (Z : Nat→Prop) (inj : Inj) (nx es : Nat) (xs : List (List V)) (C : Array Value) : Prop:=
  C.size = xs.length * es∧(∀ (i : Nat) (x : List V),xs[i]? = some x→x.length = es)∧
    ∀ (i : Nat) (x : List V) (j : Nat) (d : V),xs[i]? = some x→x[j]? = some d→Kb d = true∧∃ c,C[i * es + j]? = some c∧RelV w Z inj nx d c
theorem qgk {es : Nat} : ∀ {vs : List (Nat × V)} {l : List (Nat × List V)},elems es vs = some l→l.length = vs.length∧∀ (k i : Nat) (v : V),vs[k]? = some (i,v)→(cellsOf v).length = es∧(cellsOf v).all Kb = true∧l[k]? = some (i,cellsOf v)
  | [],l,h=>by simp [elems] at h;subst h;simp
  | (i,v)::r,l,h=>by
    simp only [elems] at h
    split at h
    · rename_i l' h2
      split at h
      · rename_i hc
        simp at h;subst h
        obtain ⟨h3,h4⟩:=qgk h2
        refine ⟨by simp [h3],fun k i' v' hk=>?_⟩
        cases k with
        | zero=>simp at hk;obtain ⟨rfl,rfl⟩:=hk;exact ⟨hc.1,hc.2,qd⟩
        | succ k=>simp at hk;obtain ⟨a,b,c⟩:=h4 k i' v' hk;exact ⟨a,b,by simpa using c⟩
      · simp at h
    · simp at h
theorem ERel.set {w : World} {nx es : Nat} {xs : List (List V)} {C vs : Array Value} {ys : List V} {i : Nat} (h : ERel w Z inj nx es xs C) (hy : LRel w Z inj nx ys vs) (hyl : ys.length = es) (hyc : ys.all Kb = true) (hi : i < xs.length) :
    ERel w Z inj nx es (xs.set i ys) (Am.splice C.toList (i * es) vs.toList).toArray:=by
  obtain ⟨h1,h2,h3⟩:=h
  have hvs : vs.toList.length = es:=by have:=hy.1;simp;omega
  have hfit : i * es + vs.toList.length≤C.toList.length:=by
    rw [hvs,Array.length_toList,h1]
    have:=Nat.mul_le_mul_right es (show i + 1≤xs.length from hi);rw [Nat.add_mul] at this;omega
  refine ⟨by simp [q15 _ _ _ hfit,h1],?_,?_⟩
  · intro j x hx
    rw [List.getElem?_set] at hx
    by_cases hij : i = j
    · rw [if_pos hij,if_pos q6] at hx
      simp at hx;rw [← hx];exact hyl
    · rw [if_neg hij] at hx;exact h2 j x hx
  · intro j x j' d hx hd
    rw [List.getElem?_set] at hx
    by_cases hij : i = j
    · subst hij
      rw [if_pos rfl,if_pos hi] at hx
      simp at hx;subst hx
      have hj':=K4 hd
      obtain ⟨c,hc⟩:=Kp (xs:=vs) (i:=j') (by have:=hy.1;omega)
      refine ⟨List.all_eq_true.1 hyc _ (List.mem_of_getElem? hd),c,?_,hy.2 _ _ _ hd hc⟩
      rw [List.getElem?_toArray,Jd _ _ _ _ hfit,if_pos (by rw [hvs];omega),show i * es + j' - i * es = j' by omega]
      simpa using hc
    · rw [if_neg hij] at hx
      obtain ⟨h4,c,h5,h6⟩:=h3 j x j' d hx hd
      refine ⟨h4,c,?_,h6⟩
      rw [List.getElem?_toArray,Jd _ _ _ _ hfit,if_neg ?_]
      · simpa using h5
      · rw [hvs]
        intro hc
        exact hij ((qfu (by have:=K4 hd;have:=h2 j x hx;omega)).1 hc).symm
theorem qgx {w : World} {nx es : Nat} : ∀ (vs : List (Nat × V)) (xs : List (Nat × Value)) (l : List (Nat × List V)) (cs cs' : List (List V)) (C : Array Value),
    vs.length = xs.length→(∀ (k : Nat) (i : Nat) (v : V),vs[k]? = some (i,v)→∃ x,xs[k]? = some (i,x)∧RelV w Z inj nx v x)→
    l.length = vs.length→(∀ (k : Nat) (i : Nat) (v : V),vs[k]? = some (i,v)→(cellsOf v).length = es∧(cellsOf v).all Kb = true∧l[k]? = some (i,cellsOf v))→
    ERel w Z inj nx es cs C→q2m cs l = some cs'→∃ C',Instr.fill (fun i=>some (i * es,es)) C xs = some C'∧ERel w Z inj nx es cs' C'∧cs'.length = cs.length
  | [],xs,l,cs,cs',C,h1,_,h3,_,h5,h6=>by
    have : xs = []:=by cases xs <;> simp_all
    have : l = []:=by cases l <;> simp_all
    subst_vars
    simp [q2m] at h6;subst h6
    exact ⟨C,by simp [Instr.fill],h5,rfl⟩
  | (i,v)::vs,xs,l,cs,cs',C,h1,h2,h3,h4,h5,h6=>by
    match xs,l,h1,h3 with
    | (i',x)::xs,(o',ys)::l,h1,h3=>
      obtain ⟨x',hx',hr⟩:=h2 0 i v rfl
      simp at hx';obtain ⟨rfl,rfl⟩:=hx'
      obtain ⟨hl,hc,hl0⟩:=h4 0 i' v rfl
      simp at hl0;obtain ⟨rfl,rfl⟩:=hl0
      obtain ⟨q1,q2,q3⟩:=qa5 hr hc
      simp only [q2m] at h6
      split at h6
      · rename_i hfit
        obtain ⟨C',hC',hrel,hlen⟩:=qgx vs xs l (cs.set o' (cellsOf v)) cs' (splice C.toList (o' * es) x.cells.toList).toArray (by simpa using h1)
          (fun k i v hk=>by obtain ⟨x,hx⟩:=h2 (k + 1) i v (by simpa using hk);exact ⟨x,by simpa using hx⟩) (by simpa using h3)
          (fun k i v hk=>by obtain ⟨a,b,hx⟩:=h4 (k + 1) i v (by simpa using hk);exact ⟨a,b,by simpa using hx⟩)
          (h5.set ⟨q1,q2⟩ hl hc hfit) h6
        refine ⟨C',?_,hrel,by simpa using hlen⟩
        have hsz : o' * es + es≤C.size:=by
          rw [h5.1]
          have:=Nat.mul_le_mul_right es (show o' + 1≤cs.length from hfit);rw [Nat.add_mul] at this;omega
        have hxs : x.cells.size = es:=by omega
        simp only [Instr.fill,hxs]
        have : ¬ ((decide (es≠es) || decide (o' * es + es > C.size)) = true):=by simp;omega
        rw [if_neg (by simpa using this)]
        rw [qh4 x.cells C (o' * es) q6]
        exact hC'
      · simp at h6
theorem qqo {t : TypeId} {i : TI} {len : Nat} {ps : Array (Nat × Operand)} {vs : List (Nat × V)} {l : List (Nat × List V)} {xs : List (List V)} (h : RelS w Z inj st a Ds) (ht : tiOf P t = some i) (hv : Zm st.ev ps.toList = some vs)
    (hl : elems i.esize vs = some l) (hk : i.kind = .slice) (hroom : len * i.esize≤16777216) (hf : q2m (List.replicate len (i.ezero.map .d)) l = some xs) :
    Ka st (st.new (q4i i.esize xs)) (.hs st.nx i.esize 0 len) w Z inj ((do pure (Next.value (← Instr.buildSlice t len (ps.map fun (i,x)=>(i,a.eval x)))) : Sem Next).run P w):=by
  obtain ⟨info,d,z,k⟩:=Y9 ht
  have hkk:=k.kind
  unfold Yr at hkk
  simp only [hk] at hkk
  obtain ⟨e,ie,de,ze,rfl,g1,g2,g3,g4,g5,g6,g7,g8,g9,_⟩:=hkk
  obtain ⟨p1,p2⟩:=qgv h hv
  obtain ⟨q1,q2⟩:=qgk hl
  have hxs : ∀ (k i : Nat) (v : V),vs[k]? = some (i,v)→∃ x,(ps.toList.map fun (x : Nat × Operand)=>(x.1,a.eval x.2))[k]? = some (i,x)∧RelV w Z inj st.nx v x:=by
    intro k i v hk
    obtain ⟨o,ho,hr⟩:=p2 k i v hk
    exact ⟨a.eval o,by simp only [List.getElem?_map,ho];rfl,hr⟩
  have hz0 : ERel w Z inj st.nx i.esize (List.replicate len (i.ezero.map .d)) ((Array.range (len * i.esize)).map (ze.cells[· % ze.cells.size]!)):=by
    refine ⟨qd,?_,?_⟩
    · intro j x hx
      rw [List.getElem?_replicate] at hx
      split at hx <;> simp at hx
      rw [← hx];simpa using g5
    · intro j x j' d hx hd
      rw [List.getElem?_replicate] at hx
      split at hx <;> simp at hx
      rename_i hj
      subst hx
      simp only [List.getElem?_map,Option.map_eq_some_iff] at hd
      obtain ⟨d',hd',rfl⟩:=hd
      obtain ⟨c,hc,hr,hcell⟩:=qf4 (w:=w) (Z:=Z) g4 g5 hj hd'
      exact ⟨hcell,c,hc,.d hr⟩
  obtain ⟨C',hC,hr,hlen⟩:=qgx vs (ps.toList.map fun (x : Nat × Operand)=>(x.1,a.eval x.2)) l _ xs _ (by simp [p1]) hxs q1 q2 hz0 hf
  have hC' : Instr.fill (fun j=>some (j * i.esize,i.esize)) ((Array.range (len * i.esize)).map (ze.cells[· % ze.cells.size]!)) (ps.map fun (x : Nat × Operand)=>(x.1,a.eval x.2)).toList = some C':=by simpa using hC
  have hrun : (Instr.buildSlice t len (ps.map fun (i,x)=>(i,a.eval x))).run P w = .ok (.slice (some ⟨w.heap.size,0,none⟩) len len) (w.alloc (.cells C' e)):=by
    have hn : ¬ (len * i.esize > 2 ^ 24):=by omega
    have hrow : (do let x ← newRow e C';pure (Value.slice (some x) len len) : Sem Value).run P w = .ok (.slice (some ⟨w.heap.size,0,none⟩) len len) (w.alloc (.cells C' e)):=by simp [newRow]
    by_cases hz : len * i.esize = 0
    · simp only [Instr.buildSlice,Sem.run_bind,run_underlying k.und,Result.andThen_ok,Yq g1,g6]
      rw [hz] at hC' ⊢
      rw [if_neg q6,if_pos rfl]
      simp only [Sem.run_bind,Sem.run_pure,Result.andThen_ok]
      have e0 : Array.map (fun x=>(#[] : Array Value)[x % (#[] : Array Value).size]!) (Array.range 0) = Array.map (fun x=>ze.cells[x % ze.cells.size]!) (Array.range 0):=by simp
      rw [e0]
      simp only [hC']
      exact hrow
    · simp only [Instr.buildSlice,Sem.run_bind,run_underlying k.und,Result.andThen_ok,Yq g1,g6]
      rw [if_neg hn,if_neg hz]
      have hzv : (zeroValue e).run P w = .ok ze w:=by simp [zeroValue,typeInfo,g1,g3]
      simp only [Sem.run_bind,hzv,Sem.run_pure,Result.andThen_ok]
      simp only [hC']
      exact hrow
  have hlx : xs.length = len:=by simpa using hlen
  refine .new h (K9 hrun) ?_ ?_
  · refine qjo g7 (Kn _ _ _) (J4 _ _) hr.2.1 ?_
    intro j x j' d hx hd
    obtain ⟨h1,c,h2,h3⟩:=hr.2.2 j x j' d hx hd
    exact ⟨h1,c,h2,qjs h _ h3⟩
  · refine .hs q6 (Nat.le_refl _) rfl fun _=>⟨w.heap.size,0,Kn _ _ _,qd,?_⟩
    exact ⟨_,_,_,J4 _ _,by rw [hr.1,hlx];simp⟩
end
end Go.Am
namespace Go.Am
open Go
variable {P : Program} {T : Tab}
def RowV (w : World) (Z : Nat→Prop) (inj : Inj) (nx : Nat) (arr : Array Value) (o es : Nat) (xs : List (List V)) : Prop:=
  ∀ (i : Nat) (x : List V) (j : Nat) (d : V),xs[i]? = some x→x[j]? = some d→Kb d = true∧∃ c,arr[o + (i * es + j)]? = some c∧RelV w Z inj nx d c
section
variable {w : World} {Z : Nat→Prop} {inj : Inj} {nx : Nat}
theorem RowV.mono {w' : World} {inj' : Inj} {nx' : Nat} {arr : Array Value} {o es : Nat} {xs : List (List V)} (h : RowV w Z inj nx arr o es xs) (hm : ∀ v x,RelV w Z inj nx v x→RelV w' Z inj' nx' v x) : RowV w' Z inj' nx' arr o es xs:=
  fun i x j d hx hd=>let ⟨h1,c,h2,h3⟩:=h i x j d hx hd;⟨h1,c,h2,hm _ _ h3⟩
def rowsOf : Blk→Option (Nat × List (List V))
  | .dat es xs=>some (es,xs.map (·.map .d))
  | .cel es xs=>some (es,xs)
  | _=>none
theorem q5b {n : Nat} {b : Blk} {es : Nat} {xs : List (List V)} (h : RelB w Z inj nx n b) (hr : rowsOf b = some (es,xs)) :
    es≠0∧(∀ (i : Nat) (x : List V),xs[i]? = some x→x.length = es)∧((xs = []∧inj n = none)∨∃ b o arr ty,inj n = some (b,o)∧w.heap[b]? = some (.cells arr ty (0,0))∧RowV w Z inj nx arr o es xs):=by
  cases b <;> simp only [rowsOf,reduceCtorEq,Option.some.injEq,Prod.mk.injEq] at hr
  · obtain ⟨rfl,rfl⟩:=hr
    obtain ⟨h1,h2,h3⟩:=h
    refine ⟨h1,?_,?_⟩
    · intro i x hx
      simp only [List.getElem?_map,Option.map_eq_some_iff] at hx
      obtain ⟨y,hy,rfl⟩:=hx
      simpa using h2 i y hy
    · rcases h3 with ⟨h3,h4⟩ | ⟨b,o,arr,ty,h3,h4,h5⟩
      · exact .inl ⟨by simp [h3],h4⟩
      · refine .inr ⟨b,o,arr,ty,h3,h4,fun i x j d hx hd=>?_⟩
        simp only [List.getElem?_map,Option.map_eq_some_iff] at hx
        obtain ⟨y,hy,rfl⟩:=hx
        simp only [List.getElem?_map,Option.map_eq_some_iff] at hd
        obtain ⟨d',hd',rfl⟩:=hd
        obtain ⟨h6,c,h7,h8⟩:=h5 i y j d' hy hd'
        exact ⟨h6,c,h7,.d h8⟩
  · obtain ⟨rfl,rfl⟩:=hr
    obtain ⟨h1,h2,h3⟩:=h
    exact ⟨h1,h2,h3⟩
theorem q5a {n : Nat} {b : Blk} {es : Nat} {xs : List (List V)} (hr : rowsOf b = some (es,xs)) (he : es≠0) (hl : ∀ (i : Nat) (x : List V),xs[i]? = some x→x.length = es)
    (h : (xs = []∧inj n = none)∨∃ b o arr ty,inj n = some (b,o)∧w.heap[b]? = some (.cells arr ty (0,0))∧RowV w Z inj nx arr o es xs) : RelB w Z inj nx n b:=by
  cases b <;> simp only [rowsOf,reduceCtorEq,Option.some.injEq,Prod.mk.injEq] at hr
  · obtain ⟨rfl,rfl⟩:=hr
    rename_i xs
    refine ⟨he,fun i x hx=>?_,?_⟩
    · have:=hl i (x.map .d) (by simp [hx]);simpa using this
    · rcases h with ⟨h3,h4⟩ | ⟨b,o,arr,ty,h3,h4,h5⟩
      · exact .inl ⟨by simpa using h3,h4⟩
      · refine .inr ⟨b,o,arr,ty,h3,h4,fun i x j d hx hd=>?_⟩
        obtain ⟨h6,c,h7,h8⟩:=h5 i (x.map .d) j (.d d) (by simp [hx]) (by simp [hd])
        refine ⟨h6,c,h7,?_⟩
        cases h8 with | d h=>exact h
  · obtain ⟨rfl,rfl⟩:=hr
    exact ⟨he,hl,h⟩
theorem RowV.set {arr vs : Array Value} {o es e j : Nat} {xs : List (List V)} {cs ys : List V} (h : RowV w Z inj nx arr o es xs) (hl : ∀ (i : Nat) (x : List V),xs[i]? = some x→x.length = es) (he : xs[e]? = some cs) (hy : LRel w Z inj nx ys vs) (hyc : ys.all Kb = true)
    (hj : j + ys.length≤cs.length) (hfit : o + (e * es + j) + vs.size≤arr.size) : RowV w Z inj nx (splice arr.toList (o + (e * es + j)) vs.toList).toArray o es (xs.set e (splice cs j ys)):=by
  have hvl : vs.toList.length = ys.length:=by have:=hy.1;simp;omega
  have hfit' : o + (e * es + j) + vs.toList.length≤arr.toList.length:=by simpa using hfit
  have hcs:=hl e cs he
  intro i x j' d hx hd
  rw [List.getElem?_toArray,Jd _ _ _ _ hfit']
  rw [List.getElem?_set] at hx
  by_cases hei : e = i
  · subst hei
    rw [if_pos rfl,if_pos (K4 he)] at hx
    simp at hx;subst hx
    rw [Jd _ _ _ _ hj] at hd
    by_cases hjj : j≤j'∧j' < j + ys.length
    · rw [if_pos hjj] at hd
      obtain ⟨c,hc⟩:=Kp (xs:=vs) (i:=j' - j) (by have:=hy.1;omega)
      rw [if_pos q6,show o + (e * es + j') - (o + (e * es + j)) = j' - j by omega]
      exact ⟨List.all_eq_true.1 hyc _ (List.mem_of_getElem? hd),c,by simpa using hc,hy.2 _ _ _ hd hc⟩
    · rw [if_neg hjj] at hd
      rw [if_neg q6]
      obtain ⟨h1,c,h2,h3⟩:=h e cs j' d he hd
      exact ⟨h1,c,by simpa using h2,h3⟩
  · rw [if_neg hei] at hx
    obtain ⟨h1,c,h2,h3⟩:=h i x j' d hx hd
    refine ⟨h1,c,?_,h3⟩
    have hj' : j' < es:=by have:=K4 hd;have:=hl i x hx;omega
    rw [if_neg ?_]
    · simpa using h2
    · intro hc
      exact hei ((qfu (i:=e) hj').1 q6).symm
end
section
variable {w : World} {Z : Nat→Prop} {inj : Inj} {st : AS} {a : Act} {Ds : List Nat}
theorem qye {t : TypeId} {info : TypeInfo} {x : Value} {b o : Nat} {arr : Array Value} {ty : TypeId} (hi : P.info? t = some info) (hs : x.cells.size = info.size) (h1 : ∀ c∈x.cells.toList,c.oneCell' = true)
    (hb : w.heap[b]? = some (.cells arr ty (0,0))) (hfit : o + x.cells.size≤arr.size) :
    (Instr.storeAt t (.pointer (some ⟨b,o,none⟩)) x).run P w = .ok () (w.setRow b (splice arr.toList o x.cells.toList).toArray):=by
  have:=run_storeCells_at P b o ty x.cells.toList 0 arr w hb (by simpa using hfit) h1
  simp only [Nat.add_zero] at this
  simp only [Instr.storeAt,Instr.sureAddr,storeVar,Sem.run_bind,Sem.run_pure,Result.andThen_ok,Yq hi,Sem.run_ite]
  rw [if_neg q6]
  exact this
theorem qr5 {t : TypeId} {i : TI} {p x : Operand} {pv v : V} {st1 : AS} (h : RelS w Z inj st a Ds) (ht : tiOf P t = some i) (hp : st.ev p = some pv) (hx : st.ev x = some v) (hs : Zw st i pv v = some st1) :
    Ka st st1 .dead w Z inj ((do Instr.storeAt t (a.eval p) (a.eval x);pure .skip : Sem Next).run P w):=by
  obtain ⟨info,d,z,k⟩:=Y9 ht
  have hpr:=K3 h hp
  have hxr:=K3 h hx
  generalize a.eval p = vp at hpr ⊢
  generalize a.eval x = vx at hxr ⊢
  cases pv <;> simp only [Zw,reduceCtorEq] at hs
  rename_i n k0 e j
  split at hs <;> try simp at hs
  rename_i hcond
  have hc1 : (cellsOf v).length = i.size:=by
    apply Classical.byContradiction;intro hc;exact hcond (.inl hc)
  have hc2 : (cellsOf v).all Kb = true:=by
    cases hc : (cellsOf v).all Kb with
    | true=>rfl
    | false=>exact absurd (.inr hc) hcond
  cases hpr with | @ref _ _ _ _ b o hn hi=>
  have key : ∀ (b0 : Blk) (es : Nat) (xs : List (List V)) (cs : List V) (b1 : Blk),st.blk n = some b0→rowsOf b0 = some (es,xs)→es = k0→xs[e]? = some cs→j + i.size≤cs.length→rowsOf b1 = some (es,xs.set e (splice cs j (cellsOf v)))→st1 = st.setBlk n b1→
      Ka st st1 .dead w Z inj ((do Instr.storeAt t (.pointer (some ⟨b,o + (e * k0 + j),none⟩)) vx;pure .skip : Sem Next).run P w):=by
    rintro b0 es xs cs b1 hb0 hr0 rfl hcs hfit hr1 rfl
    obtain ⟨g1,g2,g3⟩:=q5b (h.heap.blk n b0 hb0).2 hr0
    rcases g3 with ⟨g3,_⟩ | ⟨b',o',arr,ty,g3,g4,g5⟩
    · subst g3;simp at hcs
    · rw [hi] at g3;cases g3
      obtain ⟨c1,c2,c3⟩:=qa5 hxr hc2
      have hlive : live b0 = true:=by cases b0 <;> simp_all [rowsOf,live]
      have hcl:=g2 e cs hcs
      have hes : 0 < es:=by omega
      have hlast : o + (e * es + (es - 1)) < arr.size:=by
        obtain ⟨d0,hd0⟩:=Yt (xs:=cs) (i:=es - 1) q6
        obtain ⟨_,c,hc,_⟩:=g5 e cs (es - 1) d0 hcs hd0
        exact Yg hc
      have hfitA : o + (e * es + j) + vx.cells.size≤arr.size:=by omega
      have hrun:=qye (P:=P) (w:=w) k.inf (x:=vx) (by rw [k.size];omega) c3 g4 hfitA
      have hsz : (splice arr.toList (o + (e * es + j)) vx.cells.toList).toArray.size = arr.size:=by
        simp only [List.size_toArray]
        rw [q15 _ _ _ (by simpa using hfitA)];simp
      have hz : ∀ b1,Z b1→(w.setRow b (splice arr.toList (o + (e * es + j)) vx.cells.toList).toArray).heap[b1]? = w.heap[b1]?:=fun b1 hz1=>
        setRow_other w b b1 _ (fun e=>h.heap.out n b0 _ hb0 hlive hi (by rw [← e];exact hz1))
      have hkb:=q1q w b arr _ ty (0,0) g4 hsz
      refine ⟨undef,_,inj,.inr ⟨by simp [hrun],rfl⟩,.dead _,?_,Ext.set h.heap hb0 hlive hi g4 hsz,rfl,Nat.le_refl _⟩
      refine h.heap.set hb0 hlive hi g4 hsz (q5a hr1 g1 ?_ (.inr ⟨b,o,_,ty,hi,setRow_heap w b _ _ _ _ g4,?_⟩))
      · intro i' x' hx'
        rw [List.getElem?_set] at hx'
        by_cases hei : e = i'
        · rw [if_pos hei,if_pos (by have:=K4 hcs;omega)] at hx'
          simp at hx';rw [← hx',q15 _ _ _ q6];exact hcl
        · rw [if_neg hei] at hx';exact g2 _ _ hx'
      · exact (g5.set g2 hcs ⟨c1,c2⟩ hc2 q6 hfitA).mono fun v x hr=>hr.mono hz (fun _ h=>h) hkb (fun _ _=>rfl) (Nat.le_refl _)
  cases hb : st.blk n with
  | none=>simp [hb] at hs
  | some blk=>
    cases blk with
    | dead=>simp [hb] at hs
    | loop=>simp [hb] at hs
    | mp=>simp [hb] at hs
    | dat es xs=>
      simp only [hb] at hs
      split at hs <;> try simp at hs
      rename_i cs he hx1
      have he:=Nat.eq_of_beq_eq_true he
      have hcs : (xs.map (·.map V.d))[e]? = some (cs.map V.d):=by simp [hx1]
      split at hs
      · rename_i ds hds
        simp at hs
        obtain ⟨hfit,hs⟩:=hs
        refine key _ _ _ _ _ hb rfl he.symm hcs (by simpa using hfit) ?_ hs.symm
        simp only [rowsOf,Option.some.injEq,Prod.mk.injEq,true_and]
        rw [q41 hds]
        simp [splice,List.map_set,List.map_take,List.map_drop]
      · simp at hs
        obtain ⟨hfit,hs⟩:=hs
        exact key _ _ _ _ _ hb rfl he.symm hcs (by simpa using hfit) rfl hs.symm
    | cel es xs=>
      simp only [hb] at hs
      split at hs <;> try simp at hs
      rename_i cs he hx1
      have he:=Nat.eq_of_beq_eq_true he
      obtain ⟨hfit,hs⟩:=hs
      exact key _ _ _ _ _ hb rfl he.symm hx1 hfit rfl hs.symm
end
end Go.Am
namespace Go.Am
open Go
variable {P : Program} {T : Tab}
section
variable {w : World} {Z : Nat→Prop} {inj : Inj} {nx : Nat}
def J1 (w : World) (ad : Option Addr) (L : List Value) (ys : List (List V)) : Prop:=match ad with
  | some p=>∀ (k : Nat) (u : Value),L[k]? = some u→w.cell? (p.add k) = some u
  | none=>ys = []
theorem qek {b o es : Nat} {xs : List (List V)} (hes : es≠0) (hl : ∀ (i : Nat) (x : List V),xs[i]? = some x→x.length = es)
    (h : ∀ (i : Nat) (x : List V) (j : Nat) (d : V),xs[i]? = some x→x[j]? = some d→Kb d = true∧∃ c,w.cell? ⟨b,o + (i * es + j),none⟩ = some c∧RelV w Z inj nx d c) :
    ∃ L : List Value,L.length = xs.length * es∧(∀ (k : Nat) (u : Value),L[k]? = some u→w.cell? ⟨b,o + k,none⟩ = some u)∧ERel w Z inj nx es xs L.toArray:=by
  have hget : ∀ k,k < xs.length * es→∃ i x j d c,xs[i]? = some x∧x[j]? = some d∧k = i * es + j∧w.cell? ⟨b,o + k,none⟩ = some c∧RelV w Z inj nx d c:=by
    intro k hk
    have h1 : k / es < xs.length:=Nat.div_lt_of_lt_mul (by rwa [Nat.mul_comm])
    have h2 : k % es < es:=Nat.mod_lt _ q6
    obtain ⟨x,hx⟩:=Yt h1
    obtain ⟨d,hd⟩:=Yt (xs:=x) (i:=k % es) (by rw [hl _ _ hx];exact h2)
    obtain ⟨_,c,hc,hr⟩:=h _ _ _ _ hx hd
    have hk : k = k / es * es + k % es:=by rw [Nat.mul_comm];exact (Nat.div_add_mod k es).symm
    exact ⟨_,_,_,_,c,hx,hd,hk,by rw [hk];exact hc,hr⟩
  refine ⟨(List.range (xs.length * es)).map fun k=>(w.cell? ⟨b,o + k,none⟩).getD undef,qd,?_,?_⟩
  · intro k u hu
    have hk : k < xs.length * es:=by have:=K4 hu;simpa using this
    obtain ⟨_,_,_,_,c,_,_,_,hc,_⟩:=hget k hk
    simp [hk,hc] at hu;rw [hc,hu]
  · refine ⟨qd,hl,fun i x j d hx hd=>?_⟩
    obtain ⟨h1,c,h2,h3⟩:=h i x j d hx hd
    have hk:=q2j (K4 hx) (show j < es by have:=K4 hd;have:=hl i x hx;omega)
    exact ⟨h1,c,by simp [hk,h2],h3⟩
theorem ERel.append {es : Nat} {xs ys : List (List V)} {A B : Array Value} (h : ERel w Z inj nx es xs A) (k : ERel w Z inj nx es ys B) : ERel w Z inj nx es (xs ++ ys) (A ++ B):=by
  obtain ⟨a1,a2,a3⟩:=h
  obtain ⟨b1,b2,b3⟩:=k
  refine ⟨by simp [a1,b1,Nat.add_mul],?_,?_⟩
  · intro i x hx
    rw [List.getElem?_append] at hx
    split at hx
    · exact a2 _ _ hx
    · exact b2 _ _ hx
  · intro i x j d hx hd
    rw [List.getElem?_append] at hx
    split at hx
    · obtain ⟨h1,c,h2,h3⟩:=a3 i x j d hx hd
      exact ⟨h1,c,by rw [Array.getElem?_append_left (Yg h2)];exact h2,h3⟩
    · rename_i hi
      obtain ⟨h1,c,h2,h3⟩:=b3 _ x j d hx hd
      refine ⟨h1,c,?_,h3⟩
      have e : i * es + j = A.size + ((i - xs.length) * es + j):=by
        rw [a1,← Nat.add_assoc,← Nat.add_mul];congr 2;omega
      rw [e,Array.getElem?_append_right q6,show A.size + ((i - xs.length) * es + j) - A.size = (i - xs.length) * es + j by omega]
      exact h2
theorem ERel.row {es : Nat} {xs : List (List V)} {A B : Array Value} (h : ERel w Z inj nx es xs A) : RowV w Z inj nx (A ++ B) 0 es xs:=by
  intro i x j d hx hd
  obtain ⟨h1,c,h2,h3⟩:=h.2.2 i x j d hx hd
  exact ⟨h1,c,by rw [Nat.zero_add,Array.getElem?_append_left (Yg h2)];exact h2,h3⟩
theorem ERel.one {es : Nat} {xs : List (List V)} {L : List Value} (hes : es≠0) (h : ERel w Z inj nx es xs L.toArray) : ∀ u∈L,u.oneCell' = true:=by
  intro u hu
  obtain ⟨k,hk⟩:=List.mem_iff_getElem?.1 hu
  have hlt:=K4 hk
  have hsz : L.length = xs.length * es:=by simpa using h.1
  have h1 : k / es < xs.length:=Nat.div_lt_of_lt_mul (by rw [Nat.mul_comm];omega)
  obtain ⟨x,hx⟩:=Yt h1
  obtain ⟨d,hd⟩:=Yt (xs:=x) (i:=k % es) (by rw [h.2.1 _ _ hx];exact Nat.mod_lt _ q6)
  obtain ⟨h2,c,h3,h4⟩:=h.2.2 _ _ _ _ hx hd
  have e : k / es * es + k % es = k:=by rw [Nat.mul_comm];exact Nat.div_add_mod k es
  rw [e] at h3
  simp [hk] at h3;subst h3
  exact qe5 h4 h2
theorem ERel.mono {w' : World} {inj' : Inj} {nx' es : Nat} {xs : List (List V)} {A : Array Value} (h : ERel w Z inj nx es xs A) (hm : ∀ v x,RelV w Z inj nx v x→RelV w' Z inj' nx' v x) : ERel w' Z inj' nx' es xs A:=
  ⟨h.1,h.2.1,fun i x j d hx hd=>let ⟨h1,c,h2,h3⟩:=h.2.2 i x j d hx hd;⟨h1,c,h2,hm _ _ h3⟩⟩
theorem ERel.nil {es : Nat} : ERel w Z inj nx es [] #[]:=⟨qd,qd,qd⟩
theorem RowV.cells {arr : Array Value} {ty : TypeId} {b o es off len : Nat} {xs : List (List V)} (h : RowV w Z inj nx arr o es xs) (hb : w.heap[b]? = some (.cells arr ty (0,0))) :
    ∀ (i : Nat) (x : List V) (j : Nat) (d : V),((xs.drop off).take len)[i]? = some x→x[j]? = some d→Kb d = true∧∃ c,w.cell? ⟨b,o + off * es + (i * es + j),none⟩ = some c∧RelV w Z inj nx d c:=by
  intro i x j d hx hd
  rw [List.getElem?_take] at hx
  split at hx
  · rw [List.getElem?_drop] at hx
    obtain ⟨h1,c,h2,h3⟩:=h _ x j d hx hd
    refine ⟨h1,c,?_,h3⟩
    simp only [World.cell?,hb]
    rw [← h2]
    simp only [Option.isSome_none,Bool.false_eq_true,if_false]
    rw [Nat.add_mul];congr 1;omega
  · simp at hx
theorem qbt {es off len : Nat} {xs : List (List V)} (hl : ∀ (i : Nat) (x : List V),xs[i]? = some x→x.length = es) : ∀ (i : Nat) (x : List V),((xs.drop off).take len)[i]? = some x→x.length = es:=by
  intro i x hx
  rw [List.getElem?_take] at hx
  split at hx
  · rw [List.getElem?_drop] at hx;exact hl _ _ hx
  · simp at hx
end
section
variable {w : World} {Z : Nat→Prop} {inj : Inj} {st : AS} {a : Act} {Ds : List Nat}
theorem qct {x : V} {ys : List (List DV)} (h : Yf st x = some ys) : Yp st x = some (ys.map (·.map .d)):=by
  unfold Yf at h
  split at h
  · simp at h;subst h;rfl
  · simp at h;subst h;rfl
  · split at h <;> try simp at h
    rename_i hb
    obtain ⟨h1,rfl⟩:=h
    simp [Yp,hb,h1]
  · simp at h
theorem qa7 {x : V} {xv : Value} {es : Nat} {ys : List (List V)} (h : RelS w Z inj st a Ds) (hx : RelV w Z inj st.nx x xv) (hc : Yp st x = some ys) (hf : Zg es x = true) (hes : es≠0) :
    ∃ (ad : Option Addr) (cap : Nat) (L : List Value),xv = .slice ad ys.length cap∧L.length = ys.length * es∧ERel w Z inj st.nx es ys L.toArray∧J1 w ad L ys:=by
  unfold Yp at hc
  split at hc
  · simp at hc;subst hc
    cases hx with | d hx=>
    cases hx
    exact ⟨none,0,[],rfl,qd,.nil,(rfl : J1 w none [] [])⟩
  · rename_i es' xs
    simp at hc;subst hc
    have he:=Nat.eq_of_beq_eq_true hf
    subst he
    cases hx with | d hx=>
    cases hx with
    | slnil=>exact ⟨none,0,[],rfl,qd,.nil,(rfl : J1 w none [] [])⟩
    | slemp _ ad=>exact ⟨some ad,0,[],rfl,qd,.nil,fun k u hu=>by simp at hu⟩
    | @sl _ _ b o cap h1 h2 h3 h4 h5=>
      obtain ⟨L,l1,l2,l3⟩:=qek (w:=w) (Z:=Z) (inj:=inj) (nx:=st.nx) (b:=b) (o:=o) (xs:=xs.map (·.map V.d)) hes
        (fun i x hx=>by simp only [List.getElem?_map,Option.map_eq_some_iff] at hx;obtain ⟨y,hy,rfl⟩:=hx;simpa using h3 i y hy)
        (fun i x j d hx hd=>by
          simp only [List.getElem?_map,Option.map_eq_some_iff] at hx;obtain ⟨y,hy,rfl⟩:=hx
          simp only [List.getElem?_map,Option.map_eq_some_iff] at hd;obtain ⟨d',hd',rfl⟩:=hd
          obtain ⟨g1,c,g2⟩:=h4 i y j d' hy hd'
          exact ⟨g1,c,g2,.d (h5 i y j d' c hy hd' g2)⟩)
      exact ⟨some ⟨b,o,none⟩,cap,L,qd,l1,l3,fun k u hu=>by rw [J3];exact l2 k u hu⟩
  · rename_i n es' off len
    have he:=Nat.eq_of_beq_eq_true hf
    subst he
    have key : ∀ (b0 : Blk) (xs : List (List V)),st.blk n = some b0→rowsOf b0 = some (es',xs)→off + len≤xs.length→ys = (xs.drop off).take len→
        ∃ (ad : Option Addr) (cap : Nat) (L : List Value),xv = .slice ad ys.length cap∧L.length = ys.length * es'∧ERel w Z inj st.nx es' ys L.toArray∧J1 w ad L ys:=by
      rintro b0 xs hb hr hle rfl
      have hlen : ((xs.drop off).take len).length = len:=by simp;omega
      obtain ⟨g1,g2,g3⟩:=q5b (h.heap.blk n b0 hb).2 hr
      cases hx with
      | hsnil=>
        have : (xs.drop off).take 0 = []:=by simp
        rw [this]
        exact ⟨none,0,[],rfl,qd,.nil,(rfl : J1 w none [] [])⟩
      | @hs _ _ _ _ cap ad hn hc _ hcap=>
        by_cases h0 : len = 0
        · subst h0
          have : (xs.drop off).take 0 = []:=by simp
          rw [this]
          exact ⟨some ad,cap,[],rfl,qd,.nil,fun k u hu=>by simp at hu⟩
        · obtain ⟨b,o,hi,rfl,hbig⟩:=hcap q6
          rcases g3 with ⟨g3,g4⟩ | ⟨b',o',arr,ty,g3,g4,g5⟩
          · rw [hi] at g4;cases g4
          · rw [hi] at g3;cases g3
            obtain ⟨L,l1,l2,l3⟩:=qek (w:=w) (Z:=Z) (inj:=inj) (nx:=st.nx) (b:=b) (o:=o + off * es') (xs:=(xs.drop off).take len) hes (qbt g2) (g5.cells g4)
            exact ⟨some ⟨b,o + off * es',none⟩,cap,L,by rw [hlen],l1,l3,fun k u hu=>by rw [J3];exact l2 k u hu⟩
    split at hc
    · rename_i k xs hb
      split at hc <;> try simp at hc
      rename_i h1
      obtain ⟨h1,rfl⟩:=h1
      subst hc
      refine key _ (xs.map (·.map V.d)) hb rfl (by simpa using h1) qd
    · rename_i k xs hb
      split at hc <;> try simp at hc
      rename_i h1
      obtain ⟨h1,rfl⟩:=h1
      subst hc
      exact key _ xs hb rfl h1 rfl
    · simp at hc
  · simp at hc
theorem q9f {es n : Nat} {tx e' : TypeId} {ad : Option Addr} {cap : Nat} {ys : List (List V)} {L : List Value} (hes : es≠0) (htx : P.underlying tx = some (.slice e')) (hn : n = ys.length) (hl : L.length = ys.length * es)
    (hr : ERel w Z inj st.nx es ys L.toArray) (hc : J1 w ad L ys) : Src P es tx (.slice ad ys.length cap) n L w:=by
  subst hn
  refine ⟨.inl ⟨e',htx⟩,fun w'=>by simp [Builtin.lenOf],?_,?_,hl,hr.one hes⟩
  · cases ad with
    | none=>subst hc;simp at hl;subst hl;simp [Builtin.firstCells]
    | some p=>
      have:=run_loadCells_list (P:=P) w p L hc
      rw [hl] at this
      simpa [Builtin.firstCells] using this
  · cases ad with
    | none=>subst hc;simp at hl;subst hl;simp [Builtin.firstCells]
    | some p=>
      have:=run_loadCells_list (P:=P) w.drew p L hc
      rw [hl] at this
      simpa [Builtin.firstCells] using this
theorem qa1 {t tx ty e : TypeId} {i : TypeInfo} (ht : P.underlying t = some (.slice e)) (hi : P.info? e = some i) {base : Option Addr} {sLen sCap : Nat} {x : Value} {n : Nat} {news : List Value} (hs : Src P i.size tx x n news w) (hroom : sLen + n≤sCap)
    {w' : World} (hst : match base with | some p=>(storeCells (p.add (sLen * i.size)) news).run P w = .ok () w' | none=>w' = w) :
    (Builtin.append_ #[t,tx] ty #[.slice base sLen sCap,x]).run P w = .ok (.slice base (sLen + n) sCap) w':=by
  cases base with
  | none=>subst hst;rcases hs.kind with ⟨e',hk⟩ | hk <;> simp [Builtin.append_,run_underlying ht,run_underlying hk,sizeOf,typeInfo,hi,hs.len,hroom,hs.cells]
  | some p=>rcases hs.kind with ⟨e',hk⟩ | hk <;> simp [Builtin.append_,run_underlying ht,run_underlying hk,sizeOf,typeInfo,hi,hs.len,hroom,hs.cells,hst]
end
end Go.Am
namespace Go.Am
open Go
variable {P : Program} {T : Tab}
section
variable {w : World} {Z : Nat→Prop} {inj : Inj}
theorem RelH.newPh {hp : List (Nat × Blk)} {nx : Nat} (hr : RelH w Z inj hp nx) (blk : Blk) (hb : RelB w Z (upd inj nx none) (nx + 1) nx blk) : RelH w Z (upd inj nx none) ((nx,blk)::hp) (nx + 1):=by
  refine ⟨?_,?_,?_,hr.zs,hr.zc⟩
  · intro n b h
    rw [Kh] at h
    by_cases hn : nx = n
    · subst hn;simp at h;subst h;exact ⟨q6,hb⟩
    · simp only [hn,if_false] at h
      obtain ⟨h1,h2⟩:=hr.blk n b h
      exact ⟨q6,h2.mono (fun _ _=>rfl) (fun _ h=>h) (Sem.keepBig_of_same rfl) (fun m hm=>Ky _ _ hm) q6 h1 (fun _ _ _=>rfl)⟩
  · intro n m b c p q hn hm hlb hlc hp hq hne
    rw [Kh] at hn hm
    by_cases h1 : nx = n
    · subst h1;rw [Kn] at hp;cases hp
    · by_cases h2 : nx = m
      · subst h2;rw [Kn] at hq;cases hq
      · simp only [h1,h2,if_false] at hn hm
        rw [Ky _ _ (hr.blk n b hn).1] at hp
        rw [Ky _ _ (hr.blk m c hm).1] at hq
        exact hr.sep n m b c p q hn hm hlb hlc hp hq hne
  · intro n b p h hl hp
    rw [Kh] at h
    by_cases hn : nx = n
    · subst hn;rw [Kn] at hp;cases hp
    · simp only [hn,if_false] at h
      rw [Ky _ _ (hr.blk n b h).1] at hp
      exact hr.out n b p h hl hp
theorem Ext.newPh {hp : List (Nat × Blk)} {nx : Nat} (hr : RelH w Z inj hp nx) (blk : Blk) : Ext w Z inj hp w Z (upd inj nx none) ((nx,blk)::hp) nx:=by
  refine ⟨Nat.le_refl _,fun _ _ _=>rfl,?_,fun _ c e f h=>⟨c,e,f,h,rfl⟩,fun _ r h=>⟨r,h,rfl⟩,fun _ h=>h,fun _ h=>.inl h,fun n hn=>Ky _ _ hn,rfl,rfl,rfl,fun _=>rfl⟩
  rintro b ⟨n,blk',off',h1,h2,h3⟩
  rw [Kh] at h1
  by_cases hn : nx = n
  · subst hn;rw [Kn] at h3;cases h3
  · simp only [hn,if_false] at h1
    rw [Ky _ _ (hr.blk n blk' h1).1] at h3
    exact .inl ⟨n,blk',off',h1,h2,h3⟩
theorem RelH.move {hp : List (Nat × Blk)} {nx n : Nat} (hr : RelH w Z inj hp nx) {b0 blk : Blk} (hn : find hp n = some b0) (hl0 : live b0 = true) {g off off' : Nat} (hi : inj n = some (g,off)) {old cs : Array Value} {t : TypeId} {fr : Nat × Nat}
    (hg : w.heap[g]? = some (.cells old t fr)) (hs : cs.size = old.size) (hb : RelB (w.setRow g cs) Z (upd inj nx (some (g,off'))) (nx + 1) nx blk) :
    RelH (w.setRow g cs) Z (upd inj nx (some (g,off'))) ((nx,blk)::repl hp n .dead) (nx + 1):=by
  have hzg : ∀ b,Z b→b≠g:=fun b hz e=>hr.out n b0 _ hn hl0 hi (by rw [← e];exact hz)
  have key : ∀ m b,find (repl hp n .dead) m = some b→live b = true→find hp m = some b∧n≠m:=by
    intro m b h hl
    rw [Yl] at h
    by_cases hm : n = m
    · subst hm;simp [hn] at h;subst h;simp [live] at hl
    · simp only [hm,if_false] at h;exact ⟨h,hm⟩
  have hlt : ∀ m b,find (repl hp n .dead) m = some b→m < nx:=by
    intro m b h
    rw [Yl] at h
    by_cases hm : n = m
    · subst hm;exact (hr.blk n b0 hn).1
    · simp only [hm,if_false] at h;exact (hr.blk m b h).1
  refine ⟨?_,?_,?_,fun b hz=>by simpa using hr.zs b hz,fun b hz=>by rw [setRow_other w g b cs (hzg b hz)];exact hr.zc b hz⟩
  · intro m b h
    rw [Kh] at h
    by_cases hm : nx = m
    · subst hm;simp at h;subst h;exact ⟨q6,hb⟩
    · simp only [hm,if_false] at h
      refine ⟨by have:=hlt m b h;omega,?_⟩
      by_cases hl : live b = true
      · obtain ⟨h1,h2⟩:=key m b h hl
        obtain ⟨h3,h4⟩:=hr.blk m b h1
        refine h4.mono (fun b hz=>setRow_other w g b cs (hzg b hz)) (fun _ h=>h) (q1q w g old cs t fr hg hs) (fun _ hk=>Ky _ _ hk) q6 h3 ?_
        intro p hp' hl'
        exact setRow_other w g p.1 cs (fun e=>hr.sep n m b0 b _ _ hn h1 hl0 hl hi hp' h2 e.symm)
      · have : b = .dead:=by cases b <;> simp_all [live]
        subst this;trivial
  · intro m k b c p q h1 h2 hlb hlc hpp hqq hne
    rw [Kh] at h1 h2
    by_cases hm : nx = m
    · subst hm
      rw [Kn] at hpp;cases hpp
      simp only [hne,if_false] at h2
      obtain ⟨h3,h4⟩:=key k c h2 hlc
      rw [Ky _ _ (hlt k c h2)] at hqq
      exact fun e=>hr.sep n k b0 c (g,off) q hn h3 hl0 hlc hi hqq h4 e
    · simp only [hm,if_false] at h1
      obtain ⟨h3,h4⟩:=key m b h1 hlb
      rw [Ky _ _ (hlt m b h1)] at hpp
      by_cases hk : nx = k
      · subst hk
        rw [Kn] at hqq;cases hqq
        exact fun e=>hr.sep n m b0 b (g,off) p hn h3 hl0 hlb hi hpp h4 e.symm
      · simp only [hk,if_false] at h2
        obtain ⟨h5,h6⟩:=key k c h2 hlc
        rw [Ky _ _ (hlt k c h2)] at hqq
        exact hr.sep m k b c p q h3 h5 hlb hlc hpp hqq hne
  · intro m b p h hl hp' hz
    rw [Kh] at h
    by_cases hm : nx = m
    · subst hm;rw [Kn] at hp';cases hp';exact hr.out n b0 _ hn hl0 hi hz
    · simp only [hm,if_false] at h
      obtain ⟨h1,_⟩:=key m b h hl
      rw [Ky _ _ (hlt m b h)] at hp'
      exact hr.out m b p h1 hl hp' hz
theorem Ext.move {hp : List (Nat × Blk)} {nx n : Nat} (hr : RelH w Z inj hp nx) {b0 blk : Blk} (hn : find hp n = some b0) (hl0 : live b0 = true) {g off off' : Nat} (hi : inj n = some (g,off)) {old cs : Array Value} {t : TypeId} {fr : Nat × Nat}
    (hg : w.heap[g]? = some (.cells old t fr)) (hs : cs.size = old.size) : Ext w Z inj hp (w.setRow g cs) Z (upd inj nx (some (g,off'))) ((nx,blk)::repl hp n .dead) nx:=by
  refine ⟨qd,?_,?_,q1q w g old cs t fr hg hs,qhy w g old cs t fr hg,fun _ h=>h,fun _ h=>.inl h,fun m hm=>Ky _ _ hm,rfl,rfl,rfl,qhc w g old cs t fr hg⟩
  · intro b _ hb
    exact setRow_other w g b cs (fun e=>hb (by rw [e];exact ⟨n,b0,off,hn,hl0,hi⟩))
  · rintro b ⟨m,blk',o',h1,h2,h3⟩
    rw [Kh] at h1
    by_cases hm : nx = m
    · subst hm;rw [Kn] at h3;cases h3;exact .inl ⟨n,b0,off,hn,hl0,hi⟩
    · simp only [hm,if_false] at h1
      rw [Yl] at h1
      by_cases hk : n = m
      · subst hk;simp [hn] at h1;subst h1;simp [live] at h2
      · simp only [hk,if_false] at h1
        rw [Ky _ _ (hr.blk m blk' h1).1] at h3
        exact .inl ⟨m,blk',o',h1,h2,h3⟩
end
section
variable {w : World} {Z : Nat→Prop} {inj : Inj} {st : AS} {a : Act} {Ds : List Nat}
theorem qon {need cap b : Nat} (hg : cap < need) (hr : need * (b * 4)≤room) : Builtin.nextslicecap need cap * b≤281474976710656:=by
  have h1:=Nat.mul_le_mul_right b (Room.nextslicecap_le' hg)
  have h2 : 2 * need * b≤need * (b * 4):=by rw [Nat.mul_comm b 4,← Nat.mul_assoc];exact Nat.mul_le_mul_right b q6
  unfold room at hr;omega
theorem qpt {need b : Nat} (hb : b≠0) (hr : need * (b * 4)≤room) : need≤4294967296:=by
  have : need * 1≤need * (b * 4):=Nat.mul_le_mul_left _ q6
  unfold room at hr;omega
theorem qc9 {t u ty : TypeId} {i : TI} {e e' : TypeId} {ie : TypeInfo} {ze : Value} (_h : RelS w Z inj st a Ds) (hu : P.underlying t = some (.slice e)) (hu' : P.underlying u = some (.slice e')) (g1 : P.info? e = some ie) (g3 : ie.zero = some ze)
    (g6 : ie.size = i.esize) (g7 : i.esize≠0) (g8 : ie.bytes = i.ebytes) (g9 : i.ebytes≠0) (gz : ze.cells.size = i.esize) {hp1 : List (Nat × Blk)} (hh : RelH w Z inj hp1 st.nx) (hext : Ext w Z inj st.hp w Z inj hp1 st.nx)
    {base ad : Option Addr} {cap cap' : Nat} {olds ys : List (List V)} {L0 L1 : List Value} (hl0 : L0.length = olds.length * i.esize) (hr0 : ERel w Z inj st.nx i.esize olds L0.toArray) (hs0 : J1 w base L0 olds)
    (hl1 : L1.length = ys.length * i.esize) (hr1 : ERel w Z inj st.nx i.esize ys L1.toArray) (hs1 : J1 w ad L1 ys) (hg : cap < olds.length + ys.length) (hroom : (olds.length + ys.length) * (i.ebytes * 4)≤room)
    {b1 : Blk} (hb1 : rowsOf b1 = some (i.esize,olds ++ ys)) :
    ∃ x w' inj',(Builtin.append_ #[t,u] ty #[.slice base olds.length cap,.slice ad ys.length cap']).run P w = .ok x w'∧RelV w' Z inj' (st.nx + 1) (.hs st.nx i.esize 0 (olds.length + ys.length)) x∧RelH w' Z inj' ((st.nx,b1)::hp1) (st.nx + 1)∧
      Ext w Z inj st.hp w' Z inj' ((st.nx,b1)::hp1) st.nx:=by
  have src0:=q9f (P:=P) (tx:=t) (cap:=cap) g7 hu rfl hl0 hr0 hs0
  have src1:=q9f (P:=P) (tx:=u) (cap:=cap') g7 hu' rfl hl1 hr1 hs1
  rw [← g6] at src0 src1
  have hsm:=qpt g9 hroom
  have hfit:=qon hg hroom
  rw [← g8] at hfit
  have hrun:=run_append_grow_src (P:=P) w t u ty e ie ze hu g1 g3 base olds.length cap L0 src0.cellsD (.slice ad ys.length cap') ys.length L1 src1 hg q6 hfit
  have hge:=grownCap_ge w (olds.length + ys.length) cap e
  generalize grownCap w (olds.length + ys.length) cap e = C at hrun hge
  generalize hA : (L0 ++ L1).toArray ++ Builtin.zeroCells ze.cells (C - (olds.length + ys.length)) = A at hrun
  have hsame : RelH w.drew Z inj hp1 st.nx:=hh.same rfl
  have hER : ERel w Z inj st.nx i.esize (olds ++ ys) (L0.toArray ++ L1.toArray):=hr0.append hr1
  have mono : ∀ v x,RelV w Z inj st.nx v x→RelV (w.drew.alloc (.cells A e)) Z (upd inj st.nx (some (w.heap.size,0))) (st.nx + 1) v x:=fun v x hv=>
    hv.mono (fun b hz=>Zc w.drew _ (hh.zs b hz)) (fun _ h=>h) (q1p w.drew _) (fun _ hm=>Ky _ _ hm) q6
  refine ⟨_,_,upd inj st.nx (some (w.heap.size,0)),hrun,?_,?_,?_⟩
  · refine .hs q6 hge rfl fun _=>⟨w.heap.size,0,Kn _ _ _,qd,A,e,(0,0),J4 w.drew _,?_⟩
    have h1 : A.size = L0.length + L1.length + (C - (olds.length + ys.length)) * i.esize:=by
      rw [← hA];simp [Builtin.zeroCells,gz]
    rw [h1,hl0,hl1,← Nat.add_mul,← Nat.add_mul]
    simp only [Nat.zero_add]
    exact Nat.mul_le_mul_right _ q6
  · refine hsame.new (.cells A e) b1 0 ?_
    refine q5a hb1 g7 hER.2.1 (.inr ⟨w.heap.size,0,A,e,Kn _ _ _,J4 w.drew _,?_⟩)
    have h9:=(hER.row (B:=Builtin.zeroCells ze.cells (C - (olds.length + ys.length)))).mono mono
    rw [show L0.toArray ++ L1.toArray ++ Builtin.zeroCells ze.cells (C - (olds.length + ys.length)) = A from by rw [← hA];simp] at h9
    exact h9
  · refine hext.trans ?_ (Nat.le_refl _)
    have e1 : Ext w Z inj hp1 w.drew Z inj hp1 st.nx:=Ext.same rfl rfl rfl rfl
    exact e1.trans (Ext.new hsame (.cells A e) b1 0) (Nat.le_refl _)
theorem qls {t u ty : TypeId} {i : TI} {e e' : TypeId} {ie : TypeInfo} (h : RelS w Z inj st a Ds) (hu : P.underlying t = some (.slice e)) (hu' : P.underlying u = some (.slice e')) (g1 : P.info? e = some ie)
    (g6 : ie.size = i.esize) (g7 : i.esize≠0) {n off len cap cap' b o : Nat} {b0 b1 : Blk} {xs ys : List (List V)} (hb0 : st.blk n = some b0) (hr0 : rowsOf b0 = some (i.esize,xs)) (hle : off + len≤xs.length)
    (hi : inj n = some (b,o)) (hbig : Big w b (o + (off + cap) * i.esize)) (_hlc : len≤cap)
    {ad : Option Addr} {L1 : List Value} (hl1 : L1.length = ys.length * i.esize) (hr1 : ERel w Z inj st.nx i.esize ys L1.toArray) (hs1 : J1 w ad L1 ys) (hg : len + ys.length≤cap)
    (hb1 : rowsOf b1 = some (i.esize,(xs.drop off).take len ++ ys)) :
    ∃ x w' inj',(Builtin.append_ #[t,u] ty #[.slice (some ⟨b,o + off * i.esize,none⟩) len cap,.slice ad ys.length cap']).run P w = .ok x w'∧RelV w' Z inj' (st.nx + 1) (.hs st.nx i.esize 0 (len + ys.length)) x∧
      RelH w' Z inj' ((st.nx,b1)::repl st.hp n .dead) (st.nx + 1)∧Ext w Z inj st.hp w' Z inj' ((st.nx,b1)::repl st.hp n .dead) st.nx:=by
  have src1:=q9f (P:=P) (tx:=u) (cap:=cap') g7 hu' rfl hl1 hr1 hs1
  obtain ⟨q1,q2,q3⟩:=q5b (h.heap.blk n b0 hb0).2 hr0
  rcases q3 with ⟨_,q4⟩ | ⟨b',o',arr,ty',q3,q4,q5⟩
  · rw [hi] at q4;cases q4
  rw [hi] at q3;cases q3
  have hlive : live b0 = true:=by cases b0 <;> simp_all [rowsOf,live]
  have hsz : o + (off + cap) * i.esize≤arr.size:=by
    obtain ⟨c,e2,f,k1,k2⟩:=hbig
    rw [q4] at k1;cases k1;exact k2
  have hlenL : L1.length = ys.length * i.esize:=hl1
  have hmul : (len + ys.length) * i.esize≤cap * i.esize:=Nat.mul_le_mul_right _ hg
  rw [Nat.add_mul] at hmul hsz
  have hstart : o + off * i.esize + len * i.esize + L1.length≤arr.size:=by omega
  have hst:=run_storeCells_at P b (o + off * i.esize + len * i.esize) ty' L1 0 arr w q4 (by simpa using hstart) (hr1.one g7)
  simp only [Nat.add_zero] at hst
  have hsp : (arr.toList.take (o + off * i.esize + len * i.esize) ++ L1 ++ arr.toList.drop (o + off * i.esize + len * i.esize + L1.length)).toArray = (splice arr.toList (o + off * i.esize + len * i.esize) L1).toArray:=rfl
  rw [hsp] at hst
  have hrun:=qa1 (P:=P) (w:=w) (ty:=ty) hu g1 (base:=some ⟨b,o + off * i.esize,none⟩) (sLen:=len) (sCap:=cap) (x:=.slice ad ys.length cap') (n:=ys.length) (news:=L1) (by rw [g6];exact src1) hg
    (w':=w.setRow b (splice arr.toList (o + off * i.esize + len * i.esize) L1).toArray) (by show (storeCells ((⟨b,o + off * i.esize,none⟩ : Addr).add (len * ie.size)) L1).run P w = _;rw [J3,g6];exact hst)
  have hfitL : o + off * i.esize + len * i.esize + L1.length≤arr.toList.length:=by simpa using hstart
  have hasz : (splice arr.toList (o + off * i.esize + len * i.esize) L1).toArray.size = arr.size:=by simp [q15 _ _ _ hfitL]
  have hz : ∀ b1,Z b1→(w.setRow b (splice arr.toList (o + off * i.esize + len * i.esize) L1).toArray).heap[b1]? = w.heap[b1]?:=fun b1 hz1=>
    setRow_other w b b1 _ (fun e=>h.heap.out n b0 _ hb0 hlive hi (by rw [← e];exact hz1))
  have hkb:=q1q w b arr _ ty' (0,0) q4 hasz
  have mono : ∀ v x,RelV w Z inj st.nx v x→RelV (w.setRow b (splice arr.toList (o + off * i.esize + len * i.esize) L1).toArray) Z (upd inj st.nx (some (b,o + off * i.esize))) (st.nx + 1) v x:=fun v x hv=>
    hv.mono hz (fun _ h=>h) hkb (fun _ hm=>Ky _ _ hm) q6
  have hlen : ((xs.drop off).take len).length = len:=by simp;omega
  refine ⟨_,_,upd inj st.nx (some (b,o + off * i.esize)),hrun,?_,?_,Ext.move h.heap hb0 hlive hi q4 hasz⟩
  · refine .hs q6 hg rfl fun _=>⟨b,o + off * i.esize,Kn _ _ _,qd,_,_,_,setRow_heap w b _ _ _ _ q4,?_⟩
    rw [hasz];simp only [Nat.zero_add];omega
  · refine h.heap.move hb0 hlive hi q4 hasz (q5a hb1 g7 ?_ (.inr ⟨b,o + off * i.esize,_,ty',Kn _ _ _,setRow_heap w b _ _ _ _ q4,?_⟩))
    · intro j x hx
      rw [List.getElem?_append] at hx
      split at hx
      · exact qbt q2 j x hx
      · exact hr1.2.1 _ _ hx
    · intro j x j' d hx hd
      rw [List.getElem?_toArray,Jd _ _ _ _ hfitL]
      rw [List.getElem?_append] at hx
      split at hx
      · rename_i hj
        rw [hlen] at hj
        have hxl:=qbt q2 j x hx
        have hj' : j' < i.esize:=by have:=K4 hd;omega
        have hc:=q2j hj hj'
        rw [if_neg q6]
        rw [List.getElem?_take] at hx
        rw [if_pos hj,List.getElem?_drop] at hx
        obtain ⟨k1,c,k2,k3⟩:=q5 _ x j' d hx hd
        refine ⟨k1,c,?_,mono _ _ k3⟩
        rw [Nat.add_mul] at k2
        rw [Array.getElem?_toList,← k2];congr 1;omega
      · rename_i hj
        rw [hlen] at hj hx
        obtain ⟨k1,c,k2,k3⟩:=hr1.2.2 _ x j' d hx hd
        have hlt:=K4 hx
        have hxl:=hr1.2.1 _ x hx
        have hj' : j' < i.esize:=by have:=K4 hd;omega
        have hc:=q2j hlt hj'
        have he : j * i.esize = len * i.esize + (j - len) * i.esize:=by rw [← Nat.add_mul];congr 1;omega
        rw [if_pos q6]
        refine ⟨k1,c,?_,mono _ _ k3⟩
        rw [List.getElem?_toArray] at k2
        rw [← k2];congr 1;omega
theorem qqj {t u ty : TypeId} {i j : TI} {sv xv v : V} {vs vx : Value} {st1 : AS} (h : RelS w Z inj st a Ds) (ht : tiOf P t = some i) (hu : tiOf P u = some j) (hik : i.kind = .slice) (hjk : j.kind = .slice) (hf : Zg i.esize xv = true)
    (hsr : RelV w Z inj st.nx sv vs) (hxr : RelV w Z inj st.nx xv vx) (ha : Yk st i sv xv = some (v,st1)) :
    ∃ x w' inj',(Builtin.append_ #[t,u] ty #[vs,vx]).run P w = .ok x w'∧RelV w' Z inj' st1.nx v x∧RelH w' Z inj' st1.hp st1.nx∧Ext w Z inj st.hp w' Z inj' st1.hp st.nx∧st1.sl = st.sl∧st.nx≤st1.nx:=by
  obtain ⟨info,d,z,k⟩:=Y9 ht
  obtain ⟨info',d',z',k'⟩:=Y9 hu
  have hk:=k.kind
  have hk':=k'.kind
  unfold Yr at hk hk'
  simp only [hik,hjk] at hk hk'
  obtain ⟨e,ie,de,ze,rfl,g1,g2,g3,g4,g5,g6,g7,g8,g9,_⟩:=hk
  obtain ⟨e',_,_,_,rfl,_⟩:=hk'
  have gz : ze.cells.size = i.esize:=by have:=(q7j g4).1;simp at this;omega
  have nilcase : ∀ ys b1,Yp st xv = some ys→vs = .slice none 0 0→rowsOf b1 = some (i.esize,ys)→ys.length * (i.ebytes * 4)≤room→ys.length≠0→
      ∃ x w' inj',(Builtin.append_ #[t,u] ty #[vs,vx]).run P w = .ok x w'∧RelV w' Z inj' (st.nx + 1) (.hs st.nx i.esize 0 ys.length) x∧RelH w' Z inj' ((st.nx,b1)::st.hp) (st.nx + 1)∧Ext w Z inj st.hp w' Z inj' ((st.nx,b1)::st.hp) st.nx:=by
    rintro ys b1 hc rfl hr hroom hne
    obtain ⟨ad,cap',L1,rfl,hl1,hr1,hs1⟩:=qa7 h hxr hc hf g7
    have:=qc9 (P:=P) (ty:=ty) h k.und k'.und g1 g3 g6 g7 g8 g9 gz h.heap Ext.refl (base:=none) (cap:=0) (olds:=[]) (L0:=[]) qd .nil (rfl : J1 w none [] []) (cap':=cap') hl1 hr1 hs1 (by simp;omega) (by simpa using hroom) (b1:=b1) (by simpa using hr)
    simpa using this
  have nilnil : ∀ ys,Yp st xv = some ys→vs = .slice none 0 0→ys.length = 0→(Builtin.append_ #[t,u] ty #[vs,vx]).run P w = .ok (.slice none 0 0) w:=by
    rintro ys hc rfl h0
    obtain ⟨ad,cap',L1,rfl,hl1,hr1,hs1⟩:=qa7 h hxr hc hf g7
    have src1:=q9f (P:=P) (tx:=u) (cap:=cap') g7 k'.und rfl hl1 hr1 hs1
    have:=qa1 (P:=P) (w:=w) (ty:=ty) k.und g1 (base:=none) (sLen:=0) (sCap:=0) (by rw [g6];exact src1) q6 (w':=w) rfl
    simpa [h0] using this
  have hscase : ∀ n off len xs ys b0 b1,sv = .hs n i.esize off len→st.blk n = some b0→rowsOf b0 = some (i.esize,xs)→off + len≤xs.length→Yp st xv = some ys→rowsOf b1 = some (i.esize,(xs.drop off).take len ++ ys)→
      (len + ys.length) * (i.ebytes * 4)≤room→
      ∃ x w' inj',(Builtin.append_ #[t,u] ty #[vs,vx]).run P w = .ok x w'∧RelV w' Z inj' (st.nx + 1) (.hs st.nx i.esize 0 (len + ys.length)) x∧RelH w' Z inj' ((st.nx,b1)::repl st.hp n .dead) (st.nx + 1)∧
        Ext w Z inj st.hp w' Z inj' ((st.nx,b1)::repl st.hp n .dead) st.nx:=by
    rintro n off len xs ys b0 b1 rfl hb0 hr0 hle hc hr1' hroom
    obtain ⟨ad,cap',L1,rfl,hl1,hr1,hs1⟩:=qa7 h hxr hc hf g7
    have src1:=q9f (P:=P) (tx:=u) (cap:=cap') g7 k'.und rfl hl1 hr1 hs1
    have hlen : ((xs.drop off).take len).length = len:=by simp;omega
    obtain ⟨q1,q2,q3⟩:=q5b (h.heap.blk n b0 hb0).2 hr0
    have hdrop : RelH w Z inj (repl st.hp n .dead) st.nx:=h.heap.drop
    have hextd : Ext w Z inj st.hp w Z inj (repl st.hp n .dead) st.nx:=Ext.drop
    have ph : len = 0→ys.length = 0→RelH w Z (upd inj st.nx none) ((st.nx,b1)::repl st.hp n .dead) (st.nx + 1)∧Ext w Z inj st.hp w Z (upd inj st.nx none) ((st.nx,b1)::repl st.hp n .dead) st.nx:=by
      intro h1 h2
      have hnil : (xs.drop off).take len ++ ys = []:=by subst h1;simp [List.eq_nil_of_length_eq_zero h2]
      refine ⟨hdrop.newPh b1 (q5a hr1' g7 (by rw [hnil];simp) (.inl ⟨hnil,Kn _ _ _⟩)),hextd.trans (Ext.newPh hdrop b1) (Nat.le_refl _)⟩
    cases hsr with
    | hsnil hm=>
      by_cases h0 : ys.length = 0
      · obtain ⟨p1,p2⟩:=ph rfl h0
        have:=qa1 (P:=P) (w:=w) (ty:=ty) k.und g1 (base:=none) (sLen:=0) (sCap:=0) (by rw [g6];exact src1) q6 (w':=w) rfl
        refine ⟨_,w,_,this,?_,p1,p2⟩
        simp only [Nat.zero_add,h0]
        exact .hsnil q6
      · have:=qc9 (P:=P) (ty:=ty) h k.und k'.und g1 g3 g6 g7 g8 g9 gz hdrop hextd (base:=none) (cap:=0) (olds:=[]) (L0:=[]) qd .nil (rfl : J1 w none [] []) (cap':=cap') hl1 hr1 hs1 (by simp;omega) (by simpa using hroom) (b1:=b1) (by simpa using hr1')
        simpa using this
    | @hs _ _ _ _ cap adr hm hcl hsp hcap=>
      by_cases hg : len + ys.length≤cap
      · by_cases hc0 : cap = 0
        · obtain ⟨p1,p2⟩:=ph q6 q6
          have hL : L1 = []:=List.eq_nil_of_length_eq_zero (by rw [hl1,show ys.length = 0 by omega];simp)
          have:=qa1 (P:=P) (w:=w) (ty:=ty) k.und g1 (base:=some adr) (sLen:=len) (sCap:=cap) (by rw [g6];exact src1) hg (w':=w) (by subst hL;show (storeCells _ []).run P w = _;simp [storeCells])
          exact ⟨_,w,_,this,.hs q6 hg hsp (fun h=>absurd hc0 h),p1,p2⟩
        · obtain ⟨b,o,hi,rfl,hbig⟩:=hcap hc0
          exact qls (P:=P) (ty:=ty) h k.und k'.und g1 g6 g7 hb0 hr0 hle hi hbig hcl (cap':=cap') hl1 hr1 hs1 hg hr1'
      · have hold : ∃ L0 : List Value,L0.length = ((xs.drop off).take len).length * i.esize∧ERel w Z inj st.nx i.esize ((xs.drop off).take len) L0.toArray∧J1 w (some adr) L0 ((xs.drop off).take len):=by
          by_cases h0 : len = 0
          · subst h0
            exact ⟨[],qd,by simpa using ERel.nil,fun k u hu=>by simp at hu⟩
          · obtain ⟨b,o,hi,rfl,hbig⟩:=hcap q6
            rcases q3 with ⟨_,q4⟩ | ⟨b',o',arr,ty',q3,q4,q5⟩
            · rw [hi] at q4;cases q4
            · rw [hi] at q3;cases q3
              obtain ⟨L,l1,l2,l3⟩:=qek (w:=w) (Z:=Z) (inj:=inj) (nx:=st.nx) (b:=b) (o:=o + off * i.esize) (xs:=(xs.drop off).take len) g7 (qbt q2) (q5.cells q4)
              exact ⟨L,l1,l3,fun k u hu=>by rw [J3];exact l2 k u hu⟩
        obtain ⟨L0,a1,a2,a3⟩:=hold
        have:=qc9 (P:=P) (ty:=ty) h k.und k'.und g1 g3 g6 g7 g8 g9 gz hdrop hextd (base:=some adr) (cap:=cap) a1 a2 a3 (cap':=cap') hl1 hr1 hs1 (by rw [hlen];omega) (by rw [hlen];exact hroom) (b1:=b1) hr1'
        rw [hlen] at this
        exact this
  cases sv <;> simp only [Yk,reduceCtorEq] at ha
  case d x=>
    cases x <;> simp only [reduceCtorEq] at ha
    cases hsr with | d hsr=>
    cases hsr
    cases hcd : Yf st xv with
    | some ys=>
      simp only [hcd] at ha
      split at ha <;> try simp at ha
      rename_i hroom
      have hcv:=qct hcd
      by_cases h0 : ys = []
      · rw [if_pos h0] at ha;simp at ha;obtain ⟨rfl,rfl⟩:=ha
        exact ⟨_,w,inj,nilnil _ hcv rfl (by simpa using h0),.d .nilsl,h.heap,.refl,rfl,Nat.le_refl _⟩
      · rw [if_neg h0] at ha;simp at ha;obtain ⟨rfl,rfl⟩:=ha
        have:=nilcase _ (.dat i.esize ys) hcv rfl rfl (by simpa using hroom) (by simpa using h0)
        obtain ⟨x,w',inj',h1,h2,h3,h4⟩:=this
        exact ⟨x,w',inj',h1,by simpa [AS.new] using h2,h3,h4,rfl,by simp [AS.new]⟩
    | none=>
      simp only [hcd] at ha
      cases hcv : Yp st xv with
      | none=>simp [hcv] at ha
      | some ys=>
        simp only [hcv] at ha
        split at ha <;> try simp at ha
        rename_i hroom
        by_cases h0 : ys = []
        · rw [if_pos h0] at ha;simp at ha;obtain ⟨rfl,rfl⟩:=ha
          exact ⟨_,w,inj,nilnil _ hcv rfl (by simpa using h0),.d .nilsl,h.heap,.refl,rfl,Nat.le_refl _⟩
        · rw [if_neg h0] at ha;simp at ha;obtain ⟨rfl,rfl⟩:=ha
          obtain ⟨x,w',inj',h1,h2,h3,h4⟩:=nilcase _ (.cel i.esize ys) hcv rfl rfl hroom (by simpa using h0)
          exact ⟨x,w',inj',h1,by simpa [AS.new] using h2,h3,h4,rfl,by simp [AS.new]⟩
  case hs n es off len=>
    split at ha
    · rename_i k0 xs ys hb hcd
      split at ha <;> simp at ha
      rename_i hcond
      obtain ⟨c1,rfl,c3,rfl⟩:=hcond
      obtain ⟨rfl,rfl⟩:=ha
      have:=hscase n off len (xs.map (·.map .d)) (ys.map (·.map .d)) _ (.dat i.esize ((xs.drop off).take len ++ ys)) rfl hb rfl (by simpa using c1) (qct hcd) (by simp [rowsOf,List.map_take,List.map_drop]) (by simpa using c3)
      obtain ⟨x,w',inj',h1,h2,h3,h4⟩:=this
      exact ⟨x,w',inj',h1,by simpa [AS.new,AS.setBlk] using h2,h3,h4,rfl,by simp [AS.new,AS.setBlk]⟩
    · rename_i k0 xs hb hcd
      split at ha <;> try simp at ha
      rename_i ys hcv
      obtain ⟨⟨c1,rfl,c3,rfl⟩,rfl,rfl⟩:=ha
      have:=hscase n off len (xs.map (·.map .d)) ys _ (.cel i.esize ((((xs.map (·.map V.d)).drop off).take len) ++ ys)) rfl hb rfl (by simpa using c1) hcv rfl c3
      obtain ⟨x,w',inj',h1,h2,h3,h4⟩:=this
      exact ⟨x,w',inj',h1,by simpa [AS.new,AS.setBlk] using h2,h3,h4,rfl,by simp [AS.new,AS.setBlk]⟩
    · rename_i k0 xs hb
      split at ha <;> try simp at ha
      rename_i ys hcv
      obtain ⟨⟨c1,rfl,c3,rfl⟩,rfl,rfl⟩:=ha
      have:=hscase n off len xs ys _ (.cel i.esize ((xs.drop off).take len ++ ys)) rfl hb rfl c1 hcv rfl c3
      obtain ⟨x,w',inj',h1,h2,h3,h4⟩:=this
      exact ⟨x,w',inj',h1,by simpa [AS.new,AS.setBlk] using h2,h3,h4,rfl,by simp [AS.new,AS.setBlk]⟩
    · simp at ha
end
end Go.Am
namespace Go.Am
open Go
variable {P : Program} {T : Tab}
section
variable {w : World} {Z : Nat→Prop} {inj : Inj} {nx : Nat}
theorem RowV.spliceRows {arr : Array Value} {o es off : Nat} {xs ys : List (List V)} {L : List Value} (h : RowV w Z inj nx arr o es xs) (hl : ∀ (i : Nat) (x : List V),xs[i]? = some x→x.length = es) (hy : ERel w Z inj nx es ys L.toArray)
    (hle : off + ys.length≤xs.length) (hfit : o + off * es + L.length≤arr.size) : RowV w Z inj nx (splice arr.toList (o + off * es) L).toArray o es (splice xs off ys):=by
  have hL : L.length = ys.length * es:=by simpa using hy.1
  intro i x j d hx hd
  rw [Jd _ _ _ _ hle] at hx
  rw [List.getElem?_toArray,Jd _ _ _ _ (by simpa using hfit)]
  by_cases hi : off≤i∧i < off + ys.length
  · rw [if_pos hi] at hx
    obtain ⟨h1,c,h2,h3⟩:=hy.2.2 _ x j d hx hd
    have hj : j < es:=by have:=K4 hd;have:=hy.2.1 _ x hx;omega
    have hc:=q2j (K4 hx) hj
    have he : i * es = off * es + (i - off) * es:=by rw [← Nat.add_mul];congr 1;omega
    rw [if_pos q6]
    refine ⟨h1,c,?_,h3⟩
    rw [List.getElem?_toArray] at h2
    rw [← h2];congr 1;omega
  · rw [if_neg hi] at hx
    obtain ⟨h1,c,h2,h3⟩:=h i x j d hx hd
    have hj : j < es:=by have:=K4 hd;have:=hl _ x hx;omega
    refine ⟨h1,c,?_,h3⟩
    rw [if_neg ?_]
    · simpa using h2
    · intro hc
      by_cases h4 : i < off
      · have:=q2j h4 hj;omega
      · have h5 : (off + ys.length) * es≤i * es:=Nat.mul_le_mul_right _ q6
        rw [Nat.add_mul] at h5;omega
theorem ERel.take {es m : Nat} {xs : List (List V)} {L : List Value} (h : ERel w Z inj nx es xs L.toArray) (hm : m≤xs.length) : ERel w Z inj nx es (xs.take m) (L.take (m * es)).toArray:=by
  obtain ⟨h1,h2,h3⟩:=h
  simp only [List.size_toArray] at h1
  have:=Nat.mul_le_mul_right es hm
  refine ⟨by simp;rw [Nat.min_eq_left hm];omega,?_,?_⟩
  · intro i x hx
    rw [List.getElem?_take] at hx
    split at hx
    · exact h2 _ _ hx
    · simp at hx
  · intro i x j d hx hd
    rw [List.getElem?_take] at hx
    split at hx
    · rename_i hi
      obtain ⟨h4,c,h5,h6⟩:=h3 i x j d hx hd
      have hc:=q2j hi (show j < es by have:=K4 hd;have:=h2 _ x hx;omega)
      refine ⟨h4,c,?_,h6⟩
      rw [List.getElem?_toArray] at h5 ⊢
      rw [List.getElem?_take,if_pos hc];exact h5
    · simp at hx
end
section
variable {w : World} {Z : Nat→Prop} {inj : Inj} {st : AS} {a : Act} {Ds : List Nat}
theorem qqr {t u ty : TypeId} {i j : TI} {sv xv v : V} {vs vx : Value} {st1 : AS} (h : RelS w Z inj st a Ds) (ht : tiOf P t = some i) (_hu : tiOf P u = some j) (hik : i.kind = .slice) (_hjk : j.kind = .slice) (hfs : Zg i.esize sv = true) (hf : Zg i.esize xv = true)
    (hsr : RelV w Z inj st.nx sv vs) (hxr : RelV w Z inj st.nx xv vx) (ha : copyV st sv xv = some (v,st1)) :
    ∃ x w' inj',(Builtin.copy_ #[t,u] ty #[vs,vx]).run P w = .ok x w'∧RelV w' Z inj' st1.nx v x∧RelH w' Z inj' st1.hp st1.nx∧Ext w Z inj st.hp w' Z inj' st1.hp st.nx∧st1.sl = st.sl∧st.nx≤st1.nx:=by
  obtain ⟨info,d,z,k⟩:=Y9 ht
  have hk:=k.kind
  unfold Yr at hk
  simp only [hik] at hk
  obtain ⟨e,ie,de,ze,rfl,g1,g2,g3,g4,g5,g6,g7,g8,g9,_⟩:=hk
  cases sv <;> simp only [copyV,reduceCtorEq] at ha
  rename_i n es off len
  have hes:=Nat.eq_of_beq_eq_true hfs
  subst hes
  split at ha <;> try simp at ha
  rename_i k0 xs ys hb hcd
  obtain ⟨⟨hle,rfl⟩,rfl,rfl⟩:=ha
  obtain ⟨ad,cap',L1,rfl,hl1,hr1,hs1⟩:=qa7 h hxr (qct hcd) hf g7
  rw [List.length_map] at hl1 ⊢
  let m:=min ys.length len
  have hm : m = min ys.length len:=rfl
  rw [← hm]
  obtain ⟨q1,q2,q3⟩:=q5b (h.heap.blk n _ hb).2 rfl
  have hb0l : (xs.map (·.map V.d)).length = xs.length:=by simp
  have hmul : m * i.esize≤ys.length * i.esize:=Nat.mul_le_mul_right _ q6
  have hcells : (Builtin.firstCells i.esize m (.slice ad ys.length cap')).run P w = .ok (L1.take (m * i.esize)).toArray w:=by
    cases ad with
    | none=>
      have hnil : ys.map (·.map V.d) = []:=hs1
      have : ys = []:=by simpa using hnil
      subst this
      simp at hl1;subst hl1
      simp [Builtin.firstCells]
    | some p=>
      have:=run_loadCells_list (P:=P) w p (L1.take (m * i.esize)) (fun k u hu=>by
        rw [List.getElem?_take] at hu
        split at hu
        · exact hs1 k u hu
        · simp at hu)
      rw [List.length_take,Nat.min_eq_left q6] at this
      simpa [Builtin.firstCells] using this
  have hrest : ∀ base dlen dcap,dlen = len→vs = .slice base dlen dcap→∀ w',(match base with | some p=>(storeCells p (L1.take (m * i.esize))).run P w = .ok () w' | none=>w' = w)→
      (Builtin.copy_ #[t,u] ty #[vs,.slice ad ys.length cap']).run P w = .ok (.int .i64 m) w':=by
    rintro base dlen dcap rfl rfl w' hst
    have hc2:=hcells
    rw [← g6] at hc2
    have hmin : Nat.min ys.length dlen = m:=rfl
    cases base with
    | none=>
      subst hst
      simp [Builtin.copy_,run_underlying k.und,Builtin.lenOf,Yq g1,goInt,hmin,hc2]
    | some p=>
      have hst' : (storeCells p (L1.take (m * i.esize))).run P w = .ok () w':=hst
      rw [← g6] at hst'
      simp [Builtin.copy_,run_underlying k.und,Builtin.lenOf,Yq g1,hst',goInt,hmin,hc2]
  have hlive : live (.dat i.esize xs) = true:=rfl
  have same : m = 0→RelH w Z inj (repl st.hp n (.dat i.esize (splice xs off (ys.take m)))) st.nx∧Ext w Z inj st.hp w Z inj (repl st.hp n (.dat i.esize (splice xs off (ys.take m)))) st.nx:=by
    intro h0
    have hsp : splice xs off (ys.take m) = xs:=by rw [h0];simp [splice]
    rw [hsp]
    have hfind : ∀ q,find (repl st.hp n (.dat i.esize xs)) q = find st.hp q:=by
      intro q
      rw [Yl]
      by_cases hq : n = q
      · subst hq;have : find st.hp n = some (.dat i.esize xs):=hb;simp [this]
      · simp [hq]
    constructor
    · exact ⟨fun q b hq=>h.heap.blk q b (by rw [hfind] at hq;exact hq),fun q r b c p' q' h1 h2=>h.heap.sep q r b c p' q' (by rw [hfind] at h1;exact h1) (by rw [hfind] at h2;exact h2),fun q b p' h1=>h.heap.out q b p' (by rw [hfind] at h1;exact h1),h.heap.zs,h.heap.zc⟩
    · exact {Ext.refl (w:=w) (Z:=Z) (inj:=inj) (hp:=st.hp) (pin:=st.nx) with imm:=fun b hb=>by obtain ⟨q,blk,o,h1,h2,h3⟩:=hb;rw [hfind] at h1;exact .inl ⟨q,blk,o,h1,h2,h3⟩}
  have hint : ∀ w' inj' nx',RelV w' Z inj' nx' (.d (.int .i64 ((min ys.length len : Nat) : Int))) (.int .i64 (m : Nat)):=fun _ _ _=>.d (.int _ _)
  by_cases h0 : m = 0
  · obtain ⟨s1,s2⟩:=same h0
    cases hsr with
    | hsnil=>exact ⟨_,w,inj,hrest none _ _ rfl rfl w rfl,hint _ _ _,s1,s2,rfl,Nat.le_refl _⟩
    | @hs _ _ _ _ cap adr hn' hlc _ hcap=>exact ⟨_,w,inj,hrest (some adr) _ _ rfl rfl w (by show (storeCells _ _).run P w = _;rw [h0];simp [storeCells]),hint _ _ _,s1,s2,rfl,Nat.le_refl _⟩
  · cases hsr with
    | hsnil=>omega
    | @hs _ _ _ _ cap adr hn' hlc _ hcap=>
      obtain ⟨b,o,hi,rfl,hbig⟩:=hcap q6
      rcases q3 with ⟨_,q4⟩ | ⟨b',o',arr,ty',q3,q4,q5⟩
      · rw [hi] at q4;cases q4
      rw [hi] at q3;cases q3
      have hL : (L1.take (m * i.esize)).length = m * i.esize:=by rw [List.length_take,Nat.min_eq_left q6]
      have hERm:=hr1.take (m:=m) (by simp;omega)
      have hsz : o + (off + cap) * i.esize≤arr.size:=by
        obtain ⟨c,e2,f,k1,k2⟩:=hbig
        rw [q4] at k1;cases k1;exact k2
      have hmc : m * i.esize≤cap * i.esize:=Nat.mul_le_mul_right _ q6
      rw [Nat.add_mul] at hsz
      have hst:=run_storeCells_at P b (o + off * i.esize) ty' (L1.take (m * i.esize)) 0 arr w q4 (by rw [hL];omega) (hERm.one g7)
      simp only [Nat.add_zero] at hst
      have hsp : (arr.toList.take (o + off * i.esize) ++ L1.take (m * i.esize) ++ arr.toList.drop (o + off * i.esize + (L1.take (m * i.esize)).length)).toArray = (splice arr.toList (o + off * i.esize) (L1.take (m * i.esize))).toArray:=rfl
      rw [hsp] at hst
      have hfitL : o + off * i.esize + (L1.take (m * i.esize)).length≤arr.toList.length:=by rw [hL];simp;omega
      have hasz : (splice arr.toList (o + off * i.esize) (L1.take (m * i.esize))).toArray.size = arr.size:=by simp only [List.size_toArray];rw [q15 _ _ _ hfitL];simp
      have hz : ∀ b1,Z b1→(w.setRow b (splice arr.toList (o + off * i.esize) (L1.take (m * i.esize))).toArray).heap[b1]? = w.heap[b1]?:=fun b1 hz1=>
        setRow_other w b b1 _ (fun e=>h.heap.out n _ _ hb hlive hi (by rw [← e];exact hz1))
      have hkb:=q1q w b arr _ ty' (0,0) q4 hasz
      have hyl : (ys.take m).length = m:=by rw [List.length_take,Nat.min_eq_left q6]
      refine ⟨_,_,inj,hrest (some ⟨b,o + off * i.esize,none⟩) _ _ rfl rfl _ hst,hint _ _ _,?_,Ext.set h.heap hb hlive hi q4 hasz,rfl,Nat.le_refl _⟩
      refine h.heap.set hb hlive hi q4 hasz (q5a (es:=i.esize) (xs:=splice (xs.map (·.map V.d)) off ((ys.map (·.map V.d)).take m)) ?_ g7 ?_ (.inr ⟨b,o,_,ty',hi,setRow_heap w b _ _ _ _ q4,?_⟩))
      · simp only [rowsOf,splice,List.map_append,List.map_take,List.map_drop,Option.some.injEq,Prod.mk.injEq,true_and]
        rw [List.length_take,List.length_take,List.length_map]
      · intro i' x' hx'
        rw [Jd _ _ _ _ (by simp;omega)] at hx'
        split at hx'
        · exact hERm.2.1 _ _ hx'
        · exact q2 _ _ hx'
      · refine (q5.spliceRows q2 hERm (by simp;omega) (by rw [hL];omega)).mono fun v x hr=>hr.mono hz (fun _ h=>h) hkb (fun _ _=>rfl) (Nat.le_refl _)
theorem qqp {t ty : TypeId} {i : TI} {sv v : V} {vs : Value} {st1 : AS} (h : RelS w Z inj st a Ds) (ht : tiOf P t = some i) (hik : i.kind = .slice) (hfs : Zg i.esize sv = true) (hsr : RelV w Z inj st.nx sv vs) (ha : J5 st i sv = some (v,st1)) :
    ∃ x w' inj',(Builtin.clear_ #[t] ty #[vs]).run P w = .ok x w'∧RelV w' Z inj' st1.nx v x∧RelH w' Z inj' st1.hp st1.nx∧Ext w Z inj st.hp w' Z inj' st1.hp st.nx∧st1.sl = st.sl∧st.nx≤st1.nx:=by
  obtain ⟨info,d,z,k⟩:=Y9 ht
  have hk:=k.kind
  unfold Yr at hk
  simp only [hik] at hk
  obtain ⟨e,ie,de,ze,rfl,g1,g2,g3,g4,g5,g6,g7,g8,g9,_⟩:=hk
  have hz0 : ∀ w' inj' nx',RelV w' Z inj' nx' (.d (.tup [])) (.tuple #[]):=fun _ _ _=>.d (.tup qd qd)
  cases sv <;> simp only [J5,reduceCtorEq] at ha
  case d x=>
    cases x <;> simp only [reduceCtorEq,Option.some.injEq,Prod.mk.injEq] at ha
    obtain ⟨rfl,rfl⟩:=ha
    cases hsr with | d hsr=>
    cases hsr
    exact ⟨_,w,inj,by simp [Builtin.clear_,run_underlying k.und],hz0 _ _ _,h.heap,.refl,rfl,Nat.le_refl _⟩
  case hs n es off len=>
  have hes:=Nat.eq_of_beq_eq_true hfs
  subst hes
  split at ha <;> try simp at ha
  rename_i k0 xs hb
  obtain ⟨⟨hle,rfl⟩,rfl,rfl⟩:=ha
  obtain ⟨q1,q2,q3⟩:=q5b (h.heap.blk n _ hb).2 rfl
  have hlive : live (.dat i.esize xs) = true:=rfl
  by_cases h0 : len = 0
  · subst h0
    have hsp : splice xs off (List.replicate 0 i.ezero) = xs:=by simp [splice]
    have hfind : ∀ q,find (repl st.hp n (.dat i.esize (splice xs off (List.replicate 0 i.ezero)))) q = find st.hp q:=by
      intro q
      rw [hsp,Yl]
      by_cases hq : n = q
      · subst hq;have : find st.hp n = some (.dat i.esize xs):=hb;simp [this]
      · simp [hq]
    have s1 : RelH w Z inj (repl st.hp n (.dat i.esize (splice xs off (List.replicate 0 i.ezero)))) st.nx:=
      ⟨fun q b hq=>h.heap.blk q b (by rw [hfind] at hq;exact hq),fun q r b c p' q' h1 h2=>h.heap.sep q r b c p' q' (by rw [hfind] at h1;exact h1) (by rw [hfind] at h2;exact h2),fun q b p' h1=>h.heap.out q b p' (by rw [hfind] at h1;exact h1),h.heap.zs,h.heap.zc⟩
    have s2 : Ext w Z inj st.hp w Z inj (repl st.hp n (.dat i.esize (splice xs off (List.replicate 0 i.ezero)))) st.nx:=
      {Ext.refl (w:=w) (Z:=Z) (inj:=inj) (hp:=st.hp) (pin:=st.nx) with imm:=fun b hb=>by obtain ⟨q,blk,o,h1,h2,h3⟩:=hb;rw [hfind] at h1;exact .inl ⟨q,blk,o,h1,h2,h3⟩}
    cases hsr with
    | hsnil=>exact ⟨_,w,inj,by simp [Builtin.clear_,run_underlying k.und],hz0 _ _ _,s1,s2,rfl,Nat.le_refl _⟩
    | @hs _ _ _ _ cap adr hn' hlc _ hcap=>exact ⟨_,w,inj,by simp [Builtin.clear_,run_underlying k.und],hz0 _ _ _,s1,s2,rfl,Nat.le_refl _⟩
  · cases hsr with
    | hsnil=>omega
    | @hs _ _ _ _ cap adr hn' hlc _ hcap=>
      obtain ⟨b,o,hi,rfl,hbig⟩:=hcap q6
      rcases q3 with ⟨_,q4⟩ | ⟨b',o',arr,ty',q3,q4,q5⟩
      · rw [hi] at q4;cases q4
      rw [hi] at q3;cases q3
      obtain ⟨L1,hL1⟩ : ∃ L1,L1 = (Builtin.zeroCells ze.cells len).toList:=⟨_,rfl⟩
      have hzs : ze.cells.size = i.esize:=by
        have:=(q71 (w:=w) (Z:=Z) g4).1
        omega
      have hL : L1.length = len * i.esize:=by rw [hL1];simp [Builtin.zeroCells,hzs]
      have hERm : ERel w Z inj st.nx i.esize ((List.replicate len i.ezero).map (·.map V.d)) L1.toArray:=by
        refine ⟨by simp [hL],fun q x hx=>?_,fun q x j d hx hd=>?_⟩
        · rw [List.getElem?_map,List.getElem?_replicate] at hx
          split at hx <;> simp at hx
          rw [← hx];simpa using g5
        · rw [List.getElem?_map,List.getElem?_replicate] at hx
          split at hx <;> simp at hx
          rename_i hq
          subst hx
          rw [List.getElem?_map] at hd
          cases hd' : i.ezero[j]? with
          | none=>rw [hd'] at hd;cases hd
          | some d'=>
            rw [hd'] at hd;cases hd
            obtain ⟨c,hc,hr,hcell⟩:=qf4 (w:=w) (Z:=Z) g4 g5 hq hd'
            refine ⟨hcell,c,?_,.d hr⟩
            rw [hL1,Array.toArray_toList]
            unfold Builtin.zeroCells
            rw [hzs] at hc ⊢
            exact hc
      have hsz : o + (off + cap) * i.esize≤arr.size:=by
        obtain ⟨c,e2,f,k1,k2⟩:=hbig
        rw [q4] at k1;cases k1;exact k2
      have hmc : len * i.esize≤cap * i.esize:=Nat.mul_le_mul_right _ q6
      rw [Nat.add_mul] at hsz
      have hst:=run_storeCells_at P b (o + off * i.esize) ty' L1 0 arr w q4 (by rw [hL];omega) (hERm.one g7)
      simp only [Nat.add_zero] at hst
      have hsp : (arr.toList.take (o + off * i.esize) ++ L1 ++ arr.toList.drop (o + off * i.esize + L1.length)).toArray = (splice arr.toList (o + off * i.esize) L1).toArray:=rfl
      rw [hsp] at hst
      have hfitL : o + off * i.esize + L1.length≤arr.toList.length:=by rw [hL];simp;omega
      have hasz : (splice arr.toList (o + off * i.esize) L1).toArray.size = arr.size:=by simp only [List.size_toArray];rw [q15 _ _ _ hfitL];simp
      have hz : ∀ b1,Z b1→(w.setRow b (splice arr.toList (o + off * i.esize) L1).toArray).heap[b1]? = w.heap[b1]?:=fun b1 hz1=>
        setRow_other w b b1 _ (fun e=>h.heap.out n _ _ hb hlive hi (by rw [← e];exact hz1))
      have hkb:=q1q w b arr _ ty' (0,0) q4 hasz
      have hrun : (Builtin.clear_ #[t] ty #[.slice (some ⟨b,o + off * i.esize,none⟩) len cap]).run P w = .ok (.tuple #[]) (w.setRow b (splice arr.toList (o + off * i.esize) L1).toArray):=by
        obtain ⟨l,rfl⟩ : ∃ l,len = l + 1:=⟨len - 1,q6⟩
        have hzv : (zeroValue e).run P w = .ok ze w:=by simp [zeroValue,typeInfo,g1,g3]
        rw [hL1] at hst ⊢
        simp [Builtin.clear_,run_underlying k.und,hzv,hst]
      refine ⟨_,_,inj,hrun,hz0 _ _ _,?_,Ext.set h.heap hb hlive hi q4 hasz,rfl,Nat.le_refl _⟩
      refine h.heap.set hb hlive hi q4 hasz (q5a (es:=i.esize) (xs:=splice (xs.map (·.map V.d)) off ((List.replicate len i.ezero).map (·.map V.d))) ?_ g7 ?_ (.inr ⟨b,o,_,ty',hi,setRow_heap w b _ _ _ _ q4,?_⟩))
      · simp only [rowsOf,splice,List.map_append,List.map_take,List.map_drop,Option.some.injEq,Prod.mk.injEq,true_and]
        rw [List.length_map]
      · intro i' x' hx'
        rw [Jd _ _ _ _ (by simp;omega)] at hx'
        split at hx'
        · exact hERm.2.1 _ _ hx'
        · exact q2 _ _ hx'
      · refine (q5.spliceRows q2 hERm (by simp;omega) (by rw [hL];omega)).mono fun v x hr=>hr.mono hz (fun _ h=>h) hkb (fun _ _=>rfl) (Nat.le_refl _)
end
end Go.Am
