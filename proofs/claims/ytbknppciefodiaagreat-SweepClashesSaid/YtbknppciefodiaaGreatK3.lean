/- Am12 Am13 Am14 Am15 Am16 -/
import Derived.Test.YtbknppciefodiaaGreatK2
import Derived.Laws.MakeOwn
import Derived.Deep.AppendSrc
import Derived.Room.Entries
namespace Go.Am
open Go
variable {P : Program} {T : Tab}
theorem qgv {n : Int} (h : -9223372036854775808≤n∧n≤9223372036854775807) : IntKind.i64.wrap n = n:=by rw [IntKind.wrap_i64];omega
theorem qht {es i a j : Nat} (c : j < es) : (i * es≤a * es + j∧a * es + j < i * es + es)↔a = i:=by
  constructor
  · intro ⟨d,b⟩
    rcases Nat.lt_trichotomy a i with h | h | h
    · have:=Nat.mul_le_mul_right es (show a + 1≤i from h);rw [Nat.add_mul] at this;omega
    · exact h
    · have:=Nat.mul_le_mul_right es (show i + 1≤a from h);rw [Nat.add_mul] at this;omega
  · rintro rfl;omega
theorem q34 {es n i j : Nat} (hi : i < n) (a : j < es) : i * es + j < n * es:=by
  have:=Nat.mul_le_mul_right es (show i + 1≤n from hi);rw [Nat.add_mul] at this;omega
section
variable {w : World} {Z : Nat→Prop} {inj : Inj} {st : AS} {a : Act} {Ds : List Nat}
theorem qho {b y : Nat} {o : Option Operand} {n : Nat} {code : BoundsCode} (h : RelS w Z inj st a Ds) (hb : bound st b o = some n) (l : n≤y) :
    (∀ op,o = some op→(Instr.sliceBound (a.eval op) y code).run P w = .ok n w)∧(o = none→n = b):=by
  cases o with
  | none=>simp [bound] at hb;exact ⟨qe,fun _=>hb.symm⟩
  | some op=>
    refine ⟨fun j e=>?_,qe⟩
    cases e
    simp only [bound] at hb
    split at hb <;> try simp at hb
    rename_i k m f
    have c:=K2 h f
    generalize a.eval op = vx at c ⊢
    cases c with | d c=>
    cases c
    obtain ⟨g,rfl⟩:=hb
    simp only [Instr.sliceBound,asIntOf,Sem.run_bind,Sem.run_pure,Result.andThen_ok]
    rw [Sem.run_ite,if_pos ⟨g,q0⟩];rfl
theorem quf {t : TypeId} {i : TI} {x : Operand} {xv v : V} {lo hi : Option Operand} {n p q : Nat} (h : RelS w Z inj st a Ds) (ht : tiOf P t = some i) (hk : i.kind = .slice) (f : st.ev x = some xv) (l : lenV xv = some n)
    (al : bound st 0 lo = some p) (ai : bound st n hi = some q) (hs : qcm i.esize xv p q = some v) :
    Ka st st v w Z inj ((do pure (Next.value (← Instr.sliceAt t (a.eval x) (lo.map a.eval) (hi.map a.eval) none)) : Sem Next).run P w):=by
  obtain ⟨ar,d,z,k⟩:=Yh ht
  have ab:=k.kind
  unfold Z7 at ab
  simp only [hk] at ab
  obtain ⟨e,ie,de,ze,rfl,g1,g2,g3,g4,g5,g6,g7,_⟩:=ab
  have h3:=K2 h f
  generalize a.eval x = vx at h3 ⊢
  have run : ∀ ad len cap,len = n→q≤cap→p≤q→(Instr.sliceAt t (.slice ad len cap) (lo.map a.eval) (hi.map a.eval) none).run P w = .ok (.slice (if cap = p then ad else ad.map (·.add (p * i.esize))) (q - p) (cap - p)) w:=by
    intro ad len cap hl hq hp
    obtain ⟨l1,l2⟩:=qho (P:=P) (y:=q) (code:=.sliceB) h al hp
    obtain ⟨r1,r2⟩:=qho (P:=P) (y:=cap) (code:=.sliceAcap) h ai hq
    simp only [Instr.sliceAt,Sem.run_bind,run_underlying k.und,Result.andThen_ok,Instr.slice,Instr.sliceBounds,Z5 g1,g6]
    cases hi with
    | none=>
      have:=r2 rfl;subst this
      cases lo with
      | none=>have:=l2 rfl;subst this;simp [hl]
      | some o=>simp [hl,l1 o rfl]
    | some o'=>
      cases lo with
      | none=>have:=l2 rfl;subst this;simp [r1 o' rfl]
      | some o=>simp [r1 o' rfl,l1 o rfl]
  cases xv <;> simp only [qcm,reduceCtorEq] at hs
  case d x=>
    cases x <;> simp only [reduceCtorEq] at hs
    case nilsl=>
      split at hs <;> simp at hs
      rename_i u
      obtain ⟨rfl,rfl⟩:=u
      subst hs
      simp [lenV] at l
      cases h3 with | d h3=>
      cases h3
      exact .quiet h (K9 (run _ _ _ l q0 q0)) (by simpa using RelV.d .nilsl)
    case sl es xs=>
      split at hs <;> simp at hs
      rename_i u
      obtain ⟨u,h1,he⟩:=u
      subst hs
      simp [lenV] at l
      cases h3 with | d h3=>
      cases h3 with
      | slnil=>
        simp at h1 l
        obtain ⟨rfl,rfl⟩ : q = 0∧p = 0:=by omega
        exact .quiet h (K9 (run _ _ _ l q0 q0)) (by simpa using RelV.d (.slnil _))
      | slemp=>
        simp at h1 l
        obtain ⟨rfl,rfl⟩ : q = 0∧p = 0:=by omega
        exact .quiet h (K9 (run _ _ _ l q0 q0)) (by simpa using RelV.d (.slemp _ _))
      | @sl _ _ b o cap hc hz hl hcell hrel=>
        refine .quiet h (K9 (run _ _ _ l q0 u)) ?_
        have s : ((xs.drop p).take (q - p)).length = q - p:=by simp;omega
        have g : ∀ (i : Nat) (x : List DV),((xs.drop p).take (q - p))[i]? = some x→xs[p + i]? = some x:=by
          intro i x f
          rw [List.getElem?_take] at f
          split at f
          · rwa [List.getElem?_drop] at f
          · simp at f
        by_cases r : cap = p
        · rw [if_pos r]
          have h9 : (xs.drop p).take (q - p) = []:=List.eq_nil_of_length_eq_zero (by rw [s];omega)
          have h8 : q - p = 0:=by omega
          rw [h9,h8]
          exact .d (RelD.sl (es:=es) (xs:=[]) qe qe qe qe qe)
        · rw [if_neg r,Option.map_some,Jh]
          have e2 : ∀ k j,o + p * i.esize + (k * es + j) = o + ((p + k) * es + j):=by
            intro k j;rw [← he,Nat.add_mul];omega
          have:=RelD.sl (w:=w) (Z:=Z) (es:=es) (xs:=(xs.drop p).take (q - p)) (b:=b) (o:=o + p * i.esize) (cap:=cap - p) (by rw [s];omega) (fun ae=>hz (by rintro rfl;simp at ae)) (fun i x f=>hl _ _ (g i x f))
            (fun k x j d f hd=>by rw [e2];exact hcell _ _ j d (g k x f) hd)
            (fun k x j d c f hd hc=>hrel _ _ j d c (g k x f) hd (by rw [e2] at hc;exact hc))
          rw [s] at this
          exact .d this
  case hs m es off len=>
    split at hs <;> simp at hs
    rename_i u
    obtain ⟨u,h1,he⟩:=u
    subst hs
    simp [lenV] at l
    cases h3 with
    | hsnil hm=>
      obtain ⟨rfl,rfl⟩ : q = 0∧p = 0:=by omega
      exact .quiet h (K9 (run _ _ _ l q0 q0)) (by simpa using RelV.hsnil (es:=es) (off:=off) hm)
    | @hs _ _ _ _ cap ad hm hc hsp hcap=>
      refine .quiet h (K9 (run _ _ _ l q0 u)) ?_
      by_cases r : cap = p
      · rw [if_pos r]
        exact .hs hm q0 hsp (fun ae=>q0)
      · rw [if_neg r,Option.map_some]
        obtain ⟨b,o,hi,rfl,am⟩:=hcap q0
        rw [Jh]
        refine .hs hm q0 rfl fun _=>⟨b,o,hi,?_,?_⟩
        · rw [he,Nat.add_mul,← Nat.add_assoc]
        · rwa [show off + p + (cap - p) = off + cap by omega]
theorem qgy {b : Value} {es n i j : Nat} {ds : List DV} (k : b.cells.toList.mapM Zd = some ds) (o : ds.length = es) (hi : i < n) {d : DV} (hd : ds[j]? = some d) :
    ∃ c,((Array.range (n * es)).map (b.cells[· % b.cells.size]!))[i * es + j]? = some c∧RelD w Z d c∧Y6 d = true:=by
  obtain ⟨q,p⟩:=q8b (w:=w) (Z:=Z) k
  obtain ⟨c,a,l,f,_⟩:=p j d hd
  have h : j < es:=by have:=K3 hd;omega
  refine ⟨c,?_,l,f⟩
  have g:=q34 hi h
  rw [Array.getElem?_map,Array.getElem?_range]
  simp only [g,if_true,Option.map_some]
  have : (i * es + j) % b.cells.size = j:=by rw [← q,o,Nat.mul_comm,Nat.mul_add_mod,Nat.mod_eq_of_lt h]
  rw [this]
  have m : b.cells[j]! = b.cells[j]'(Yp a):=getElem!_pos b.cells j (Yp a)
  rw [m]
  exact congrArg some (Array.getElem?_eq_some_iff.1 a).2
theorem qud {t : TypeId} {i : TI} {l c : Operand} {v k2 : IntKind} {n m : Int} (h : RelS w Z inj st a Ds) (ht : tiOf P t = some i) (hk : i.kind = .slice) (hl : st.ev l = some (.d (.int v n))) (s : st.ev c = some (.d (.int k2 m)))
    (h0 : 0≤n) (h1 : n≤m) (r : m * (i.ebytes * 4)≤room) :
    Ka st (st.new (.dat i.esize (List.replicate n.toNat i.ezero))) (.hs st.nx i.esize 0 n.toNat) w Z inj ((do pure (Next.value (← Instr.makeSlice t (a.eval l) (a.eval c))) : Sem Next).run P w):=by
  obtain ⟨aa,d,z,k⟩:=Yh ht
  have g:=k.kind
  unfold Z7 at g
  simp only [hk] at g
  obtain ⟨e,ie,de,y,rfl,g1,g2,g3,g4,g5,g6,g7,g8,g9,_⟩:=g
  have p:=K2 h hl
  have q:=K2 h s
  generalize a.eval l = vl at p ⊢
  generalize a.eval c = vc at q ⊢
  cases p with | d p=>
  cases p
  cases q with | d q=>
  cases q
  have hm : m≤4294967296:=by
    have e1 : (1 : Int)≤(i.ebytes : Int) * 4:=by omega
    have:=Int.mul_le_mul_of_nonneg_left e1 (show (0:Int)≤m by omega)
    unfold room at r;omega
  have hb : (i.ebytes : Int) * m≤281474976710656:=by
    unfold room at r
    have : m * ((i.ebytes : Int) * 4) = (i.ebytes : Int) * m * 4:=by rw [← Int.mul_assoc,Int.mul_comm m]
    omega
  have w1 : IntKind.i64.wrap n = n:=qgv q0
  have w2 : IntKind.i64.wrap m = m:=qgv q0
  obtain ⟨N,rfl⟩:=Int.eq_ofNat_of_zero_le h0
  obtain ⟨M,rfl⟩:=Int.eq_ofNat_of_zero_le (show 0≤m by omega)
  simp only [Int.toNat_natCast]
  have f:=run_make (P:=P) w t e ie y k.und g1 g3 v k2 (N : Int) (M : Int) h0 h1 (by rw [g8];exact hb) q0
  simp only [Int.toNat_natCast,g6] at f
  have u : N≤M:=by omega
  refine .new h (K9 f) ?_ ?_
  · refine ⟨g7,?_,.inr ⟨w.heap.size,0,_,e,Ks _ _ _,Ji _ _,?_⟩⟩
    · intro j x b
      rw [List.getElem?_replicate] at b
      split at b <;> simp at b
      rw [← b];exact g5
    · intro j x j' d b hd
      rw [List.getElem?_replicate] at b
      split at b <;> simp at b
      rename_i hj
      subst b
      obtain ⟨c,s,r,o⟩:=qgy (w:=w.alloc (.cells (madeCells y.cells (M * i.esize)) e)) (Z:=Z) g4 g5 (show j < M by omega) hd
      exact ⟨o,c,by rw [Nat.zero_add];exact s,r⟩
  · refine .hs q0 u rfl fun _=>⟨w.heap.size,0,Ks _ _ _,qe,?_⟩
    exact ⟨_,_,_,Ji _ _,by rw [size_madeCells];simp⟩
def ERel (w : World) (Z : Nat→Prop) (inj : Inj) (nx es : Nat) (xs : List (List V)) (C : Array Value) : Prop:=
  C.size = xs.length * es∧(∀ (i : Nat) (x : List V),xs[i]? = some x→x.length = es)∧
    ∀ (i : Nat) (x : List V) (j : Nat) (d : V),xs[i]? = some x→x[j]? = some d→Kc d = true∧∃ c,C[i * es + j]? = some c∧RelV w Z inj nx d c
theorem qin {es : Nat} : ∀ {f : List (Nat × V)} {l : List (Nat × List V)},elems es f = some l→l.length = f.length∧∀ (k i : Nat) (v : V),f[k]? = some (i,v)→(cellsOf v).length = es∧(cellsOf v).all Kc = true∧l[k]? = some (i,cellsOf v)
  | [],l,h=>by simp [elems] at h;subst h;simp
  | (i,v)::r,l,h=>by
    simp only [elems] at h
    split at h
    · rename_i l' n
      split at h
      · rename_i g
        simp at h;subst h
        obtain ⟨p,m⟩:=qin n
        refine ⟨by simp [p],fun k j o d=>?_⟩
        cases k with
        | zero=>simp at d;obtain ⟨rfl,rfl⟩:=d;exact ⟨g.1,g.2,qe⟩
        | succ k=>simp at d;obtain ⟨a,b,c⟩:=m k j o d;exact ⟨a,b,by simpa using c⟩
      · simp at h
    · simp at h
theorem ERel.set {w : World} {nx es : Nat} {xs : List (List V)} {C k : Array Value} {ys : List V} {i : Nat} (h : ERel w Z inj nx es xs C) (n : LRel w Z inj nx ys k) (o : ys.length = es) (p : ys.all Kc = true) (hi : i < xs.length) :
    ERel w Z inj nx es (xs.set i ys) (Am.splice C.toList (i * es) k.toList).toArray:=by
  obtain ⟨r,q,v⟩:=h
  have g : k.toList.length = es:=by have:=n.1;simp;omega
  have f : i * es + k.toList.length≤C.toList.length:=by
    rw [g,Array.length_toList,r]
    have:=Nat.mul_le_mul_right es (show i + 1≤xs.length from hi);rw [Nat.add_mul] at this;omega
  refine ⟨by simp [q1r _ _ _ f,r],?_,?_⟩
  · intro j x a
    rw [List.getElem?_set] at a
    by_cases b : i = j
    · rw [if_pos b,if_pos q0] at a
      simp at a;rw [← a];exact o
    · rw [if_neg b] at a;exact q j x a
  · intro j x l d a hd
    rw [List.getElem?_set] at a
    by_cases b : i = j
    · subst b
      rw [if_pos rfl,if_pos hi] at a
      simp at a;subst a
      have s:=K3 hd
      obtain ⟨c,m⟩:=Kt (xs:=k) (i:=l) (by have:=n.1;omega)
      refine ⟨List.all_eq_true.1 p _ (List.mem_of_getElem? hd),c,?_,n.2 _ _ _ hd m⟩
      rw [List.getElem?_toArray,Ju _ _ _ _ f,if_pos (by rw [g];omega),show i * es + l - i * es = l by omega]
      simpa using m
    · rw [if_neg b] at a
      obtain ⟨u,c,t,y⟩:=v j x l d a hd
      refine ⟨u,c,?_,y⟩
      rw [List.getElem?_toArray,Ju _ _ _ _ f,if_neg ?_]
      · simpa using t
      · rw [g]
        intro m
        exact b ((qht (by have:=K3 hd;have:=q j x a;omega)).1 m).symm
theorem qiz {w : World} {nx es : Nat} : ∀ (f : List (Nat × V)) (xs : List (Nat × Value)) (l : List (Nat × List V)) (cs c : List (List V)) (C : Array Value),
    f.length = xs.length→(∀ (k : Nat) (i : Nat) (v : V),f[k]? = some (i,v)→∃ x,xs[k]? = some (i,x)∧RelV w Z inj nx v x)→
    l.length = f.length→(∀ (k : Nat) (i : Nat) (v : V),f[k]? = some (i,v)→(cellsOf v).length = es∧(cellsOf v).all Kc = true∧l[k]? = some (i,cellsOf v))→
    ERel w Z inj nx es cs C→q36 cs l = some c→∃ n,Instr.fill (fun i=>some (i * es,es)) C xs = some n∧ERel w Z inj nx es c n∧c.length = cs.length
  | [],xs,l,cs,c,C,h1,_,h3,_,h5,h6=>by
    have : xs = []:=by cases xs <;> simp_all
    have : l = []:=by cases l <;> simp_all
    subst_vars
    simp [q36] at h6;subst h6
    exact ⟨C,by simp [Instr.fill],h5,rfl⟩
  | (i,v)::f,xs,l,cs,c,C,h1,h2,h3,h4,h5,h6=>by
    match xs,l,h1,h3 with
    | (i',x)::xs,(o',ys)::l,h1,h3=>
      obtain ⟨x',h,u⟩:=h2 0 i v rfl
      simp at h;obtain ⟨rfl,rfl⟩:=h
      obtain ⟨hl,s,g⟩:=h4 0 i' v rfl
      simp at g;obtain ⟨rfl,rfl⟩:=g
      obtain ⟨y,t,q3⟩:=qbf u s
      simp only [q36] at h6
      split at h6
      · rename_i d
        obtain ⟨n,o,j,m⟩:=qiz f xs l (cs.set o' (cellsOf v)) c (splice C.toList (o' * es) x.cells.toList).toArray (by simpa using h1)
          (fun k i v r=>by obtain ⟨x,q⟩:=h2 (k + 1) i v (by simpa using r);exact ⟨x,by simpa using q⟩) (by simpa using h3)
          (fun k i v r=>by obtain ⟨a,b,q⟩:=h4 (k + 1) i v (by simpa using r);exact ⟨a,b,by simpa using q⟩)
          (h5.set ⟨y,t⟩ hl s d) h6
        refine ⟨n,?_,j,by simpa using m⟩
        have z : o' * es + es≤C.size:=by
          rw [h5.1]
          have:=Nat.mul_le_mul_right es (show o' + 1≤cs.length from d);rw [Nat.add_mul] at this;omega
        have p : x.cells.size = es:=by omega
        simp only [Instr.fill,p]
        have : ¬ ((decide (es≠es) || decide (o' * es + es > C.size)) = true):=by simp;omega
        rw [if_neg (by simpa using this)]
        rw [qj7 x.cells C (o' * es) q0]
        exact o
      · simp at h6
theorem qtz {t : TypeId} {i : TI} {len : Nat} {r : Array (Nat × Operand)} {y : List (Nat × V)} {l : List (Nat × List V)} {xs : List (List V)} (h : RelS w Z inj st a Ds) (ht : tiOf P t = some i) (hv : Zy st.ev r.toList = some y)
    (hl : elems i.esize y = some l) (hk : i.kind = .slice) (ag : len * i.esize≤16777216) (hf : q36 (List.replicate len (i.ezero.map .d)) l = some xs) :
    Ka st (st.new (q5d i.esize xs)) (.hs st.nx i.esize 0 len) w Z inj ((do pure (Next.value (← Instr.buildSlice t len (r.map fun (i,x)=>(i,a.eval x)))) : Sem Next).run P w):=by
  obtain ⟨an,d,z,k⟩:=Yh ht
  have m:=k.kind
  unfold Z7 at m
  simp only [hk] at m
  obtain ⟨e,ie,de,p,rfl,g1,g2,g3,g4,g5,g6,g7,g8,g9,_⟩:=m
  obtain ⟨p1,p2⟩:=qix h hv
  obtain ⟨q1,q2⟩:=qin hl
  have af : ∀ (k i : Nat) (v : V),y[k]? = some (i,v)→∃ x,(r.toList.map fun (x : Nat × Operand)=>(x.1,a.eval x.2))[k]? = some (i,x)∧RelV w Z inj st.nx v x:=by
    intro k i v hk
    obtain ⟨o,ho,n⟩:=p2 k i v hk
    exact ⟨a.eval o,by simp only [List.getElem?_map,ho];rfl,n⟩
  have ac : ERel w Z inj st.nx i.esize (List.replicate len (i.ezero.map .d)) ((Array.range (len * i.esize)).map (p.cells[· % p.cells.size]!)):=by
    refine ⟨qe,?_,?_⟩
    · intro j x b
      rw [List.getElem?_replicate] at b
      split at b <;> simp at b
      rw [← b];simpa using g5
    · intro j x j' d b hd
      rw [List.getElem?_replicate] at b
      split at b <;> simp at b
      rename_i hj
      subst b
      simp only [List.getElem?_map,Option.map_eq_some_iff] at hd
      obtain ⟨d',ae,rfl⟩:=hd
      obtain ⟨c,hc,n,g⟩:=qgy (w:=w) (Z:=Z) g4 g5 hj ae
      exact ⟨g,c,hc,.d n⟩
  obtain ⟨C',hC,n,u⟩:=qiz y (r.toList.map fun (x : Nat × Operand)=>(x.1,a.eval x.2)) l _ xs _ (by simp [p1]) af q1 q2 ac hf
  have q : Instr.fill (fun j=>some (j * i.esize,i.esize)) ((Array.range (len * i.esize)).map (p.cells[· % p.cells.size]!)) (r.map fun (x : Nat × Operand)=>(x.1,a.eval x.2)).toList = some C':=by simpa using hC
  have s : (Instr.buildSlice t len (r.map fun (i,x)=>(i,a.eval x))).run P w = .ok (.slice (some ⟨w.heap.size,0,none⟩) len len) (w.alloc (.cells C' e)):=by
    have hn : ¬ (len * i.esize > 2 ^ 24):=by omega
    have f : (do let x ← newRow e C';pure (Value.slice (some x) len len) : Sem Value).run P w = .ok (.slice (some ⟨w.heap.size,0,none⟩) len len) (w.alloc (.cells C' e)):=by simp [newRow]
    by_cases hz : len * i.esize = 0
    · simp only [Instr.buildSlice,Sem.run_bind,run_underlying k.und,Result.andThen_ok,Z5 g1,g6]
      rw [hz] at q ⊢
      rw [if_neg q0,if_pos rfl]
      simp only [Sem.run_bind,Sem.run_pure,Result.andThen_ok]
      have e0 : Array.map (fun x=>(#[] : Array Value)[x % (#[] : Array Value).size]!) (Array.range 0) = Array.map (fun x=>p.cells[x % p.cells.size]!) (Array.range 0):=by simp
      rw [e0]
      simp only [q]
      exact f
    · simp only [Instr.buildSlice,Sem.run_bind,run_underlying k.und,Result.andThen_ok,Z5 g1,g6]
      rw [if_neg hn,if_neg hz]
      have ad : (zeroValue e).run P w = .ok p w:=by simp [zeroValue,typeInfo,g1,g3]
      simp only [Sem.run_bind,ad,Sem.run_pure,Result.andThen_ok]
      simp only [q]
      exact f
  have ai : xs.length = len:=by simpa using u
  refine .new h (K9 s) ?_ ?_
  · refine qm2 g7 (Ks _ _ _) (Ji _ _) n.2.1 ?_
    intro j x j' d b hd
    obtain ⟨h1,c,h2,h3⟩:=n.2.2 j x j' d b hd
    exact ⟨h1,c,h2,qm6 h _ h3⟩
  · refine .hs q0 (Nat.le_refl _) rfl fun _=>⟨w.heap.size,0,Ks _ _ _,qe,?_⟩
    exact ⟨_,_,_,Ji _ _,by rw [n.1,ai];simp⟩
end
end Go.Am
namespace Go.Am
open Go
variable {P : Program} {T : Tab}
def RowV (w : World) (Z : Nat→Prop) (inj : Inj) (nx : Nat) (arr : Array Value) (o es : Nat) (xs : List (List V)) : Prop:=
  ∀ (i : Nat) (x : List V) (j : Nat) (d : V),xs[i]? = some x→x[j]? = some d→Kc d = true∧∃ c,arr[o + (i * es + j)]? = some c∧RelV w Z inj nx d c
section
variable {w : World} {Z : Nat→Prop} {inj : Inj} {nx : Nat}
theorem RowV.mono {w' : World} {inj' : Inj} {nx' : Nat} {arr : Array Value} {o es : Nat} {xs : List (List V)} (h : RowV w Z inj nx arr o es xs) (a : ∀ v x,RelV w Z inj nx v x→RelV w' Z inj' nx' v x) : RowV w' Z inj' nx' arr o es xs:=
  fun i x j d b hd=>let ⟨h1,c,h2,h3⟩:=h i x j d b hd;⟨h1,c,h2,a _ _ h3⟩
def rowsOf : Blk→Option (Nat × List (List V))
  | .dat es xs=>some (es,xs.map (·.map .d))
  | .cel es xs=>some (es,xs)
  | _=>none
theorem q68 {n : Nat} {b : Blk} {es : Nat} {xs : List (List V)} (h : RelB w Z inj nx n b) (k : rowsOf b = some (es,xs)) :
    es≠0∧(∀ (i : Nat) (x : List V),xs[i]? = some x→x.length = es)∧((xs = []∧inj n = none)∨∃ b o arr ty,inj n = some (b,o)∧w.heap[b]? = some (.cells arr ty (0,0))∧RowV w Z inj nx arr o es xs):=by
  cases b <;> simp only [rowsOf,reduceCtorEq,Option.some.injEq,Prod.mk.injEq] at k
  · obtain ⟨rfl,rfl⟩:=k
    obtain ⟨q,p,a⟩:=h
    refine ⟨q,?_,?_⟩
    · intro i x f
      simp only [List.getElem?_map,Option.map_eq_some_iff] at f
      obtain ⟨y,g,rfl⟩:=f
      simpa using p i y g
    · rcases a with ⟨a,m⟩ | ⟨b,o,arr,ty,a,m,s⟩
      · exact .inl ⟨by simp [a],m⟩
      · refine .inr ⟨b,o,arr,ty,a,m,fun i x j d f hd=>?_⟩
        simp only [List.getElem?_map,Option.map_eq_some_iff] at f
        obtain ⟨y,g,rfl⟩:=f
        simp only [List.getElem?_map,Option.map_eq_some_iff] at hd
        obtain ⟨t,l,rfl⟩:=hd
        obtain ⟨v,c,r,u⟩:=s i y j t g l
        exact ⟨v,c,r,.d u⟩
  · obtain ⟨rfl,rfl⟩:=k
    obtain ⟨q,p,a⟩:=h
    exact ⟨q,p,a⟩
theorem q67 {n : Nat} {b : Blk} {es : Nat} {xs : List (List V)} (a : rowsOf b = some (es,xs)) (m : es≠0) (l : ∀ (i : Nat) (x : List V),xs[i]? = some x→x.length = es)
    (h : (xs = []∧inj n = none)∨∃ b o arr ty,inj n = some (b,o)∧w.heap[b]? = some (.cells arr ty (0,0))∧RowV w Z inj nx arr o es xs) : RelB w Z inj nx n b:=by
  cases b <;> simp only [rowsOf,reduceCtorEq,Option.some.injEq,Prod.mk.injEq] at a
  · obtain ⟨rfl,rfl⟩:=a
    rename_i xs
    refine ⟨m,fun i x g=>?_,?_⟩
    · have:=l i (x.map .d) (by simp [g]);simpa using this
    · rcases h with ⟨k,f⟩ | ⟨b,o,arr,ty,k,f,q⟩
      · exact .inl ⟨by simpa using k,f⟩
      · refine .inr ⟨b,o,arr,ty,k,f,fun i x j d g hd=>?_⟩
        obtain ⟨s,c,p,r⟩:=q i (x.map .d) j (.d d) (by simp [g]) (by simp [hd])
        refine ⟨s,c,p,?_⟩
        cases r with | d h=>exact h
  · obtain ⟨rfl,rfl⟩:=a
    exact ⟨m,l,h⟩
theorem RowV.set {arr k : Array Value} {o es e j : Nat} {xs : List (List V)} {cs ys : List V} (h : RowV w Z inj nx arr o es xs) (y : ∀ (i : Nat) (x : List V),xs[i]? = some x→x.length = es) (v : xs[e]? = some cs) (q : LRel w Z inj nx ys k) (r : ys.all Kc = true)
    (hj : j + ys.length≤cs.length) (m : o + (e * es + j) + k.size≤arr.size) : RowV w Z inj nx (splice arr.toList (o + (e * es + j)) k.toList).toArray o es (xs.set e (splice cs j ys)):=by
  have ab : k.toList.length = ys.length:=by have:=q.1;simp;omega
  have b : o + (e * es + j) + k.toList.length≤arr.toList.length:=by simpa using m
  have z:=y e cs v
  intro i x a d g hd
  rw [List.getElem?_toArray,Ju _ _ _ _ b]
  rw [List.getElem?_set] at g
  by_cases f : e = i
  · subst f
    rw [if_pos rfl,if_pos (K3 v)] at g
    simp at g;subst g
    rw [Ju _ _ _ _ hj] at hd
    by_cases l : j≤a∧a < j + ys.length
    · rw [if_pos l] at hd
      obtain ⟨c,n⟩:=Kt (xs:=k) (i:=a - j) (by have:=q.1;omega)
      rw [if_pos q0,show o + (e * es + a) - (o + (e * es + j)) = a - j by omega]
      exact ⟨List.all_eq_true.1 r _ (List.mem_of_getElem? hd),c,by simpa using n,q.2 _ _ _ hd n⟩
    · rw [if_neg l] at hd
      rw [if_neg q0]
      obtain ⟨u,c,s,t⟩:=h e cs a d v hd
      exact ⟨u,c,by simpa using s,t⟩
  · rw [if_neg f] at g
    obtain ⟨u,c,s,t⟩:=h i x a d g hd
    refine ⟨u,c,?_,t⟩
    have p : a < es:=by have:=K3 hd;have:=y i x g;omega
    rw [if_neg ?_]
    · simpa using s
    · intro n
      exact f ((qht (i:=e) p).1 q0).symm
end
section
variable {w : World} {Z : Nat→Prop} {inj : Inj} {st : AS} {a : Act} {Ds : List Nat}
theorem q121 {t : TypeId} {a : TypeInfo} {x : Value} {b o : Nat} {arr : Array Value} {ty : TypeId} (hi : P.info? t = some a) (hs : x.cells.size = a.size) (f : ∀ c∈x.cells.toList,c.oneCell' = true)
    (hb : w.heap[b]? = some (.cells arr ty (0,0))) (d : o + x.cells.size≤arr.size) :
    (Instr.storeAt t (.pointer (some ⟨b,o,none⟩)) x).run P w = .ok () (w.setRow b (splice arr.toList o x.cells.toList).toArray):=by
  have:=run_storeCells_at P b o ty x.cells.toList 0 arr w hb (by simpa using d) f
  simp only [Nat.add_zero] at this
  simp only [Instr.storeAt,Instr.sureAddr,storeVar,Sem.run_bind,Sem.run_pure,Result.andThen_ok,Z5 hi,Sem.run_ite]
  rw [if_neg q0]
  exact this
theorem qug {t : TypeId} {i : TI} {p x : Operand} {pv v : V} {st1 : AS} (h : RelS w Z inj st a Ds) (ht : tiOf P t = some i) (hp : st.ev p = some pv) (hx : st.ev x = some v) (hs : J8 st i pv v = some st1) :
    Ka st st1 .dead w Z inj ((do Instr.storeAt t (a.eval p) (a.eval x);pure .skip : Sem Next).run P w):=by
  obtain ⟨av,d,z,k⟩:=Yh ht
  have af:=K2 h hp
  have ad:=K2 h hx
  generalize a.eval p = vp at af ⊢
  generalize a.eval x = vx at ad ⊢
  cases pv <;> simp only [J8,reduceCtorEq] at hs
  rename_i n k0 e j
  split at hs <;> try simp at hs
  rename_i r
  have bb : (cellsOf v).length = i.size:=by
    apply Classical.byContradiction;intro hc;exact r (.inl hc)
  have aj : (cellsOf v).all Kc = true:=by
    cases hc : (cellsOf v).all Kc with
    | true=>rfl
    | false=>exact absurd (.inr hc) r
  cases af with | @ref _ _ _ _ b o hn hi=>
  have key : ∀ (b0 : Blk) (es : Nat) (xs : List (List V)) (cs : List V) (b1 : Blk),st.blk n = some b0→rowsOf b0 = some (es,xs)→es = k0→xs[e]? = some cs→j + i.size≤cs.length→rowsOf b1 = some (es,xs.set e (splice cs j (cellsOf v)))→st1 = st.setBlk n b1→
      Ka st st1 .dead w Z inj ((do Instr.storeAt t (.pointer (some ⟨b,o + (e * k0 + j),none⟩)) vx;pure .skip : Sem Next).run P w):=by
    rintro b0 es xs cs b1 s ak rfl g f al rfl
    obtain ⟨g1,g2,g3⟩:=q68 (h.heap.blk n b0 s).2 ak
    rcases g3 with ⟨g3,_⟩ | ⟨b',o',arr,ty,g3,g4,g5⟩
    · subst g3;simp at g
    · rw [hi] at g3;cases g3
      obtain ⟨c1,c2,c3⟩:=qbf ad aj
      have l : live b0 = true:=by cases b0 <;> simp_all [rowsOf,live]
      have ap:=g2 e cs g
      have bc : 0 < es:=by omega
      have aq : o + (e * es + (es - 1)) < arr.size:=by
        obtain ⟨d0,ao⟩:=Z8 (xs:=cs) (i:=es - 1) q0
        obtain ⟨_,c,hc,_⟩:=g5 e cs (es - 1) d0 g ao
        exact Yp hc
      have m : o + (e * es + j) + vx.cells.size≤arr.size:=by omega
      have ag:=q121 (P:=P) (w:=w) k.inf (x:=vx) (by rw [k.size];omega) c3 g4 m
      have y : (splice arr.toList (o + (e * es + j)) vx.cells.toList).toArray.size = arr.size:=by
        simp only [List.size_toArray]
        rw [q1r _ _ _ (by simpa using m)];simp
      have hz : ∀ b1,Z b1→(w.setRow b (splice arr.toList (o + (e * es + j)) vx.cells.toList).toArray).heap[b1]? = w.heap[b1]?:=fun b1 au=>
        setRow_other w b b1 _ (fun e=>h.heap.out n b0 _ s l hi (by rw [← e];exact au))
      have an:=q2c w b arr _ ty (0,0) g4 y
      refine ⟨undef,_,inj,.inr ⟨by simp [ag],rfl⟩,.dead _,?_,Ext.set h.heap s l hi g4 y,rfl,Nat.le_refl _⟩
      refine h.heap.set s l hi g4 y (q67 al g1 ?_ (.inr ⟨b,o,_,ty,hi,setRow_heap w b _ _ _ _ g4,?_⟩))
      · intro i' x' q
        rw [List.getElem?_set] at q
        by_cases ah : e = i'
        · rw [if_pos ah,if_pos (by have:=K3 g;omega)] at q
          simp at q;rw [← q,q1r _ _ _ q0];exact ap
        · rw [if_neg ah] at q;exact g2 _ _ q
      · exact (g5.set g2 g ⟨c1,c2⟩ aj q0 m).mono fun v x hr=>hr.mono hz (fun _ h=>h) an (fun _ _=>rfl) (Nat.le_refl _)
  cases hb : st.blk n with
  | none=>simp [hb] at hs
  | some blk=>
    cases blk with
    | dead=>simp [hb] at hs
    | loop=>simp [hb] at hs
    | mp=>simp [hb] at hs
    | dat es xs=>
      simp only [hb] at hs
      split at hs <;> try simp at hs
      rename_i cs u aa
      have u:=Nat.eq_of_beq_eq_true u
      have g : (xs.map (·.map V.d))[e]? = some (cs.map V.d):=by simp [aa]
      split at hs
      · rename_i ds am
        simp at hs
        obtain ⟨f,hs⟩:=hs
        refine key _ _ _ _ _ hb rfl u.symm g (by simpa using f) ?_ hs.symm
        simp only [rowsOf,Option.some.injEq,Prod.mk.injEq,true_and]
        rw [q4q am]
        simp [splice,List.map_set,List.map_take,List.map_drop]
      · simp at hs
        obtain ⟨f,hs⟩:=hs
        exact key _ _ _ _ _ hb rfl u.symm g (by simpa using f) rfl hs.symm
    | cel es xs=>
      simp only [hb] at hs
      split at hs <;> try simp at hs
      rename_i cs u aa
      have u:=Nat.eq_of_beq_eq_true u
      obtain ⟨f,hs⟩:=hs
      exact key _ _ _ _ _ hb rfl u.symm aa f rfl hs.symm
end
end Go.Am
namespace Go.Am
open Go
variable {P : Program} {T : Tab}
section
variable {w : World} {Z : Nat→Prop} {inj : Inj} {nx : Nat}
def Je (w : World) (ad : Option Addr) (L : List Value) (ys : List (List V)) : Prop:=match ad with
  | some p=>∀ (k : Nat) (u : Value),L[k]? = some u→w.cell? (p.add k) = some u
  | none=>ys = []
theorem qg4 {b o es : Nat} {xs : List (List V)} (t : es≠0) (n : ∀ (i : Nat) (x : List V),xs[i]? = some x→x.length = es)
    (h : ∀ (i : Nat) (x : List V) (j : Nat) (d : V),xs[i]? = some x→x[j]? = some d→Kc d = true∧∃ c,w.cell? ⟨b,o + (i * es + j),none⟩ = some c∧RelV w Z inj nx d c) :
    ∃ L : List Value,L.length = xs.length * es∧(∀ (k : Nat) (u : Value),L[k]? = some u→w.cell? ⟨b,o + k,none⟩ = some u)∧ERel w Z inj nx es xs L.toArray:=by
  have g : ∀ k,k < xs.length * es→∃ i x j d c,xs[i]? = some x∧x[j]? = some d∧k = i * es + j∧w.cell? ⟨b,o + k,none⟩ = some c∧RelV w Z inj nx d c:=by
    intro k a
    have q : k / es < xs.length:=Nat.div_lt_of_lt_mul (by rwa [Nat.mul_comm])
    have p : k % es < es:=Nat.mod_lt _ q0
    obtain ⟨x,f⟩:=Z8 q
    obtain ⟨d,hd⟩:=Z8 (xs:=x) (i:=k % es) (by rw [n _ _ f];exact p)
    obtain ⟨_,c,l,r⟩:=h _ _ _ _ f hd
    have a : k = k / es * es + k % es:=by rw [Nat.mul_comm];exact (Nat.div_add_mod k es).symm
    exact ⟨_,_,_,_,c,f,hd,a,by rw [a];exact l,r⟩
  refine ⟨(List.range (xs.length * es)).map fun k=>(w.cell? ⟨b,o + k,none⟩).getD undef,qe,?_,?_⟩
  · intro k u m
    have a : k < xs.length * es:=by have:=K3 m;simpa using this
    obtain ⟨_,_,_,_,c,_,_,_,l,_⟩:=g k a
    simp [a,l] at m;rw [l,m]
  · refine ⟨qe,n,fun i x j d f hd=>?_⟩
    obtain ⟨q,c,p,s⟩:=h i x j d f hd
    have a:=q34 (K3 f) (show j < es by have:=K3 hd;have:=n i x f;omega)
    exact ⟨q,c,by simp [a,p],s⟩
theorem ERel.append {es : Nat} {xs ys : List (List V)} {A B : Array Value} (h : ERel w Z inj nx es xs A) (k : ERel w Z inj nx es ys B) : ERel w Z inj nx es (xs ++ ys) (A ++ B):=by
  obtain ⟨l,m,p⟩:=h
  obtain ⟨b1,n,o⟩:=k
  refine ⟨by simp [l,b1,Nat.add_mul],?_,?_⟩
  · intro i x a
    rw [List.getElem?_append] at a
    split at a
    · exact m _ _ a
    · exact n _ _ a
  · intro i x j d a hd
    rw [List.getElem?_append] at a
    split at a
    · obtain ⟨g,c,b,f⟩:=p i x j d a hd
      exact ⟨g,c,by rw [Array.getElem?_append_left (Yp b)];exact b,f⟩
    · rename_i hi
      obtain ⟨g,c,b,f⟩:=o _ x j d a hd
      refine ⟨g,c,?_,f⟩
      have e : i * es + j = A.size + ((i - xs.length) * es + j):=by
        rw [l,← Nat.add_assoc,← Nat.add_mul];congr 2;omega
      rw [e,Array.getElem?_append_right q0,show A.size + ((i - xs.length) * es + j) - A.size = (i - xs.length) * es + j by omega]
      exact b
theorem ERel.row {es : Nat} {xs : List (List V)} {A B : Array Value} (h : ERel w Z inj nx es xs A) : RowV w Z inj nx (A ++ B) 0 es xs:=by
  intro i x j d b hd
  obtain ⟨g,c,a,f⟩:=h.2.2 i x j d b hd
  exact ⟨g,c,by rw [Nat.zero_add,Array.getElem?_append_left (Yp a)];exact a,f⟩
theorem ERel.one {es : Nat} {xs : List (List V)} {L : List Value} (p : es≠0) (h : ERel w Z inj nx es xs L.toArray) : ∀ u∈L,u.oneCell' = true:=by
  intro u j
  obtain ⟨k,f⟩:=List.mem_iff_getElem?.1 j
  have n:=K3 f
  have g : L.length = xs.length * es:=by simpa using h.1
  have o : k / es < xs.length:=Nat.div_lt_of_lt_mul (by rw [Nat.mul_comm];omega)
  obtain ⟨x,b⟩:=Z8 o
  obtain ⟨d,hd⟩:=Z8 (xs:=x) (i:=k % es) (by rw [h.2.1 _ _ b];exact Nat.mod_lt _ q0)
  obtain ⟨m,c,a,l⟩:=h.2.2 _ _ _ _ b hd
  have e : k / es * es + k % es = k:=by rw [Nat.mul_comm];exact Nat.div_add_mod k es
  rw [e] at a
  simp [f] at a;subst a
  exact qfr l m
theorem ERel.mono {w' : World} {inj' : Inj} {nx' es : Nat} {xs : List (List V)} {A : Array Value} (h : ERel w Z inj nx es xs A) (a : ∀ v x,RelV w Z inj nx v x→RelV w' Z inj' nx' v x) : ERel w' Z inj' nx' es xs A:=
  ⟨h.1,h.2.1,fun i x j d b hd=>let ⟨h1,c,h2,h3⟩:=h.2.2 i x j d b hd;⟨h1,c,h2,a _ _ h3⟩⟩
theorem ERel.nil {es : Nat} : ERel w Z inj nx es [] #[]:=⟨qe,qe,qe⟩
theorem RowV.cells {arr : Array Value} {ty : TypeId} {b o es off len : Nat} {xs : List (List V)} (h : RowV w Z inj nx arr o es xs) (hb : w.heap[b]? = some (.cells arr ty (0,0))) :
    ∀ (i : Nat) (x : List V) (j : Nat) (d : V),((xs.drop off).take len)[i]? = some x→x[j]? = some d→Kc d = true∧∃ c,w.cell? ⟨b,o + off * es + (i * es + j),none⟩ = some c∧RelV w Z inj nx d c:=by
  intro i x j d a hd
  rw [List.getElem?_take] at a
  split at a
  · rw [List.getElem?_drop] at a
    obtain ⟨k,c,f,g⟩:=h _ x j d a hd
    refine ⟨k,c,?_,g⟩
    simp only [World.cell?,hb]
    rw [← f]
    simp only [Option.isSome_none,Bool.false_eq_true,if_false]
    rw [Nat.add_mul];congr 1;omega
  · simp at a
theorem qd9 {es off len : Nat} {xs : List (List V)} (b : ∀ (i : Nat) (x : List V),xs[i]? = some x→x.length = es) : ∀ (i : Nat) (x : List V),((xs.drop off).take len)[i]? = some x→x.length = es:=by
  intro i x a
  rw [List.getElem?_take] at a
  split at a
  · rw [List.getElem?_drop] at a;exact b _ _ a
  · simp at a
end
section
variable {w : World} {Z : Nat→Prop} {inj : Inj} {st : AS} {a : Act} {Ds : List Nat}
theorem qec {x : V} {ys : List (List DV)} (h : Yo st x = some ys) : Yx st x = some (ys.map (·.map .d)):=by
  unfold Yo at h
  split at h
  · simp at h;subst h;rfl
  · simp at h;subst h;rfl
  · split at h <;> try simp at h
    rename_i hb
    obtain ⟨a,rfl⟩:=h
    simp [Yx,hb,a]
  · simp at h
theorem qbh {x : V} {xv : Value} {es : Nat} {ys : List (List V)} (h : RelS w Z inj st a Ds) (l : RelV w Z inj st.nx x xv) (f : Yx st x = some ys) (hf : Zo es x = true) (r : es≠0) :
    ∃ (m : Option Addr) (cap : Nat) (L : List Value),xv = .slice m ys.length cap∧L.length = ys.length * es∧ERel w Z inj st.nx es ys L.toArray∧Je w m L ys:=by
  unfold Yx at f
  split at f
  · simp at f;subst f
    cases l with | d l=>
    cases l
    exact ⟨none,0,[],rfl,qe,.nil,(rfl : Je w none [] [])⟩
  · rename_i g xs
    simp at f;subst f
    have he:=Nat.eq_of_beq_eq_true hf
    subst he
    cases l with | d l=>
    cases l with
    | slnil=>exact ⟨none,0,[],rfl,qe,.nil,(rfl : Je w none [] [])⟩
    | slemp _ m=>exact ⟨some m,0,[],rfl,qe,.nil,fun k u q=>by simp at q⟩
    | @sl _ _ b o cap p h2 h3 h4 h5=>
      obtain ⟨L,l1,l2,l3⟩:=qg4 (w:=w) (Z:=Z) (inj:=inj) (nx:=st.nx) (b:=b) (o:=o) (xs:=xs.map (·.map V.d)) r
        (fun i x l=>by simp only [List.getElem?_map,Option.map_eq_some_iff] at l;obtain ⟨y,hy,rfl⟩:=l;simpa using h3 i y hy)
        (fun i x j d l hd=>by
          simp only [List.getElem?_map,Option.map_eq_some_iff] at l;obtain ⟨y,hy,rfl⟩:=l
          simp only [List.getElem?_map,Option.map_eq_some_iff] at hd;obtain ⟨d',t,rfl⟩:=hd
          obtain ⟨g1,c,g2⟩:=h4 i y j d' hy t
          exact ⟨g1,c,g2,.d (h5 i y j d' c hy t g2)⟩)
      exact ⟨some ⟨b,o,none⟩,cap,L,qe,l1,l3,fun k u q=>by rw [Jh];exact l2 k u q⟩
  · rename_i n g off len
    have he:=Nat.eq_of_beq_eq_true hf
    subst he
    have key : ∀ (b0 : Blk) (xs : List (List V)),st.blk n = some b0→rowsOf b0 = some (g,xs)→off + len≤xs.length→ys = (xs.drop off).take len→
        ∃ (m : Option Addr) (cap : Nat) (L : List Value),xv = .slice m ys.length cap∧L.length = ys.length * g∧ERel w Z inj st.nx g ys L.toArray∧Je w m L ys:=by
      rintro b0 xs hb hr ao rfl
      have v : ((xs.drop off).take len).length = len:=by simp;omega
      obtain ⟨g1,g2,s⟩:=q68 (h.heap.blk n b0 hb).2 hr
      cases l with
      | hsnil=>
        have : (xs.drop off).take 0 = []:=by simp
        rw [this]
        exact ⟨none,0,[],rfl,qe,.nil,(rfl : Je w none [] [])⟩
      | @hs _ _ _ _ cap m hn f _ hcap=>
        by_cases h0 : len = 0
        · subst h0
          have : (xs.drop off).take 0 = []:=by simp
          rw [this]
          exact ⟨some m,cap,[],rfl,qe,.nil,fun k u q=>by simp at q⟩
        · obtain ⟨b,o,hi,rfl,ak⟩:=hcap q0
          rcases s with ⟨s,z⟩ | ⟨b',o',arr,ty,s,z,g5⟩
          · rw [hi] at z;cases z
          · rw [hi] at s;cases s
            obtain ⟨L,l1,l2,l3⟩:=qg4 (w:=w) (Z:=Z) (inj:=inj) (nx:=st.nx) (b:=b) (o:=o + off * g) (xs:=(xs.drop off).take len) r (qd9 g2) (g5.cells z)
            exact ⟨some ⟨b,o + off * g,none⟩,cap,L,by rw [v],l1,l3,fun k u q=>by rw [Jh];exact l2 k u q⟩
    split at f
    · rename_i k xs hb
      split at f <;> try simp at f
      rename_i p
      obtain ⟨p,rfl⟩:=p
      subst f
      refine key _ (xs.map (·.map V.d)) hb rfl (by simpa using p) qe
    · rename_i k xs hb
      split at f <;> try simp at f
      rename_i p
      obtain ⟨p,rfl⟩:=p
      subst f
      exact key _ xs hb rfl p rfl
    · simp at f
  · simp at f
theorem qam {es n : Nat} {tx g : TypeId} {b : Option Addr} {cap : Nat} {ys : List (List V)} {L : List Value} (f : es≠0) (d : P.underlying tx = some (.slice g)) (j : n = ys.length) (a : L.length = ys.length * es)
    (h : ERel w Z inj st.nx es ys L.toArray) (c : Je w b L ys) : Src P es tx (.slice b ys.length cap) n L w:=by
  subst j
  refine ⟨.inl ⟨g,d⟩,fun w'=>by simp [Builtin.lenOf],?_,?_,a,h.one f⟩
  · cases b with
    | none=>subst c;simp at a;subst a;simp [Builtin.firstCells]
    | some p=>
      have:=run_loadCells_list (P:=P) w p L c
      rw [a] at this
      simpa [Builtin.firstCells] using this
  · cases b with
    | none=>subst c;simp at a;subst a;simp [Builtin.firstCells]
    | some p=>
      have:=run_loadCells_list (P:=P) w.drew p L c
      rw [a] at this
      simpa [Builtin.firstCells] using this
theorem qba {t tx ty e : TypeId} {i : TypeInfo} (d : P.underlying t = some (.slice e)) (hi : P.info? e = some i) {base : Option Addr} {sLen sCap : Nat} {x : Value} {n : Nat} {news : List Value} (hs : Src P i.size tx x n news w) (a : sLen + n≤sCap)
    {w' : World} (b : match base with | some p=>(storeCells (p.add (sLen * i.size)) news).run P w = .ok () w' | none=>w' = w) :
    (Builtin.append_ #[t,tx] ty #[.slice base sLen sCap,x]).run P w = .ok (.slice base (sLen + n) sCap) w':=by
  cases base with
  | none=>subst b;rcases hs.kind with ⟨f,c⟩ | c <;> simp [Builtin.append_,run_underlying d,run_underlying c,sizeOf,typeInfo,hi,hs.len,a,hs.cells]
  | some p=>rcases hs.kind with ⟨f,c⟩ | c <;> simp [Builtin.append_,run_underlying d,run_underlying c,sizeOf,typeInfo,hi,hs.len,a,hs.cells,b]
end
end Go.Am
namespace Go.Am
open Go
variable {P : Program} {T : Tab}
section
variable {w : World} {Z : Nat→Prop} {inj : Inj}
theorem RelH.newPh {hp : List (Nat × Blk)} {nx : Nat} (d : RelH w Z inj hp nx) (blk : Blk) (hb : RelB w Z (upd inj nx none) (nx + 1) nx blk) : RelH w Z (upd inj nx none) ((nx,blk)::hp) (nx + 1):=by
  refine ⟨?_,?_,?_,d.zs,d.zc⟩
  · intro n b h
    rw [Kk] at h
    by_cases a : nx = n
    · subst a;simp at h;subst h;exact ⟨q0,hb⟩
    · simp only [a,if_false] at h
      obtain ⟨j,g⟩:=d.blk n b h
      exact ⟨q0,g.mono (fun _ _=>rfl) (fun _ h=>h) (Sem.keepBig_of_same rfl) (fun m f=>Y4 _ _ f) q0 j (fun _ _ _=>rfl)⟩
  · intro n m b c p q a f r l hp k o
    rw [Kk] at a f
    by_cases j : nx = n
    · subst j;rw [Ks] at hp;cases hp
    · by_cases g : nx = m
      · subst g;rw [Ks] at k;cases k
      · simp only [j,g,if_false] at a f
        rw [Y4 _ _ (d.blk n b a).1] at hp
        rw [Y4 _ _ (d.blk m c f).1] at k
        exact d.sep n m b c p q a f r l hp k o
  · intro n b p h s hp
    rw [Kk] at h
    by_cases a : nx = n
    · subst a;rw [Ks] at hp;cases hp
    · simp only [a,if_false] at h
      rw [Y4 _ _ (d.blk n b h).1] at hp
      exact d.out n b p h s hp
theorem Ext.newPh {hp : List (Nat × Blk)} {nx : Nat} (l : RelH w Z inj hp nx) (blk : Blk) : Ext w Z inj hp w Z (upd inj nx none) ((nx,blk)::hp) nx:=by
  refine ⟨Nat.le_refl _,fun _ _ _=>rfl,?_,fun _ c e f h=>⟨c,e,f,h,rfl⟩,fun _ r h=>⟨r,h,rfl⟩,fun _ h=>h,fun _ h=>.inl h,fun n k=>Y4 _ _ k,rfl,rfl,rfl,fun _=>rfl⟩
  rintro b ⟨n,a,d,j,m,g⟩
  rw [Kk] at j
  by_cases k : nx = n
  · subst k;rw [Ks] at g;cases g
  · simp only [k,if_false] at j
    rw [Y4 _ _ (l.blk n a j).1] at g
    exact .inl ⟨n,a,d,j,m,g⟩
theorem RelH.move {hp : List (Nat × Blk)} {nx n : Nat} (f : RelH w Z inj hp nx) {y blk : Blk} (z : find hp n = some y) (l : live y = true) {g off x : Nat} (hi : inj n = some (g,off)) {old cs : Array Value} {t : TypeId} {fr : Nat × Nat}
    (hg : w.heap[g]? = some (.cells old t fr)) (hs : cs.size = old.size) (hb : RelB (w.setRow g cs) Z (upd inj nx (some (g,x))) (nx + 1) nx blk) :
    RelH (w.setRow g cs) Z (upd inj nx (some (g,x))) ((nx,blk)::repl hp n .dead) (nx + 1):=by
  have ad : ∀ b,Z b→b≠g:=fun b r e=>f.out n y _ z l hi (by rw [← e];exact r)
  have key : ∀ m b,find (repl hp n .dead) m = some b→live b = true→find hp m = some b∧n≠m:=by
    intro m b h hl
    rw [Yt] at h
    by_cases a : n = m
    · subst a;simp [z] at h;subst h;simp [live] at hl
    · simp only [a,if_false] at h;exact ⟨h,a⟩
  have o : ∀ m b,find (repl hp n .dead) m = some b→m < nx:=by
    intro m b h
    rw [Yt] at h
    by_cases a : n = m
    · subst a;exact (f.blk n y z).1
    · simp only [a,if_false] at h;exact (f.blk m b h).1
  refine ⟨?_,?_,?_,fun b r=>by simpa using f.zs b r,fun b r=>by rw [setRow_other w g b cs (ad b r)];exact f.zc b r⟩
  · intro m b h
    rw [Kk] at h
    by_cases a : nx = m
    · subst a;simp at h;subst h;exact ⟨q0,hb⟩
    · simp only [a,if_false] at h
      refine ⟨by have:=o m b h;omega,?_⟩
      by_cases hl : live b = true
      · obtain ⟨u,s⟩:=key m b h hl
        obtain ⟨h3,h4⟩:=f.blk m b u
        refine h4.mono (fun b r=>setRow_other w g b cs (ad b r)) (fun _ h=>h) (q2c w g old cs t fr hg hs) (fun _ hk=>Y4 _ _ hk) q0 h3 ?_
        intro p hp' ak
        exact setRow_other w g p.1 cs (fun e=>f.sep n m y b _ _ z u l hl hi hp' s e.symm)
      · have : b = .dead:=by cases b <;> simp_all [live]
        subst this;trivial
  · intro m k b c p q u s ab v j d ae
    rw [Kk] at u s
    by_cases a : nx = m
    · subst a
      rw [Ks] at j;cases j
      simp only [ae,if_false] at s
      obtain ⟨h3,h4⟩:=key k c s v
      rw [Y4 _ _ (o k c s)] at d
      exact fun e=>f.sep n k y c (g,off) q z h3 l v hi d h4 e
    · simp only [a,if_false] at u
      obtain ⟨h3,h4⟩:=key m b u ab
      rw [Y4 _ _ (o m b u)] at j
      by_cases hk : nx = k
      · subst hk
        rw [Ks] at d;cases d
        exact fun e=>f.sep n m y b (g,off) p z h3 l ab hi j h4 e.symm
      · simp only [hk,if_false] at s
        obtain ⟨h5,h6⟩:=key k c s v
        rw [Y4 _ _ (o k c s)] at d
        exact f.sep m k b c p q h3 h5 ab v j d ae
  · intro m b p h hl hp' r
    rw [Kk] at h
    by_cases a : nx = m
    · subst a;rw [Ks] at hp';cases hp';exact f.out n y _ z l hi r
    · simp only [a,if_false] at h
      obtain ⟨u,_⟩:=key m b h hl
      rw [Y4 _ _ (o m b h)] at hp'
      exact f.out m b p u hl hp' r
theorem Ext.move {hp : List (Nat × Blk)} {nx n : Nat} (u : RelH w Z inj hp nx) {k blk : Blk} (q : find hp n = some k) (f : live k = true) {g off d : Nat} (hi : inj n = some (g,off)) {old cs : Array Value} {t : TypeId} {o : Nat × Nat}
    (p : w.heap[g]? = some (.cells old t o)) (hs : cs.size = old.size) : Ext w Z inj hp (w.setRow g cs) Z (upd inj nx (some (g,d))) ((nx,blk)::repl hp n .dead) nx:=by
  refine ⟨qe,?_,?_,q2c w g old cs t o p hs,qk7 w g old cs t o p,fun _ h=>h,fun _ h=>.inl h,fun m j=>Y4 _ _ j,rfl,rfl,rfl,qjh w g old cs t o p⟩
  · intro b _ hb
    exact setRow_other w g b cs (fun e=>hb (by rw [e];exact ⟨n,k,off,q,f,hi⟩))
  · rintro b ⟨m,a,v,c,r,l⟩
    rw [Kk] at c
    by_cases j : nx = m
    · subst j;rw [Ks] at l;cases l;exact .inl ⟨n,k,off,q,f,hi⟩
    · simp only [j,if_false] at c
      rw [Yt] at c
      by_cases s : n = m
      · subst s;simp [q] at c;subst c;simp [live] at r
      · simp only [s,if_false] at c
        rw [Y4 _ _ (u.blk m a c).1] at l
        exact .inl ⟨m,a,v,c,r,l⟩
end
section
variable {w : World} {Z : Nat→Prop} {inj : Inj} {st : AS} {a : Act} {Ds : List Nat}
theorem qrq {a cap b : Nat} (c : cap < a) (d : a * (b * 4)≤room) : Builtin.nextslicecap a cap * b≤281474976710656:=by
  have f:=Nat.mul_le_mul_right b (Room.nextslicecap_le' c)
  have g : 2 * a * b≤a * (b * 4):=by rw [Nat.mul_comm b 4,← Nat.mul_assoc];exact Nat.mul_le_mul_right b q0
  unfold room at d;omega
theorem qt3 {a b : Nat} (hb : b≠0) (c : a * (b * 4)≤room) : a≤4294967296:=by
  have : a * 1≤a * (b * 4):=Nat.mul_le_mul_left _ q0
  unfold room at c;omega
theorem qdp {t u ty : TypeId} {i : TI} {e e' : TypeId} {o : TypeInfo} {m : Value} (_h : RelS w Z inj st a Ds) (hu : P.underlying t = some (.slice e)) (ab : P.underlying u = some (.slice e')) (g1 : P.info? e = some o) (g3 : o.zero = some m)
    (g6 : o.size = i.esize) (g7 : i.esize≠0) (g8 : o.bytes = i.ebytes) (g9 : i.ebytes≠0) (gz : m.cells.size = i.esize) {hp1 : List (Nat × Blk)} (hh : RelH w Z inj hp1 st.nx) (y : Ext w Z inj st.hp w Z inj hp1 st.nx)
    {base ad : Option Addr} {cap cap' : Nat} {olds ys : List (List V)} {L0 g : List Value} (s : L0.length = olds.length * i.esize) (p : ERel w Z inj st.nx i.esize olds L0.toArray) (ae : Je w base L0 olds)
    (n : g.length = ys.length * i.esize) (r : ERel w Z inj st.nx i.esize ys g.toArray) (aa : Je w ad g ys) (hg : cap < olds.length + ys.length) (f : (olds.length + ys.length) * (i.ebytes * 4)≤room)
    {b1 : Blk} (ag : rowsOf b1 = some (i.esize,olds ++ ys)) :
    ∃ x w' inj',(Builtin.append_ #[t,u] ty #[.slice base olds.length cap,.slice ad ys.length cap']).run P w = .ok x w'∧RelV w' Z inj' (st.nx + 1) (.hs st.nx i.esize 0 (olds.length + ys.length)) x∧RelH w' Z inj' ((st.nx,b1)::hp1) (st.nx + 1)∧
      Ext w Z inj st.hp w' Z inj' ((st.nx,b1)::hp1) st.nx:=by
  have k:=qam (P:=P) (tx:=t) (cap:=cap) g7 hu rfl s p ae
  have j:=qam (P:=P) (tx:=u) (cap:=cap') g7 ab rfl n r aa
  rw [← g6] at k j
  have ar:=qt3 g9 f
  have l:=qrq hg f
  rw [← g8] at l
  have d:=run_append_grow_src (P:=P) w t u ty e o m hu g1 g3 base olds.length cap L0 k.cellsD (.slice ad ys.length cap') ys.length g j hg q0 l
  have z:=grownCap_ge w (olds.length + ys.length) cap e
  generalize grownCap w (olds.length + ys.length) cap e = C at d z
  generalize hA : (L0 ++ g).toArray ++ Builtin.zeroCells m.cells (C - (olds.length + ys.length)) = A at d
  have c : RelH w.drew Z inj hp1 st.nx:=hh.same rfl
  have q : ERel w Z inj st.nx i.esize (olds ++ ys) (L0.toArray ++ g.toArray):=p.append r
  have mono : ∀ v x,RelV w Z inj st.nx v x→RelV (w.drew.alloc (.cells A e)) Z (upd inj st.nx (some (w.heap.size,0))) (st.nx + 1) v x:=fun v x hv=>
    hv.mono (fun b hz=>Zl w.drew _ (hh.zs b hz)) (fun _ h=>h) (q2b w.drew _) (fun _ hm=>Y4 _ _ hm) q0
  refine ⟨_,_,upd inj st.nx (some (w.heap.size,0)),d,?_,?_,?_⟩
  · refine .hs q0 z rfl fun _=>⟨w.heap.size,0,Ks _ _ _,qe,A,e,(0,0),Ji w.drew _,?_⟩
    have h1 : A.size = L0.length + g.length + (C - (olds.length + ys.length)) * i.esize:=by
      rw [← hA];simp [Builtin.zeroCells,gz]
    rw [h1,s,n,← Nat.add_mul,← Nat.add_mul]
    simp only [Nat.zero_add]
    exact Nat.mul_le_mul_right _ q0
  · refine c.new (.cells A e) b1 0 ?_
    refine q67 ag g7 q.2.1 (.inr ⟨w.heap.size,0,A,e,Ks _ _ _,Ji w.drew _,?_⟩)
    have h9:=(q.row (B:=Builtin.zeroCells m.cells (C - (olds.length + ys.length)))).mono mono
    rw [show L0.toArray ++ g.toArray ++ Builtin.zeroCells m.cells (C - (olds.length + ys.length)) = A from by rw [← hA];simp] at h9
    exact h9
  · refine y.trans ?_ (Nat.le_refl _)
    have e1 : Ext w Z inj hp1 w.drew Z inj hp1 st.nx:=Ext.same rfl rfl rfl rfl
    exact e1.trans (Ext.new c (.cells A e) b1 0) (Nat.le_refl _)
theorem qoq {t u ty : TypeId} {i : TI} {e e' : TypeId} {ie : TypeInfo} (h : RelS w Z inj st a Ds) (hu : P.underlying t = some (.slice e)) (bd : P.underlying u = some (.slice e')) (g1 : P.info? e = some ie)
    (g6 : ie.size = i.esize) (g7 : i.esize≠0) {n off len cap cap' b o : Nat} {b0 b1 : Blk} {xs ys : List (List V)} (y : st.blk n = some b0) (ap : rowsOf b0 = some (i.esize,xs)) (bj : off + len≤xs.length)
    (hi : inj n = some (b,o)) (al : Big w b (o + (off + cap) * i.esize)) (_hlc : len≤cap)
    {ad : Option Addr} {g : List Value} (ah : g.length = ys.length * i.esize) (q : ERel w Z inj st.nx i.esize ys g.toArray) (aq : Je w ad g ys) (hg : len + ys.length≤cap)
    (az : rowsOf b1 = some (i.esize,(xs.drop off).take len ++ ys)) :
    ∃ x w' inj',(Builtin.append_ #[t,u] ty #[.slice (some ⟨b,o + off * i.esize,none⟩) len cap,.slice ad ys.length cap']).run P w = .ok x w'∧RelV w' Z inj' (st.nx + 1) (.hs st.nx i.esize 0 (len + ys.length)) x∧
      RelH w' Z inj' ((st.nx,b1)::repl st.hp n .dead) (st.nx + 1)∧Ext w Z inj st.hp w' Z inj' ((st.nx,b1)::repl st.hp n .dead) st.nx:=by
  have aj:=qam (P:=P) (tx:=u) (cap:=cap') g7 bd rfl ah q aq
  obtain ⟨q1,q2,q3⟩:=q68 (h.heap.blk n b0 y).2 ap
  rcases q3 with ⟨_,s⟩ | ⟨b',o',arr,ae,q3,s,q5⟩
  · rw [hi] at s;cases s
  rw [hi] at q3;cases q3
  have k : live b0 = true:=by cases b0 <;> simp_all [rowsOf,live]
  have ax : o + (off + cap) * i.esize≤arr.size:=by
    obtain ⟨c,e2,f,k1,k2⟩:=al
    rw [s] at k1;cases k1;exact k2
  have bb : g.length = ys.length * i.esize:=ah
  have am : (len + ys.length) * i.esize≤cap * i.esize:=Nat.mul_le_mul_right _ hg
  rw [Nat.add_mul] at am ax
  have m : o + off * i.esize + len * i.esize + g.length≤arr.size:=by omega
  have ab:=run_storeCells_at P b (o + off * i.esize + len * i.esize) ae g 0 arr w s (by simpa using m) (q.one g7)
  simp only [Nat.add_zero] at ab
  have av : (arr.toList.take (o + off * i.esize + len * i.esize) ++ g ++ arr.toList.drop (o + off * i.esize + len * i.esize + g.length)).toArray = (splice arr.toList (o + off * i.esize + len * i.esize) g).toArray:=rfl
  rw [av] at ab
  have ai:=qba (P:=P) (w:=w) (ty:=ty) hu g1 (base:=some ⟨b,o + off * i.esize,none⟩) (sLen:=len) (sCap:=cap) (x:=.slice ad ys.length cap') (n:=ys.length) (news:=g) (by rw [g6];exact aj) hg
    (w':=w.setRow b (splice arr.toList (o + off * i.esize + len * i.esize) g).toArray) (by show (storeCells ((⟨b,o + off * i.esize,none⟩ : Addr).add (len * ie.size)) g).run P w = _;rw [Jh,g6];exact ab)
  have r : o + off * i.esize + len * i.esize + g.length≤arr.toList.length:=by simpa using m
  have p : (splice arr.toList (o + off * i.esize + len * i.esize) g).toArray.size = arr.size:=by simp [q1r _ _ _ r]
  have hz : ∀ b1,Z b1→(w.setRow b (splice arr.toList (o + off * i.esize + len * i.esize) g).toArray).heap[b1]? = w.heap[b1]?:=fun b1 bg=>
    setRow_other w b b1 _ (fun e=>h.heap.out n b0 _ y k hi (by rw [← e];exact bg))
  have ay:=q2c w b arr _ ae (0,0) s p
  have mono : ∀ v x,RelV w Z inj st.nx v x→RelV (w.setRow b (splice arr.toList (o + off * i.esize + len * i.esize) g).toArray) Z (upd inj st.nx (some (b,o + off * i.esize))) (st.nx + 1) v x:=fun v x hv=>
    hv.mono hz (fun _ h=>h) ay (fun _ hm=>Y4 _ _ hm) q0
  have z : ((xs.drop off).take len).length = len:=by simp;omega
  refine ⟨_,_,upd inj st.nx (some (b,o + off * i.esize)),ai,?_,?_,Ext.move h.heap y k hi s p⟩
  · refine .hs q0 hg rfl fun _=>⟨b,o + off * i.esize,Ks _ _ _,qe,_,_,_,setRow_heap w b _ _ _ _ s,?_⟩
    rw [p];simp only [Nat.zero_add];omega
  · refine h.heap.move y k hi s p (q67 az g7 ?_ (.inr ⟨b,o + off * i.esize,_,ae,Ks _ _ _,setRow_heap w b _ _ _ _ s,?_⟩))
    · intro j x l
      rw [List.getElem?_append] at l
      split at l
      · exact qd9 q2 j x l
      · exact q.2.1 _ _ l
    · intro j x j' d l hd
      rw [List.getElem?_toArray,Ju _ _ _ _ r]
      rw [List.getElem?_append] at l
      split at l
      · rename_i hj
        rw [z] at hj
        have aw:=qd9 q2 j x l
        have aa : j' < i.esize:=by have:=K3 hd;omega
        have hc:=q34 hj aa
        rw [if_neg q0]
        rw [List.getElem?_take] at l
        rw [if_pos hj,List.getElem?_drop] at l
        obtain ⟨k1,c,k2,k3⟩:=q5 _ x j' d l hd
        refine ⟨k1,c,?_,mono _ _ k3⟩
        rw [Nat.add_mul] at k2
        rw [Array.getElem?_toList,← k2];congr 1;omega
      · rename_i hj
        rw [z] at hj l
        obtain ⟨k1,c,k2,k3⟩:=q.2.2 _ x j' d l hd
        have be:=K3 l
        have aw:=q.2.1 _ x l
        have aa : j' < i.esize:=by have:=K3 hd;omega
        have hc:=q34 be aa
        have he : j * i.esize = len * i.esize + (j - len) * i.esize:=by rw [← Nat.add_mul];congr 1;omega
        rw [if_pos q0]
        refine ⟨k1,c,?_,mono _ _ k3⟩
        rw [List.getElem?_toArray] at k2
        rw [← k2];congr 1;omega
theorem qtu {t u ty : TypeId} {i j : TI} {sv xv v : V} {vs vx : Value} {st1 : AS} (h : RelS w Z inj st a Ds) (ht : tiOf P t = some i) (hu : tiOf P u = some j) (bq : i.kind = .slice) (bn : j.kind = .slice) (hf : Zo i.esize xv = true)
    (am : RelV w Z inj st.nx sv vs) (aw : RelV w Z inj st.nx xv vx) (f : Ys st i sv xv = some (v,st1)) :
    ∃ x w' inj',(Builtin.append_ #[t,u] ty #[vs,vx]).run P w = .ok x w'∧RelV w' Z inj' st1.nx v x∧RelH w' Z inj' st1.hp st1.nx∧Ext w Z inj st.hp w' Z inj' st1.hp st.nx∧st1.sl = st.sl∧st.nx≤st1.nx:=by
  obtain ⟨bz,d,z,k⟩:=Yh ht
  obtain ⟨bj,d',z',k'⟩:=Yh hu
  have hk:=k.kind
  have ay:=k'.kind
  unfold Z7 at hk ay
  simp only [bq,bn] at hk ay
  obtain ⟨e,ie,de,ze,rfl,g1,g2,g3,g4,g5,g6,g7,g8,g9,_⟩:=hk
  obtain ⟨e',_,_,_,rfl,_⟩:=ay
  have gz : ze.cells.size = i.esize:=by have:=(q8r g4).1;simp at this;omega
  have s : ∀ ys b1,Yx st xv = some ys→vs = .slice none 0 0→rowsOf b1 = some (i.esize,ys)→ys.length * (i.ebytes * 4)≤room→ys.length≠0→
      ∃ x w' inj',(Builtin.append_ #[t,u] ty #[vs,vx]).run P w = .ok x w'∧RelV w' Z inj' (st.nx + 1) (.hs st.nx i.esize 0 ys.length) x∧RelH w' Z inj' ((st.nx,b1)::st.hp) (st.nx + 1)∧Ext w Z inj st.hp w' Z inj' ((st.nx,b1)::st.hp) st.nx:=by
    rintro ys b1 hc rfl hr c ch
    obtain ⟨ad,cap',L1,rfl,l,r,q⟩:=qbh h aw hc hf g7
    have:=qdp (P:=P) (ty:=ty) h k.und k'.und g1 g3 g6 g7 g8 g9 gz h.heap Ext.refl (base:=none) (cap:=0) (olds:=[]) (L0:=[]) qe .nil (rfl : Je w none [] []) (cap':=cap') l r q (by simp;omega) (by simpa using c) (b1:=b1) (by simpa using hr)
    simpa using this
  have ac : ∀ ys,Yx st xv = some ys→vs = .slice none 0 0→ys.length = 0→(Builtin.append_ #[t,u] ty #[vs,vx]).run P w = .ok (.slice none 0 0) w:=by
    rintro ys hc rfl y
    obtain ⟨ad,cap',L1,rfl,l,r,q⟩:=qbh h aw hc hf g7
    have ab:=qam (P:=P) (tx:=u) (cap:=cap') g7 k'.und rfl l r q
    have:=qba (P:=P) (w:=w) (ty:=ty) k.und g1 (base:=none) (sLen:=0) (sCap:=0) (by rw [g6];exact ab) q0 (w':=w) rfl
    simpa [y] using this
  have m : ∀ n off len xs ys b0 b1,sv = .hs n i.esize off len→st.blk n = some b0→rowsOf b0 = some (i.esize,xs)→off + len≤xs.length→Yx st xv = some ys→rowsOf b1 = some (i.esize,(xs.drop off).take len ++ ys)→
      (len + ys.length) * (i.ebytes * 4)≤room→
      ∃ x w' inj',(Builtin.append_ #[t,u] ty #[vs,vx]).run P w = .ok x w'∧RelV w' Z inj' (st.nx + 1) (.hs st.nx i.esize 0 (len + ys.length)) x∧RelH w' Z inj' ((st.nx,b1)::repl st.hp n .dead) (st.nx + 1)∧
        Ext w Z inj st.hp w' Z inj' ((st.nx,b1)::repl st.hp n .dead) st.nx:=by
    rintro n off len xs ys b0 b1 rfl ba az bl hc ae c
    obtain ⟨ad,cap',L1,rfl,l,r,q⟩:=qbh h aw hc hf g7
    have ab:=qam (P:=P) (tx:=u) (cap:=cap') g7 k'.und rfl l r q
    have aj : ((xs.drop off).take len).length = len:=by simp;omega
    obtain ⟨q1,q2,q3⟩:=q68 (h.heap.blk n b0 ba).2 az
    have p : RelH w Z inj (repl st.hp n .dead) st.nx:=h.heap.drop
    have aa : Ext w Z inj st.hp w Z inj (repl st.hp n .dead) st.nx:=Ext.drop
    have ph : len = 0→ys.length = 0→RelH w Z (upd inj st.nx none) ((st.nx,b1)::repl st.hp n .dead) (st.nx + 1)∧Ext w Z inj st.hp w Z (upd inj st.nx none) ((st.nx,b1)::repl st.hp n .dead) st.nx:=by
      intro h1 h2
      have an : (xs.drop off).take len ++ ys = []:=by subst h1;simp [List.eq_nil_of_length_eq_zero h2]
      refine ⟨p.newPh b1 (q67 ae g7 (by rw [an];simp) (.inl ⟨an,Ks _ _ _⟩)),aa.trans (Ext.newPh p b1) (Nat.le_refl _)⟩
    cases am with
    | hsnil hm=>
      by_cases y : ys.length = 0
      · obtain ⟨p1,p2⟩:=ph rfl y
        have:=qba (P:=P) (w:=w) (ty:=ty) k.und g1 (base:=none) (sLen:=0) (sCap:=0) (by rw [g6];exact ab) q0 (w':=w) rfl
        refine ⟨_,w,_,this,?_,p1,p2⟩
        simp only [Nat.zero_add,y]
        exact .hsnil q0
      · have:=qdp (P:=P) (ty:=ty) h k.und k'.und g1 g3 g6 g7 g8 g9 gz p aa (base:=none) (cap:=0) (olds:=[]) (L0:=[]) qe .nil (rfl : Je w none [] []) (cap':=cap') l r q (by simp;omega) (by simpa using c) (b1:=b1) (by simpa using ae)
        simpa using this
    | @hs _ _ _ _ cap adr hm hcl hsp hcap=>
      by_cases hg : len + ys.length≤cap
      · by_cases bb : cap = 0
        · obtain ⟨p1,p2⟩:=ph q0 q0
          have hL : L1 = []:=List.eq_nil_of_length_eq_zero (by rw [l,show ys.length = 0 by omega];simp)
          have:=qba (P:=P) (w:=w) (ty:=ty) k.und g1 (base:=some adr) (sLen:=len) (sCap:=cap) (by rw [g6];exact ab) hg (w':=w) (by subst hL;show (storeCells _ []).run P w = _;simp [storeCells])
          exact ⟨_,w,_,this,.hs q0 hg hsp (fun h=>absurd bb h),p1,p2⟩
        · obtain ⟨b,o,hi,rfl,ap⟩:=hcap bb
          exact qoq (P:=P) (ty:=ty) h k.und k'.und g1 g6 g7 ba az bl hi ap hcl (cap':=cap') l r q hg ae
      · have hold : ∃ L0 : List Value,L0.length = ((xs.drop off).take len).length * i.esize∧ERel w Z inj st.nx i.esize ((xs.drop off).take len) L0.toArray∧Je w (some adr) L0 ((xs.drop off).take len):=by
          by_cases y : len = 0
          · subst y
            exact ⟨[],qe,by simpa using ERel.nil,fun k u hu=>by simp at hu⟩
          · obtain ⟨b,o,hi,rfl,ap⟩:=hcap q0
            rcases q3 with ⟨_,q4⟩ | ⟨b',o',arr,ck,q3,q4,q5⟩
            · rw [hi] at q4;cases q4
            · rw [hi] at q3;cases q3
              obtain ⟨L,l1,l2,l3⟩:=qg4 (w:=w) (Z:=Z) (inj:=inj) (nx:=st.nx) (b:=b) (o:=o + off * i.esize) (xs:=(xs.drop off).take len) g7 (qd9 q2) (q5.cells q4)
              exact ⟨L,l1,l3,fun k u hu=>by rw [Jh];exact l2 k u hu⟩
        obtain ⟨L0,a1,a2,a3⟩:=hold
        have:=qdp (P:=P) (ty:=ty) h k.und k'.und g1 g3 g6 g7 g8 g9 gz p aa (base:=some adr) (cap:=cap) a1 a2 a3 (cap':=cap') l r q (by rw [aj];omega) (by rw [aj];exact c) (b1:=b1) ae
        rw [aj] at this
        exact this
  cases sv <;> simp only [Ys,reduceCtorEq] at f
  case d x=>
    cases x <;> simp only [reduceCtorEq] at f
    cases am with | d am=>
    cases am
    cases af : Yo st xv with
    | some ys=>
      simp only [af] at f
      split at f <;> try simp at f
      rename_i c
      have g:=qec af
      by_cases y : ys = []
      · rw [if_pos y] at f;simp at f;obtain ⟨rfl,rfl⟩:=f
        exact ⟨_,w,inj,ac _ g rfl (by simpa using y),.d .nilsl,h.heap,.refl,rfl,Nat.le_refl _⟩
      · rw [if_neg y] at f;simp at f;obtain ⟨rfl,rfl⟩:=f
        have:=s _ (.dat i.esize ys) g rfl rfl (by simpa using c) (by simpa using y)
        obtain ⟨x,w',inj',h1,h2,h3,h4⟩:=this
        exact ⟨x,w',inj',h1,by simpa [AS.new] using h2,h3,h4,rfl,by simp [AS.new]⟩
    | none=>
      simp only [af] at f
      cases g : Yx st xv with
      | none=>simp [g] at f
      | some ys=>
        simp only [g] at f
        split at f <;> try simp at f
        rename_i c
        by_cases y : ys = []
        · rw [if_pos y] at f;simp at f;obtain ⟨rfl,rfl⟩:=f
          exact ⟨_,w,inj,ac _ g rfl (by simpa using y),.d .nilsl,h.heap,.refl,rfl,Nat.le_refl _⟩
        · rw [if_neg y] at f;simp at f;obtain ⟨rfl,rfl⟩:=f
          obtain ⟨x,w',inj',h1,h2,h3,h4⟩:=s _ (.cel i.esize ys) g rfl rfl c (by simpa using y)
          exact ⟨x,w',inj',h1,by simpa [AS.new] using h2,h3,h4,rfl,by simp [AS.new]⟩
  case hs n es off len=>
    split at f
    · rename_i k0 xs ys hb af
      split at f <;> simp at f
      rename_i ar
      obtain ⟨c1,rfl,c3,rfl⟩:=ar
      obtain ⟨rfl,rfl⟩:=f
      have:=m n off len (xs.map (·.map .d)) (ys.map (·.map .d)) _ (.dat i.esize ((xs.drop off).take len ++ ys)) rfl hb rfl (by simpa using c1) (qec af) (by simp [rowsOf,List.map_take,List.map_drop]) (by simpa using c3)
      obtain ⟨x,w',inj',h1,h2,h3,h4⟩:=this
      exact ⟨x,w',inj',h1,by simpa [AS.new,AS.setBlk] using h2,h3,h4,rfl,by simp [AS.new,AS.setBlk]⟩
    · rename_i k0 xs hb af
      split at f <;> try simp at f
      rename_i ys g
      obtain ⟨⟨c1,rfl,c3,rfl⟩,rfl,rfl⟩:=f
      have:=m n off len (xs.map (·.map .d)) ys _ (.cel i.esize ((((xs.map (·.map V.d)).drop off).take len) ++ ys)) rfl hb rfl (by simpa using c1) g rfl c3
      obtain ⟨x,w',inj',h1,h2,h3,h4⟩:=this
      exact ⟨x,w',inj',h1,by simpa [AS.new,AS.setBlk] using h2,h3,h4,rfl,by simp [AS.new,AS.setBlk]⟩
    · rename_i k0 xs hb
      split at f <;> try simp at f
      rename_i ys g
      obtain ⟨⟨c1,rfl,c3,rfl⟩,rfl,rfl⟩:=f
      have:=m n off len xs ys _ (.cel i.esize ((xs.drop off).take len ++ ys)) rfl hb rfl c1 g rfl c3
      obtain ⟨x,w',inj',h1,h2,h3,h4⟩:=this
      exact ⟨x,w',inj',h1,by simpa [AS.new,AS.setBlk] using h2,h3,h4,rfl,by simp [AS.new,AS.setBlk]⟩
    · simp at f
end
end Go.Am
namespace Go.Am
open Go
variable {P : Program} {T : Tab}
section
variable {w : World} {Z : Nat→Prop} {inj : Inj} {nx : Nat}
theorem RowV.spliceRows {arr : Array Value} {o es off : Nat} {xs ys : List (List V)} {L : List Value} (h : RowV w Z inj nx arr o es xs) (r : ∀ (i : Nat) (x : List V),xs[i]? = some x→x.length = es) (g : ERel w Z inj nx es ys L.toArray)
    (k : off + ys.length≤xs.length) (b : o + off * es + L.length≤arr.size) : RowV w Z inj nx (splice arr.toList (o + off * es) L).toArray o es (splice xs off ys):=by
  have u : L.length = ys.length * es:=by simpa using g.1
  intro i x j d a hd
  rw [Ju _ _ _ _ k] at a
  rw [List.getElem?_toArray,Ju _ _ _ _ (by simpa using b)]
  by_cases hi : off≤i∧i < off + ys.length
  · rw [if_pos hi] at a
    obtain ⟨n,c,f,m⟩:=g.2.2 _ x j d a hd
    have l : j < es:=by have:=K3 hd;have:=g.2.1 _ x a;omega
    have p:=q34 (K3 a) l
    have t : i * es = off * es + (i - off) * es:=by rw [← Nat.add_mul];congr 1;omega
    rw [if_pos q0]
    refine ⟨n,c,?_,m⟩
    rw [List.getElem?_toArray] at f
    rw [← f];congr 1;omega
  · rw [if_neg hi] at a
    obtain ⟨n,c,f,m⟩:=h i x j d a hd
    have l : j < es:=by have:=K3 hd;have:=r _ x a;omega
    refine ⟨n,c,?_,m⟩
    rw [if_neg ?_]
    · simpa using f
    · intro p
      by_cases s : i < off
      · have:=q34 s l;omega
      · have q : (off + ys.length) * es≤i * es:=Nat.mul_le_mul_right _ q0
        rw [Nat.add_mul] at q;omega
theorem ERel.take {es m : Nat} {xs : List (List V)} {L : List Value} (h : ERel w Z inj nx es xs L.toArray) (b : m≤xs.length) : ERel w Z inj nx es (xs.take m) (L.take (m * es)).toArray:=by
  obtain ⟨o,g,n⟩:=h
  simp only [List.size_toArray] at o
  have:=Nat.mul_le_mul_right es b
  refine ⟨by simp;rw [Nat.min_eq_left b];omega,?_,?_⟩
  · intro i x a
    rw [List.getElem?_take] at a
    split at a
    · exact g _ _ a
    · simp at a
  · intro i x j d a hd
    rw [List.getElem?_take] at a
    split at a
    · rename_i hi
      obtain ⟨l,c,f,p⟩:=n i x j d a hd
      have k:=q34 hi (show j < es by have:=K3 hd;have:=g _ x a;omega)
      refine ⟨l,c,?_,p⟩
      rw [List.getElem?_toArray] at f ⊢
      rw [List.getElem?_take,if_pos k];exact f
    · simp at a
end
section
variable {w : World} {Z : Nat→Prop} {inj : Inj} {st : AS} {a : Act} {Ds : List Nat}
theorem qu2 {t u ty : TypeId} {i j : TI} {sv xv v : V} {vs vx : Value} {st1 : AS} (h : RelS w Z inj st a Ds) (ht : tiOf P t = some i) (_hu : tiOf P u = some j) (bm : i.kind = .slice) (_hjk : j.kind = .slice) (br : Zo i.esize sv = true) (hf : Zo i.esize xv = true)
    (ay : RelV w Z inj st.nx sv vs) (bi : RelV w Z inj st.nx xv vx) (ha : copyV st sv xv = some (v,st1)) :
    ∃ x w' inj',(Builtin.copy_ #[t,u] ty #[vs,vx]).run P w = .ok x w'∧RelV w' Z inj' st1.nx v x∧RelH w' Z inj' st1.hp st1.nx∧Ext w Z inj st.hp w' Z inj' st1.hp st.nx∧st1.sl = st.sl∧st.nx≤st1.nx:=by
  obtain ⟨ca,d,z,k⟩:=Yh ht
  have hk:=k.kind
  unfold Z7 at hk
  simp only [bm] at hk
  obtain ⟨e,ie,de,ze,rfl,g1,g2,g3,g4,g5,g6,g7,g8,g9,_⟩:=hk
  cases sv <;> simp only [copyV,reduceCtorEq] at ha
  rename_i n es off len
  have bp:=Nat.eq_of_beq_eq_true br
  subst bp
  split at ha <;> try simp at ha
  rename_i k0 xs ys hb bj
  obtain ⟨⟨ch,rfl⟩,rfl,rfl⟩:=ha
  obtain ⟨ad,cap',L1,rfl,an,bg,au⟩:=qbh h bi (qec bj) hf g7
  rw [List.length_map] at an ⊢
  let m:=min ys.length len
  have hm : m = min ys.length len:=rfl
  rw [← hm]
  obtain ⟨q1,q2,q3⟩:=q68 (h.heap.blk n _ hb).2 rfl
  have cf : (xs.map (·.map V.d)).length = xs.length:=by simp
  have cc : m * i.esize≤ys.length * i.esize:=Nat.mul_le_mul_right _ q0
  have ai : (Builtin.firstCells i.esize m (.slice ad ys.length cap')).run P w = .ok (L1.take (m * i.esize)).toArray w:=by
    cases ad with
    | none=>
      have aw : ys.map (·.map V.d) = []:=au
      have : ys = []:=by simpa using aw
      subst this
      simp at an;subst an
      simp [Builtin.firstCells]
    | some p=>
      have:=run_loadCells_list (P:=P) w p (L1.take (m * i.esize)) (fun k u hu=>by
        rw [List.getElem?_take] at hu
        split at hu
        · exact au k u hu
        · simp at hu)
      rw [List.length_take,Nat.min_eq_left q0] at this
      simpa [Builtin.firstCells] using this
  have s : ∀ base y aj,y = len→vs = .slice base y aj→∀ w',(match base with | some p=>(storeCells p (L1.take (m * i.esize))).run P w = .ok () w' | none=>w' = w)→
      (Builtin.copy_ #[t,u] ty #[vs,.slice ad ys.length cap']).run P w = .ok (.int .i64 m) w':=by
    rintro base y aj rfl rfl w' aa
    have aq:=ai
    rw [← g6] at aq
    have al : Nat.min ys.length y = m:=rfl
    cases base with
    | none=>
      subst aa
      simp [Builtin.copy_,run_underlying k.und,Builtin.lenOf,Z5 g1,goInt,al,aq]
    | some p=>
      have am : (storeCells p (L1.take (m * i.esize))).run P w = .ok () w':=aa
      rw [← g6] at am
      simp [Builtin.copy_,run_underlying k.und,Builtin.lenOf,Z5 g1,am,goInt,al,aq]
  have l : live (.dat i.esize xs) = true:=rfl
  have same : m = 0→RelH w Z inj (repl st.hp n (.dat i.esize (splice xs off (ys.take m)))) st.nx∧Ext w Z inj st.hp w Z inj (repl st.hp n (.dat i.esize (splice xs off (ys.take m)))) st.nx:=by
    intro h0
    have ao : splice xs off (ys.take m) = xs:=by rw [h0];simp [splice]
    rw [ao]
    have g : ∀ q,find (repl st.hp n (.dat i.esize xs)) q = find st.hp q:=by
      intro q
      rw [Yt]
      by_cases hq : n = q
      · subst hq;have : find st.hp n = some (.dat i.esize xs):=hb;simp [this]
      · simp [hq]
    constructor
    · exact ⟨fun q b hq=>h.heap.blk q b (by rw [g] at hq;exact hq),fun q r b c p' q' h1 h2=>h.heap.sep q r b c p' q' (by rw [g] at h1;exact h1) (by rw [g] at h2;exact h2),fun q b p' h1=>h.heap.out q b p' (by rw [g] at h1;exact h1),h.heap.zs,h.heap.zc⟩
    · exact {Ext.refl (w:=w) (Z:=Z) (inj:=inj) (hp:=st.hp) (pin:=st.nx) with imm:=fun b hb=>by obtain ⟨q,blk,o,h1,h2,h3⟩:=hb;rw [g] at h1;exact .inl ⟨q,blk,o,h1,h2,h3⟩}
  have ae : ∀ w' inj' nx',RelV w' Z inj' nx' (.d (.int .i64 ((min ys.length len : Nat) : Int))) (.int .i64 (m : Nat)):=fun _ _ _=>.d (.int _ _)
  by_cases h0 : m = 0
  · obtain ⟨s1,s2⟩:=same h0
    cases ay with
    | hsnil=>exact ⟨_,w,inj,s none _ _ rfl rfl w rfl,ae _ _ _,s1,s2,rfl,Nat.le_refl _⟩
    | @hs _ _ _ _ cap adr hn' hlc _ hcap=>exact ⟨_,w,inj,s (some adr) _ _ rfl rfl w (by show (storeCells _ _).run P w = _;rw [h0];simp [storeCells]),ae _ _ _,s1,s2,rfl,Nat.le_refl _⟩
  · cases ay with
    | hsnil=>omega
    | @hs _ _ _ _ cap adr hn' hlc _ hcap=>
      obtain ⟨b,o,hi,rfl,ax⟩:=hcap q0
      rcases q3 with ⟨_,q4⟩ | ⟨b',o',arr,ar,q3,q4,q5⟩
      · rw [hi] at q4;cases q4
      rw [hi] at q3;cases q3
      have hL : (L1.take (m * i.esize)).length = m * i.esize:=by rw [List.length_take,Nat.min_eq_left q0]
      have ac:=bg.take (m:=m) (by simp;omega)
      have bk : o + (off + cap) * i.esize≤arr.size:=by
        obtain ⟨c,e2,f,k1,k2⟩:=ax
        rw [q4] at k1;cases k1;exact k2
      have cr : m * i.esize≤cap * i.esize:=Nat.mul_le_mul_right _ q0
      rw [Nat.add_mul] at bk
      have aa:=run_storeCells_at P b (o + off * i.esize) ar (L1.take (m * i.esize)) 0 arr w q4 (by rw [hL];omega) (ac.one g7)
      simp only [Nat.add_zero] at aa
      have ao : (arr.toList.take (o + off * i.esize) ++ L1.take (m * i.esize) ++ arr.toList.drop (o + off * i.esize + (L1.take (m * i.esize)).length)).toArray = (splice arr.toList (o + off * i.esize) (L1.take (m * i.esize))).toArray:=rfl
      rw [ao] at aa
      have ap : o + off * i.esize + (L1.take (m * i.esize)).length≤arr.toList.length:=by rw [hL];simp;omega
      have af : (splice arr.toList (o + off * i.esize) (L1.take (m * i.esize))).toArray.size = arr.size:=by simp only [List.size_toArray];rw [q1r _ _ _ ap];simp
      have hz : ∀ b1,Z b1→(w.setRow b (splice arr.toList (o + off * i.esize) (L1.take (m * i.esize))).toArray).heap[b1]? = w.heap[b1]?:=fun b1 bs=>
        setRow_other w b b1 _ (fun e=>h.heap.out n _ _ hb l hi (by rw [← e];exact bs))
      have bl:=q2c w b arr _ ar (0,0) q4 af
      have cn : (ys.take m).length = m:=by rw [List.length_take,Nat.min_eq_left q0]
      refine ⟨_,_,inj,s (some ⟨b,o + off * i.esize,none⟩) _ _ rfl rfl _ aa,ae _ _ _,?_,Ext.set h.heap hb l hi q4 af,rfl,Nat.le_refl _⟩
      refine h.heap.set hb l hi q4 af (q67 (es:=i.esize) (xs:=splice (xs.map (·.map V.d)) off ((ys.map (·.map V.d)).take m)) ?_ g7 ?_ (.inr ⟨b,o,_,ar,hi,setRow_heap w b _ _ _ _ q4,?_⟩))
      · simp only [rowsOf,splice,List.map_append,List.map_take,List.map_drop,Option.some.injEq,Prod.mk.injEq,true_and]
        rw [List.length_take,List.length_take,List.length_map]
      · intro i' x' ag
        rw [Ju _ _ _ _ (by simp;omega)] at ag
        split at ag
        · exact ac.2.1 _ _ ag
        · exact q2 _ _ ag
      · refine (q5.spliceRows q2 ac (by simp;omega) (by rw [hL];omega)).mono fun v x hr=>hr.mono hz (fun _ h=>h) bl (fun _ _=>rfl) (Nat.le_refl _)
theorem qu0 {t ty : TypeId} {i : TI} {sv v : V} {vs : Value} {st1 : AS} (h : RelS w Z inj st a Ds) (ht : tiOf P t = some i) (be : i.kind = .slice) (bg : Zo i.esize sv = true) (s : RelV w Z inj st.nx sv vs) (ha : Jl st i sv = some (v,st1)) :
    ∃ x w' inj',(Builtin.clear_ #[t] ty #[vs]).run P w = .ok x w'∧RelV w' Z inj' st1.nx v x∧RelH w' Z inj' st1.hp st1.nx∧Ext w Z inj st.hp w' Z inj' st1.hp st.nx∧st1.sl = st.sl∧st.nx≤st1.nx:=by
  obtain ⟨bq,d,z,k⟩:=Yh ht
  have hk:=k.kind
  unfold Z7 at hk
  simp only [be] at hk
  obtain ⟨e,ie,de,ze,rfl,g1,g2,g3,g4,g5,g6,g7,g8,g9,_⟩:=hk
  have ac : ∀ w' inj' nx',RelV w' Z inj' nx' (.d (.tup [])) (.tuple #[]):=fun _ _ _=>.d (.tup qe qe)
  cases sv <;> simp only [Jl,reduceCtorEq] at ha
  case d x=>
    cases x <;> simp only [reduceCtorEq,Option.some.injEq,Prod.mk.injEq] at ha
    obtain ⟨rfl,rfl⟩:=ha
    cases s with | d s=>
    cases s
    exact ⟨_,w,inj,by simp [Builtin.clear_,run_underlying k.und],ac _ _ _,h.heap,.refl,rfl,Nat.le_refl _⟩
  case hs n es off len=>
  have az:=Nat.eq_of_beq_eq_true bg
  subst az
  split at ha <;> try simp at ha
  rename_i k0 xs hb
  obtain ⟨⟨bs,rfl⟩,rfl,rfl⟩:=ha
  obtain ⟨q1,q2,q3⟩:=q68 (h.heap.blk n _ hb).2 rfl
  have m : live (.dat i.esize xs) = true:=rfl
  by_cases h0 : len = 0
  · subst h0
    have al : splice xs off (List.replicate 0 i.ezero) = xs:=by simp [splice]
    have g : ∀ q,find (repl st.hp n (.dat i.esize (splice xs off (List.replicate 0 i.ezero)))) q = find st.hp q:=by
      intro q
      rw [al,Yt]
      by_cases hq : n = q
      · subst hq;have : find st.hp n = some (.dat i.esize xs):=hb;simp [this]
      · simp [hq]
    have s1 : RelH w Z inj (repl st.hp n (.dat i.esize (splice xs off (List.replicate 0 i.ezero)))) st.nx:=
      ⟨fun q b hq=>h.heap.blk q b (by rw [g] at hq;exact hq),fun q r b c p' q' h1 h2=>h.heap.sep q r b c p' q' (by rw [g] at h1;exact h1) (by rw [g] at h2;exact h2),fun q b p' h1=>h.heap.out q b p' (by rw [g] at h1;exact h1),h.heap.zs,h.heap.zc⟩
    have s2 : Ext w Z inj st.hp w Z inj (repl st.hp n (.dat i.esize (splice xs off (List.replicate 0 i.ezero)))) st.nx:=
      {Ext.refl (w:=w) (Z:=Z) (inj:=inj) (hp:=st.hp) (pin:=st.nx) with imm:=fun b hb=>by obtain ⟨q,blk,o,h1,h2,h3⟩:=hb;rw [g] at h1;exact .inl ⟨q,blk,o,h1,h2,h3⟩}
    cases s with
    | hsnil=>exact ⟨_,w,inj,by simp [Builtin.clear_,run_underlying k.und],ac _ _ _,s1,s2,rfl,Nat.le_refl _⟩
    | @hs _ _ _ _ cap adr hn' hlc _ hcap=>exact ⟨_,w,inj,by simp [Builtin.clear_,run_underlying k.und],ac _ _ _,s1,s2,rfl,Nat.le_refl _⟩
  · cases s with
    | hsnil=>omega
    | @hs _ _ _ _ cap adr hn' hlc _ hcap=>
      obtain ⟨b,o,hi,rfl,aq⟩:=hcap q0
      rcases q3 with ⟨_,q4⟩ | ⟨b',o',arr,aj,q3,q4,q5⟩
      · rw [hi] at q4;cases q4
      rw [hi] at q3;cases q3
      obtain ⟨p,ak⟩ : ∃ p,p = (Builtin.zeroCells ze.cells len).toList:=⟨_,rfl⟩
      have ao : ze.cells.size = i.esize:=by
        have:=(q8b (w:=w) (Z:=Z) g4).1
        omega
      have hL : p.length = len * i.esize:=by rw [ak];simp [Builtin.zeroCells,ao]
      have u : ERel w Z inj st.nx i.esize ((List.replicate len i.ezero).map (·.map V.d)) p.toArray:=by
        refine ⟨by simp [hL],fun q x hx=>?_,fun q x j d hx hd=>?_⟩
        · rw [List.getElem?_map,List.getElem?_replicate] at hx
          split at hx <;> simp at hx
          rw [← hx];simpa using g5
        · rw [List.getElem?_map,List.getElem?_replicate] at hx
          split at hx <;> simp at hx
          rename_i hq
          subst hx
          rw [List.getElem?_map] at hd
          cases am : i.ezero[j]? with
          | none=>rw [am] at hd;cases hd
          | some d'=>
            rw [am] at hd;cases hd
            obtain ⟨c,hc,hr,ai⟩:=qgy (w:=w) (Z:=Z) g4 g5 hq am
            refine ⟨ai,c,?_,.d hr⟩
            rw [ak,Array.toArray_toList]
            unfold Builtin.zeroCells
            rw [ao] at hc ⊢
            exact hc
      have bd : o + (off + cap) * i.esize≤arr.size:=by
        obtain ⟨c,e2,f,k1,k2⟩:=aq
        rw [q4] at k1;cases k1;exact k2
      have cc : len * i.esize≤cap * i.esize:=Nat.mul_le_mul_right _ q0
      rw [Nat.add_mul] at bd
      have aa:=run_storeCells_at P b (o + off * i.esize) aj p 0 arr w q4 (by rw [hL];omega) (u.one g7)
      simp only [Nat.add_zero] at aa
      have al : (arr.toList.take (o + off * i.esize) ++ p ++ arr.toList.drop (o + off * i.esize + p.length)).toArray = (splice arr.toList (o + off * i.esize) p).toArray:=rfl
      rw [al] at aa
      have ah : o + off * i.esize + p.length≤arr.toList.length:=by rw [hL];simp;omega
      have y : (splice arr.toList (o + off * i.esize) p).toArray.size = arr.size:=by simp only [List.size_toArray];rw [q1r _ _ _ ah];simp
      have hz : ∀ b1,Z b1→(w.setRow b (splice arr.toList (o + off * i.esize) p).toArray).heap[b1]? = w.heap[b1]?:=fun b1 bb=>
        setRow_other w b b1 _ (fun e=>h.heap.out n _ _ hb m hi (by rw [← e];exact bb))
      have ax:=q2c w b arr _ aj (0,0) q4 y
      have ap : (Builtin.clear_ #[t] ty #[.slice (some ⟨b,o + off * i.esize,none⟩) len cap]).run P w = .ok (.tuple #[]) (w.setRow b (splice arr.toList (o + off * i.esize) p).toArray):=by
        obtain ⟨l,rfl⟩ : ∃ l,len = l + 1:=⟨len - 1,q0⟩
        have bf : (zeroValue e).run P w = .ok ze w:=by simp [zeroValue,typeInfo,g1,g3]
        rw [ak] at aa ⊢
        simp [Builtin.clear_,run_underlying k.und,bf,aa]
      refine ⟨_,_,inj,ap,ac _ _ _,?_,Ext.set h.heap hb m hi q4 y,rfl,Nat.le_refl _⟩
      refine h.heap.set hb m hi q4 y (q67 (es:=i.esize) (xs:=splice (xs.map (·.map V.d)) off ((List.replicate len i.ezero).map (·.map V.d))) ?_ g7 ?_ (.inr ⟨b,o,_,aj,hi,setRow_heap w b _ _ _ _ q4,?_⟩))
      · simp only [rowsOf,splice,List.map_append,List.map_take,List.map_drop,Option.some.injEq,Prod.mk.injEq,true_and]
        rw [List.length_map]
      · intro i' x' ad
        rw [Ju _ _ _ _ (by simp;omega)] at ad
        split at ad
        · exact u.2.1 _ _ ad
        · exact q2 _ _ ad
      · refine (q5.spliceRows q2 u (by simp;omega) (by rw [hL];omega)).mono fun v x hr=>hr.mono hz (fun _ h=>h) ax (fun _ _=>rfl) (Nat.le_refl _)
end
end Go.Am
