/- Am12 Am13 Am14 Am15 Am16 Am16k -/
import Derived.Test.YtgkialgkmjnfbaaGreatK2
import Derived.Laws.MakeOwn
import Derived.Deep.AppendSrc
import Derived.Room.Entries
namespace Go.Am
open Go
variable {P : Program} {T : Tab}
theorem qhh {n : Int} (h : -9223372036854775808≤n∧n≤9223372036854775807) : IntKind.i64.wrap n = n:=by rw [IntKind.wrap_i64];omega
theorem qi9 {es i a j : Nat} (c : j < es) : (i * es≤a * es + j∧a * es + j < i * es + es)↔a = i:=by
  constructor
  · intro ⟨b,d⟩;rcases Nat.lt_trichotomy a i with h | h | h
    · have:=Nat.mul_le_mul_right es (show a + 1≤i from h);rw [Nat.add_mul] at this;omega
    · exact h
    · have:=Nat.mul_le_mul_right es (show i + 1≤a from h);rw [Nat.add_mul] at this;omega
  grind
theorem q4c {es n i j : Nat} (hi : i < n) (a : j < es) : i * es + j < n * es:=by
  have:=Nat.mul_le_mul_right es (show i + 1≤n from hi);rw [Nat.add_mul] at this;omega
section
variable {w : World} {Z : Nat→Prop} {inj : Inj} {st : AS} {a : Act} {Ds : List Nat}
theorem qi4 {b y : Nat} {o : Option Operand} {n : Nat} {code : BoundsCode} (h : RelS w Z inj st a Ds) (hb : bound st b o = some n) (j : n≤y) :
    (∀ op,o = some op→(Instr.sliceBound (a.eval op) y code).run P w = .ok n w)∧(o = none→n = b):=by
  cases o with
  | none=>simp [bound] at hb;exact ⟨qd,fun _=>hb.symm⟩
  | some op=>
    refine ⟨fun g e=>?_,qd⟩;cases e;simp only [bound] at hb;split at hb <;> try simp at hb
    rename_i k m f;have c:=Kb h f;generalize a.eval op = vx at c ⊢
    cases c with | d c=>
    cases c;obtain ⟨l,rfl⟩:=hb;simp only [Instr.sliceBound,asIntOf,Sem.run_bind,Sem.run_pure,Result.andThen_ok];simp_all
theorem qwy {t : TypeId} {i : TI} {x : Operand} {xv v : V} {lo hi : Option Operand} {n p q : Nat} (h : RelS w Z inj st a Ds) (ht : tiOf P t = some i) (hk : i.kind = .slice) (f : st.ev x = some xv) (s : lenV xv = some n)
    (al : bound st 0 lo = some p) (aj : bound st n hi = some q) (hs : qgs i.esize xv p q = some v) :
    Kt st st v w Z inj ((do pure (Next.value (← Instr.sliceAt t (a.eval x) (lo.map a.eval) (hi.map a.eval) none)) : Sem Next).run P w):=by
  obtain ⟨ar,d,z,k⟩:=Yp ht;have ab:=k.kind;unfold Zm at ab;simp only [hk] at ab;obtain ⟨e,ie,de,ze,rfl,g1,g2,g3,g4,g5,g6,g7,_⟩:=ab;have h3:=Kb h f;generalize a.eval x = vx at h3 ⊢
  have run : ∀ ad len cap,len = n→q≤cap→p≤q→(Instr.sliceAt t (.slice ad len cap) (lo.map a.eval) (hi.map a.eval) none).run P w = .ok (.slice (if cap = p then ad else ad.map (·.add (p * i.esize))) (q - p) (cap - p)) w:=by
    intro ad len cap hl hq hp;obtain ⟨l1,l2⟩:=qi4 (P:=P) (y:=q) (code:=.sliceB) h al hp;obtain ⟨r1,r2⟩:=qi4 (P:=P) (y:=cap) (code:=.sliceAcap) h aj hq;simp only [Instr.sliceAt,Sem.run_bind,run_underlying k.und,Result.andThen_ok,Instr.slice,Instr.sliceBounds,Zq g1,g6]
    cases hi with
    | none=>
      have:=r2 rfl;subst this
      cases lo with
      | none=>have:=l2 rfl;subst this;simp [hl]
      | some o=>simp [hl,l1 o rfl]
    | some o'=>
      cases lo with
      | none=>have:=l2 rfl;subst this;simp [r1 o' rfl]
      | some o=>simp [r1 o' rfl,l1 o rfl]
  cases xv <;> simp only [qgs,reduceCtorEq] at hs
  case d x=>
    cases x <;> simp only [reduceCtorEq] at hs
    case nilsl=>
      split at hs <;> simp at hs
      rename_i u;obtain ⟨rfl,rfl⟩:=u;subst hs;simp [lenV] at s
      cases h3 with | d h3=>
      cases h3;exact .quiet h (Kl (run _ _ _ s q8 q8)) (by simpa using RelV.d .nilsl)
    case sl es xs=>
      split at hs <;> simp at hs
      rename_i u;obtain ⟨u,h1,he⟩:=u;subst hs;simp [lenV] at s
      cases h3 with | d h3=>
      cases h3 with
      | slnil=>
        simp at h1 s;obtain ⟨rfl,rfl⟩ : q = 0∧p = 0:=by omega
        exact .quiet h (Kl (run _ _ _ s q8 q8)) (by simpa using RelV.d (.slnil _))
      | slemp=>
        simp at h1 s;obtain ⟨rfl,rfl⟩ : q = 0∧p = 0:=by omega
        exact .quiet h (Kl (run _ _ _ s q8 q8)) (by simpa using RelV.d (.slemp _ _))
      | @sl _ _ b o cap hc hz hl hcell hrel=>
        refine .quiet h (Kl (run _ _ _ s q8 u)) ?_;have l : ((xs.drop p).take (q - p)).length = q - p:=by simp;omega
        have r : ∀ (i : Nat) (x : List DV),((xs.drop p).take (q - p))[i]? = some x→xs[p + i]? = some x:=by
          intro i x f;rw [List.getElem?_take] at f;split at f
          · rwa [List.getElem?_drop] at f
          · simp at f
        by_cases g : cap = p
        · rw [qu g];have h9 : (xs.drop p).take (q - p) = []:=List.eq_nil_of_length_eq_zero (by rw [l];omega);have h8 : q - p = 0:=by omega
          rw [h9,h8];exact .d (RelD.sl (es:=es) (xs:=[]) qd qd qd qd qd)
        · rw [qw g,Option.map_some,U5]
          have e2 : ∀ k j,o + p * i.esize + (k * es + j) = o + ((p + k) * es + j):=by
            intro k j;rw [← he,Nat.add_mul];omega
          have:=RelD.sl (w:=w) (Z:=Z) (es:=es) (xs:=(xs.drop p).take (q - p)) (b:=b) (o:=o + p * i.esize) (cap:=cap - p) (by rw [l];omega) (fun ac=>hz (by rintro rfl;simp at ac)) (fun i x f=>hl _ _ (r i x f))
            (fun k x j d f hd=>by rw [e2];exact hcell _ _ j d (r k x f) hd)
            (fun k x j d c f hd hc=>hrel _ _ j d c (r k x f) hd (by rw [e2] at hc;exact hc))
          rw [l] at this;exact .d this
  case hs m es off len=>
    split at hs <;> simp at hs
    rename_i u;obtain ⟨u,h1,he⟩:=u;subst hs;simp [lenV] at s
    cases h3 with
    | hsnil hm=>
      obtain ⟨rfl,rfl⟩ : q = 0∧p = 0:=by omega
      exact .quiet h (Kl (run _ _ _ s q8 q8)) (by simpa using RelV.hsnil (es:=es) (off:=off) hm)
    | @hs _ _ _ _ cap ad hm hc hsp hcap=>
      refine .quiet h (Kl (run _ _ _ s q8 u)) ?_;by_cases g : cap = p
      · rw [qu g];exact .hs hm q8 hsp (fun ac=>q8)
      · rw [qw g,Option.map_some];obtain ⟨b,o,hi,rfl,ao⟩:=hcap q8;rw [U5];refine .hs hm q8 rfl fun _=>⟨b,o,hi,?_,?_⟩
        · rw [he,Nat.add_mul,← Nat.add_assoc]
        · rwa [show off + p + (cap - p) = off + cap by omega]
theorem qhk {b : Value} {es n i j : Nat} {ds : List DV} (p : b.cells.toList.mapM Zx = some ds) (h : ds.length = es) (hi : i < n) {d : DV} (hd : ds[j]? = some d) :
    ∃ c,((Array.range (n * es)).map (b.cells[· % b.cells.size]!))[i * es + j]? = some c∧RelD w Z d c∧Zk d = true:=by
  obtain ⟨o,k⟩:=q7s (w:=w) (Z:=Z) p;obtain ⟨c,m,l,a,_⟩:=k j d hd;have g : j < es:=by have:=K7 hd;omega
  refine ⟨c,?_,l,a⟩;have f:=q4c hi g;rw [Array.getElem?_map,Array.getElem?_range];simp only [f,if_true,Option.map_some];have : (i * es + j) % b.cells.size = j:=by rw [← o,h,Nat.mul_comm,Nat.mul_add_mod,Nat.mod_eq_of_lt g]
  grind
theorem qwt {t : TypeId} {i : TI} {l c : Operand} {k1 y : IntKind} {n m : Int} (h : RelS w Z inj st a Ds) (ht : tiOf P t = some i) (hk : i.kind = .slice) (hl : st.ev l = some (.d (.int k1 n))) (s : st.ev c = some (.d (.int y m)))
    (h0 : 0≤n) (h1 : n≤m) (r : m * (i.ebytes * 4)≤room) :
    Kt st (st.new (.dat i.esize (List.replicate n.toNat i.ezero))) (.hs st.nx i.esize 0 n.toNat) w Z inj ((do pure (Next.value (← Instr.makeSlice t (a.eval l) (a.eval c))) : Sem Next).run P w):=by
  obtain ⟨ac,d,z,k⟩:=Yp ht;have f:=k.kind;unfold Zm at f;simp only [hk] at f;obtain ⟨e,ie,de,v,rfl,g1,g2,g3,g4,g5,g6,g7,g8,g9,_⟩:=f;have p:=Kb h hl;have o:=Kb h s;generalize a.eval l = vl at p ⊢;generalize a.eval c = vc at o ⊢
  cases p with | d p=>
  cases p
  cases o with | d o=>
  cases o
  have hm : m≤4294967296:=by
    have e1 : (1 : Int)≤(i.ebytes : Int) * 4:=by omega
    have:=Int.mul_le_mul_of_nonneg_left e1 (show (0:Int)≤m by omega);unfold room at r;omega
  have hb : (i.ebytes : Int) * m≤281474976710656:=by
    unfold room at r;grind
  have w1 : IntKind.i64.wrap n = n:=qhh q8;have w2 : IntKind.i64.wrap m = m:=qhh q8;obtain ⟨N,rfl⟩:=Int.eq_ofNat_of_zero_le h0;obtain ⟨M,rfl⟩:=Int.eq_ofNat_of_zero_le (show 0≤m by omega);simp only [Int.toNat_natCast];have b:=run_make (P:=P) w t e ie v k.und g1 g3 k1 y (N : Int) (M : Int) h0 h1 (by rw [g8];exact hb) q8;simp only [Int.toNat_natCast,g6] at b;have u : N≤M:=by omega
  refine .new h (Kl b) ?_ ?_
  · refine ⟨g7,?_,.inr ⟨w.heap.size,0,_,e,Y6 _ _ _,Jb _ _,?_⟩⟩
    · grind
    · intro j x j' d q hd;rw [List.getElem?_replicate] at q;split at q <;> simp at q
      rename_i hj;subst q;obtain ⟨c,s,r,g⟩:=qhk (w:=w.alloc (.cells (madeCells v.cells (M * i.esize)) e)) (Z:=Z) g4 g5 (show j < M by omega) hd;exact ⟨g,c,by rw [Nat.zero_add];exact s,r⟩
  · refine .hs q8 u rfl fun _=>⟨w.heap.size,0,Y6 _ _ _,qd,?_⟩
    exact ⟨_,_,_,Jb _ _,by rw [size_madeCells];simp⟩
def ERel (w : World) (Z : Nat→Prop) (inj : Inj) (nx es : Nat) (xs : List (List V)) (C : Array Value) : Prop:=
  C.size = xs.length * es∧(∀ (i : Nat) (x : List V),xs[i]? = some x→x.length = es)∧
    ∀ (i : Nat) (x : List V) (j : Nat) (d : V),xs[i]? = some x→x[j]? = some d→Kh d = true∧∃ c,C[i * es + j]? = some c∧RelV w Z inj nx d c
theorem qj9 {es : Nat} : ∀ {d : List (Nat × V)} {l : List (Nat × List V)},elems es d = some l→l.length = d.length∧∀ (k i : Nat) (v : V),d[k]? = some (i,v)→(cellsOf v).length = es∧(cellsOf v).all Kh = true∧l[k]? = some (i,cellsOf v)
  | [],l,h=>by simp [elems] at h;subst h;simp
  | (i,v)::r,l,h=>by
    simp only [elems] at h
    split at h
    · rename_i l' j
      split at h
      · rename_i f
        simp at h;subst h
        obtain ⟨m,n⟩:=qj9 j
        refine ⟨by simp [m],fun k o g hk=>?_⟩
        cases k with
        | zero=>simp at hk;obtain ⟨rfl,rfl⟩:=hk;exact ⟨f.1,f.2,qd⟩
        | succ k=>simp at hk;obtain ⟨a,b,c⟩:=n k o g hk;exact ⟨a,b,by simpa using c⟩
      · simp at h
    · simp at h
theorem ERel.set {w : World} {nx es : Nat} {xs : List (List V)} {C k : Array Value} {ys : List V} {i : Nat} (h : ERel w Z inj nx es xs C) (m : LRel w Z inj nx ys k) (t : ys.length = es) (n : ys.all Kh = true) (hi : i < xs.length) :
    ERel w Z inj nx es (xs.set i ys) (Am.splice C.toList (i * es) k.toList).toArray:=by
  obtain ⟨p,r,s⟩:=h;have g : k.toList.length = es:=by have:=m.1;simp;omega
  have a : i * es + k.toList.length≤C.toList.length:=by
    rw [g,Array.length_toList,p];have:=Nat.mul_le_mul_right es (show i + 1≤xs.length from hi);rw [Nat.add_mul] at this;omega
  refine ⟨by simp [q35 _ _ _ a,p],?_,?_⟩
  · grind
  · intro j x l d f hd;rw [List.getElem?_set] at f;by_cases b : i = j
    · subst b;rw [qu rfl,qu hi] at f;simp at f;subst f;have q:=K7 hd;obtain ⟨c,o⟩:=Y1 (xs:=k) (i:=l) (by have:=m.1;omega);refine ⟨List.all_eq_true.1 n _ (List.mem_of_getElem? hd),c,?_,m.2 _ _ _ hd o⟩;rw [List.getElem?_toArray,Ul _ _ _ _ a,qu (by rw [g];omega),show i * es + l - i * es = l by omega];grind
    · rw [qw b] at f;obtain ⟨v,c,y,u⟩:=s j x l d f hd;refine ⟨v,c,?_,u⟩;rw [List.getElem?_toArray,Ul _ _ _ _ a,qw ?_]
      · grind
      · rw [g];intro o;exact b ((qi9 (by have:=K7 hd;have:=r j x f;omega)).1 o).symm
theorem qjp {w : World} {nx es : Nat} : ∀ (f : List (Nat × V)) (xs : List (Nat × Value)) (l : List (Nat × List V)) (cs c : List (List V)) (C : Array Value),
    f.length = xs.length→(∀ (k : Nat) (i : Nat) (v : V),f[k]? = some (i,v)→∃ x,xs[k]? = some (i,x)∧RelV w Z inj nx v x)→
    l.length = f.length→(∀ (k : Nat) (i : Nat) (v : V),f[k]? = some (i,v)→(cellsOf v).length = es∧(cellsOf v).all Kh = true∧l[k]? = some (i,cellsOf v))→
    ERel w Z inj nx es cs C→q4g cs l = some c→∃ n,Instr.fill (fun i=>some (i * es,es)) C xs = some n∧ERel w Z inj nx es c n∧c.length = cs.length
  | [],xs,l,cs,c,C,h1,_,h3,_,h5,h6=>by
    have : xs = []:=by cases xs <;> simp_all
    have : l = []:=by cases l <;> simp_all
    subst_vars
    simp [q4g] at h6;subst h6
    exact ⟨C,by simp [Instr.fill],h5,rfl⟩
  | (i,v)::f,xs,l,cs,c,C,h1,h2,h3,h4,h5,h6=>by
    match xs,l,h1,h3 with
    | (i',x)::xs,(o',ys)::l,h1,h3=>
      obtain ⟨x',g,y⟩:=h2 0 i v rfl
      simp at g;obtain ⟨rfl,rfl⟩:=g
      obtain ⟨u,r,h⟩:=h4 0 i' v rfl
      simp at h;obtain ⟨rfl,rfl⟩:=h
      obtain ⟨s,z,q3⟩:=qc3 y r
      simp only [q4g] at h6
      split at h6
      · rename_i d
        obtain ⟨n,q,m,j⟩:=qjp f xs l (cs.set o' (cellsOf v)) c (splice C.toList (o' * es) x.cells.toList).toArray (by simpa using h1)
          (fun k i v hk=>by obtain ⟨x,p⟩:=h2 (k + 1) i v (by simpa using hk);exact ⟨x,by simpa using p⟩) (by simpa using h3)
          (fun k i v hk=>by obtain ⟨a,b,p⟩:=h4 (k + 1) i v (by simpa using hk);exact ⟨a,b,by simpa using p⟩)
          (h5.set ⟨s,z⟩ u r d) h6
        refine ⟨n,?_,m,by simpa using j⟩
        have t : o' * es + es≤C.size:=by
          rw [h5.1];have:=Nat.mul_le_mul_right es (show o' + 1≤cs.length from d);rw [Nat.add_mul] at this;omega
        have o : x.cells.size = es:=by omega
        simp only [Instr.fill,o]
        have : ¬ ((decide (es≠es) || decide (o' * es + es > C.size)) = true):=by simp;omega
        rw [qw (by simpa using this)]
        rw [qjv x.cells C (o' * es) q8]
        exact q
      · simp at h6
theorem qwc {t : TypeId} {i : TI} {len : Nat} {g : Array (Nat × Operand)} {s : List (Nat × V)} {l : List (Nat × List V)} {xs : List (List V)} (h : RelS w Z inj st a Ds) (ht : tiOf P t = some i) (hv : Js st.ev g.toList = some s)
    (hl : elems i.esize s = some l) (hk : i.kind = .slice) (ab : len * i.esize≤16777216) (hf : q4g (List.replicate len (i.ezero.map .d)) l = some xs) :
    Kt st (st.new (q5x i.esize xs)) (.hs st.nx i.esize 0 len) w Z inj ((do pure (Next.value (← Instr.buildSlice t len (g.map fun (i,x)=>(i,a.eval x)))) : Sem Next).run P w):=by
  obtain ⟨ah,d,z,k⟩:=Yp ht;have b:=k.kind;unfold Zm at b;simp only [hk] at b;obtain ⟨e,ie,de,q,rfl,g1,g2,g3,g4,g5,g6,g7,g8,g9,_⟩:=b;obtain ⟨p1,p2⟩:=qji h hv;obtain ⟨q1,q2⟩:=qj9 hl;have aa : ∀ (k i : Nat) (v : V),s[k]? = some (i,v)→∃ x,(g.toList.map fun (x : Nat × Operand)=>(x.1,a.eval x.2))[k]? = some (i,x)∧RelV w Z inj st.nx v x:=by grind
  have y : ERel w Z inj st.nx i.esize (List.replicate len (i.ezero.map .d)) ((Array.range (len * i.esize)).map (q.cells[· % q.cells.size]!)):=by
    refine ⟨qd,?_,?_⟩
    · grind
    · intro j x j' d m hd;rw [List.getElem?_replicate] at m;split at m <;> simp at m
      rename_i hj;subst m;simp only [List.getElem?_map,Y0] at hd;obtain ⟨d',ad,rfl⟩:=hd;obtain ⟨c,hc,p,f⟩:=qhk (w:=w) (Z:=Z) g4 g5 hj ad;exact ⟨f,c,hc,.d p⟩
  obtain ⟨r,hC,p,n⟩:=qjp s (g.toList.map fun (x : Nat × Operand)=>(x.1,a.eval x.2)) l _ xs _ (by simp [p1]) aa q1 q2 y hf;have bc : Instr.fill (fun j=>some (j * i.esize,i.esize)) ((Array.range (len * i.esize)).map (q.cells[· % q.cells.size]!)) (g.map fun (x : Nat × Operand)=>(x.1,a.eval x.2)).toList = some r:=by simpa using hC
  have o : (Instr.buildSlice t len (g.map fun (i,x)=>(i,a.eval x))).run P w = .ok (.slice (some ⟨w.heap.size,0,none⟩) len len) (w.alloc (.cells r e)):=by
    have hn : ¬ (len * i.esize > 2 ^ 24):=by omega
    have ag : (do let x ← newRow e r;pure (Value.slice (some x) len len) : Sem Value).run P w = .ok (.slice (some ⟨w.heap.size,0,none⟩) len len) (w.alloc (.cells r e)):=by simp [newRow]
    by_cases hz : len * i.esize = 0
    · simp only [Instr.buildSlice,Sem.run_bind,run_underlying k.und,Result.andThen_ok,Zq g1,g6];grind
    · simp only [Instr.buildSlice,Sem.run_bind,run_underlying k.und,Result.andThen_ok,Zq g1,g6];rw [qw hn,qw hz];have ap : (zeroValue e).run P w = .ok q w:=by simp [zeroValue,typeInfo,g1,g3]
      simp_all
  have u : xs.length = len:=by simpa using n
  refine .new h (Kl o) ?_ ?_
  · refine qms g7 (Y6 _ _ _) (Jb _ _) p.2.1 ?_;intro j x j' d m hd;obtain ⟨h1,c,h2,h3⟩:=p.2.2 j x j' d m hd;exact ⟨h1,c,h2,qmw h _ h3⟩
  · refine .hs q8 (Nat.le_refl _) rfl fun _=>⟨w.heap.size,0,Y6 _ _ _,qd,?_⟩
    exact ⟨_,_,_,Jb _ _,by rw [p.1,u];simp⟩
end
end Go.Am
namespace Go.Am
open Go
variable {P : Program} {T : Tab}
def RowV (w : World) (Z : Nat→Prop) (inj : Inj) (nx : Nat) (arr : Array Value) (o es : Nat) (xs : List (List V)) : Prop:=
  ∀ (i : Nat) (x : List V) (j : Nat) (d : V),xs[i]? = some x→x[j]? = some d→Kh d = true∧∃ c,arr[o + (i * es + j)]? = some c∧RelV w Z inj nx d c
section
variable {w : World} {Z : Nat→Prop} {inj : Inj} {nx : Nat}
theorem RowV.mono {w' : World} {inj' : Inj} {nx' : Nat} {arr : Array Value} {o es : Nat} {xs : List (List V)} (h : RowV w Z inj nx arr o es xs) (a : ∀ v x,RelV w Z inj nx v x→RelV w' Z inj' nx' v x) : RowV w' Z inj' nx' arr o es xs:=
  fun i x j d b hd=>let ⟨h1,c,h2,h3⟩:=h i x j d b hd;⟨h1,c,h2,a _ _ h3⟩
def rowsOf : Blk→Option (Nat × List (List V))
  | .dat es xs=>some (es,xs.map (·.map .d))
  | .cel es xs=>some (es,xs)
  | _=>none
theorem q6b {n : Nat} {b : Blk} {es : Nat} {xs : List (List V)} (h : RelB w Z inj nx n b) (l : rowsOf b = some (es,xs)) :
    es≠0∧(∀ (i : Nat) (x : List V),xs[i]? = some x→x.length = es)∧((xs = []∧inj n = none)∨∃ b o arr ty,inj n = some (b,o)∧w.heap[b]? = some (.cells arr ty (0,0))∧RowV w Z inj nx arr o es xs):=by
  cases b <;> simp only [rowsOf,reduceCtorEq,Option.some.injEq,Prod.mk.injEq] at l
  · obtain ⟨rfl,rfl⟩:=l;obtain ⟨q,g,a⟩:=h;refine ⟨q,?_,?_⟩
    · intro i x f;simp only [List.getElem?_map,Y0] at f;obtain ⟨y,k,rfl⟩:=f;simpa using g i y k
    · rcases a with ⟨a,p⟩ | ⟨b,o,arr,ty,a,p,v⟩
      · exact .inl ⟨by simp [a],p⟩
      · refine .inr ⟨b,o,arr,ty,a,p,fun i x j d f hd=>?_⟩;simp only [List.getElem?_map,Y0] at f;obtain ⟨y,k,rfl⟩:=f;simp only [List.getElem?_map,Y0] at hd;obtain ⟨s,m,rfl⟩:=hd;obtain ⟨t,c,u,r⟩:=v i y j s k m;exact ⟨t,c,u,.d r⟩
  · obtain ⟨rfl,rfl⟩:=l;obtain ⟨q,g,a⟩:=h;exact ⟨q,g,a⟩
theorem q6a {n : Nat} {b : Blk} {es : Nat} {xs : List (List V)} (a : rowsOf b = some (es,xs)) (m : es≠0) (l : ∀ (i : Nat) (x : List V),xs[i]? = some x→x.length = es)
    (h : (xs = []∧inj n = none)∨∃ b o arr ty,inj n = some (b,o)∧w.heap[b]? = some (.cells arr ty (0,0))∧RowV w Z inj nx arr o es xs) : RelB w Z inj nx n b:=by
  cases b <;> simp only [rowsOf,reduceCtorEq,Option.some.injEq,Prod.mk.injEq] at a
  · obtain ⟨rfl,rfl⟩:=a;rename_i xs;refine ⟨m,fun i x g=>?_,?_⟩
    · have:=l i (x.map .d) (by simp [g]);simpa using this
    · rcases h with ⟨f,k⟩ | ⟨b,o,arr,ty,f,k,s⟩
      · exact .inl ⟨by simpa using f,k⟩
      · refine .inr ⟨b,o,arr,ty,f,k,fun i x j d g hd=>?_⟩;obtain ⟨q,c,r,p⟩:=s i (x.map .d) j (.d d) (by simp [g]) (by simp [hd]);refine ⟨q,c,r,?_⟩
        cases p with | d h=>exact h
  · obtain ⟨rfl,rfl⟩:=a;exact ⟨m,l,h⟩
theorem RowV.set {arr k : Array Value} {o es e j : Nat} {xs : List (List V)} {cs ys : List V} (h : RowV w Z inj nx arr o es xs) (y : ∀ (i : Nat) (x : List V),xs[i]? = some x→x.length = es) (t : xs[e]? = some cs) (q : LRel w Z inj nx ys k) (s : ys.all Kh = true)
    (hj : j + ys.length≤cs.length) (m : o + (e * es + j) + k.size≤arr.size) : RowV w Z inj nx (splice arr.toList (o + (e * es + j)) k.toList).toArray o es (xs.set e (splice cs j ys)):=by
  have aa : k.toList.length = ys.length:=by have:=q.1;simp;omega
  have b : o + (e * es + j) + k.toList.length≤arr.toList.length:=by simpa using m
  have z:=y e cs t;intro i x a d f hd;rw [List.getElem?_toArray,Ul _ _ _ _ b];rw [List.getElem?_set] at f;by_cases g : e = i
  · subst g;rw [qu rfl,qu (K7 t)] at f;simp at f;subst f;rw [Ul _ _ _ _ hj] at hd;by_cases l : j≤a∧a < j + ys.length
    · rw [qu l] at hd;obtain ⟨c,v⟩:=Y1 (xs:=k) (i:=a - j) (by have:=q.1;omega);rw [qu q8,show o + (e * es + a) - (o + (e * es + j)) = a - j by omega];exact ⟨List.all_eq_true.1 s _ (List.mem_of_getElem? hd),c,by simpa using v,q.2 _ _ _ hd v⟩
    · rw [qw l] at hd;rw [qw q8];obtain ⟨u,c,p,r⟩:=h e cs a d t hd;exact ⟨u,c,by simpa using p,r⟩
  · rw [qw g] at f;obtain ⟨u,c,p,r⟩:=h i x a d f hd;refine ⟨u,c,?_,r⟩;have n : a < es:=by have:=K7 hd;have:=y i x f;omega
    rw [qw ?_]
    · simpa using p
    · intro v;exact g ((qi9 (i:=e) n).1 q8).symm
end
section
variable {w : World} {Z : Nat→Prop} {inj : Inj} {st : AS} {a : Act} {Ds : List Nat}
theorem q12r {t : TypeId} {a : TypeInfo} {x : Value} {b o : Nat} {arr : Array Value} {ty : TypeId} (hi : P.info? t = some a) (hs : x.cells.size = a.size) (f : ∀ c∈x.cells.toList,c.oneCell' = true)
    (hb : w.heap[b]? = some (.cells arr ty (0,0))) (d : o + x.cells.size≤arr.size) :
    (Instr.storeAt t (.pointer (some ⟨b,o,none⟩)) x).run P w = .ok () (w.setRow b (splice arr.toList o x.cells.toList).toArray):=by
  have:=run_storeCells_at P b o ty x.cells.toList 0 arr w hb (by simpa using d) f;simp only [Nat.add_zero] at this;simp only [Instr.storeAt,Instr.sureAddr,storeVar,Sem.run_bind,Sem.run_pure,Result.andThen_ok,Zq hi,Sem.run_ite];rw [qw q8];exact this
theorem qwz {t : TypeId} {i : TI} {p x : Operand} {pv v : V} {st1 : AS} (h : RelS w Z inj st a Ds) (ht : tiOf P t = some i) (hp : st.ev p = some pv) (hx : st.ev x = some v) (hs : Jk st i pv v = some st1) :
    Kt st st1 .dead w Z inj ((do Instr.storeAt t (a.eval p) (a.eval x);pure .skip : Sem Next).run P w):=by
  obtain ⟨aw,d,z,k⟩:=Yp ht;have af:=Kb h hp;have ah:=Kb h hx;generalize a.eval p = vp at af ⊢;generalize a.eval x = vx at ah ⊢;cases pv <;> simp only [Jk,reduceCtorEq] at hs
  rename_i n k0 e j;split at hs <;> try simp at hs
  rename_i r
  have bf : (cellsOf v).length = i.size:=by
    apply Classical.byContradiction;intro hc;exact r (.inl hc)
  have ai : (cellsOf v).all Kh = true:=by
    cases hc : (cellsOf v).all Kh with
    | true=>rfl
    | false=>exact absurd (.inr hc) r
  cases af with | @ref _ _ _ _ b o hn hi=>
  have key : ∀ (y : Blk) (es : Nat) (xs : List (List V)) (cs : List V) (b1 : Blk),st.blk n = some y→rowsOf y = some (es,xs)→es = k0→xs[e]? = some cs→j + i.size≤cs.length→rowsOf b1 = some (es,xs.set e (splice cs j (cellsOf v)))→st1 = st.setBlk n b1→
      Kt st st1 .dead w Z inj ((do Instr.storeAt t (.pointer (some ⟨b,o + (e * k0 + j),none⟩)) vx;pure .skip : Sem Next).run P w):=by
    rintro y es xs cs b1 s al rfl g f an rfl
    obtain ⟨g1,g2,g3⟩:=q6b (h.heap.blk n y s).2 al
    rcases g3 with ⟨g3,_⟩ | ⟨b',o',arr,ty,g3,g4,g5⟩
    · subst g3;simp at g
    · rw [hi] at g3;cases g3
      obtain ⟨c1,c2,c3⟩:=qc3 ah ai
      have m : live y = true:=by cases y <;> simp_all [rowsOf,live]
      have au:=g2 e cs g
      have bb : 0 < es:=by omega
      have aq : o + (e * es + (es - 1)) < arr.size:=by
        obtain ⟨d0,ao⟩:=Zi (xs:=cs) (i:=es - 1) q8;obtain ⟨_,c,hc,_⟩:=g5 e cs (es - 1) d0 g ao;exact Ze hc
      have l : o + (e * es + j) + vx.cells.size≤arr.size:=by omega
      have ae:=q12r (P:=P) (w:=w) k.inf (x:=vx) (by rw [k.size];omega) c3 g4 l
      have aa : (splice arr.toList (o + (e * es + j)) vx.cells.toList).toArray.size = arr.size:=by
        simp only [List.size_toArray];rw [q35 _ _ _ (by simpa using l)];simp
      have hz : ∀ b1,Z b1→(w.setRow b (splice arr.toList (o + (e * es + j)) vx.cells.toList).toArray).heap[b1]? = w.heap[b1]?:=fun b1 ar=>
        setRow_other w b b1 _ (fun e=>h.heap.out n y _ s m hi (by rw [← e];exact ar))
      have am:=q3p w b arr _ ty (0,0) g4 aa
      refine ⟨undef,_,inj,.inr ⟨by simp [ae],rfl⟩,.dead _,?_,Ext.set h.heap s m hi g4 aa,rfl,Nat.le_refl _⟩
      refine h.heap.set s m hi g4 aa (q6a an g1 ?_ (.inr ⟨b,o,_,ty,hi,setRow_heap w b _ _ _ _ g4,?_⟩))
      · intro i' x' q
        rw [List.getElem?_set] at q
        by_cases aj : e = i'
        · rw [qu aj,qu (by have:=K7 g;omega)] at q
          simp at q;rw [← q,q35 _ _ _ q8];exact au
        · rw [qw aj] at q;exact g2 _ _ q
      · exact (g5.set g2 g ⟨c1,c2⟩ ai q8 l).mono fun v x hr=>hr.mono hz (fun _ h=>h) am (fun _ _=>rfl) (Nat.le_refl _)
  cases hb : st.blk n with
  | none=>simp [hb] at hs
  | some blk=>
    cases blk with
    | dead=>simp [hb] at hs
    | loop=>simp [hb] at hs
    | mp=>simp [hb] at hs
    | itF=>simp [hb] at hs
    | itO=>simp [hb] at hs
    | dat es xs=>
      simp only [hb] at hs;split at hs <;> try simp at hs
      rename_i cs u ab;have u:=Nat.eq_of_beq_eq_true u;have g : (xs.map (·.map V.d))[e]? = some (cs.map V.d):=by simp [ab]
      split at hs
      · rename_i ds ak;simp at hs;obtain ⟨f,hs⟩:=hs;refine key _ _ _ _ _ hb rfl u.symm g (by simpa using f) ?_ hs.symm;simp only [rowsOf,Option.some.injEq,Prod.mk.injEq,true_and];rw [q48 ak];simp [splice,List.map_set,List.map_take,List.map_drop]
      · simp at hs;obtain ⟨f,hs⟩:=hs;exact key _ _ _ _ _ hb rfl u.symm g (by simpa using f) rfl hs.symm
    | cel es xs=>
      simp only [hb] at hs;split at hs <;> try simp at hs
      rename_i cs u ab;have u:=Nat.eq_of_beq_eq_true u;obtain ⟨f,hs⟩:=hs;exact key _ _ _ _ _ hb rfl u.symm ab f rfl hs.symm
end
end Go.Am
namespace Go.Am
open Go
variable {P : Program} {T : Tab}
section
variable {w : World} {Z : Nat→Prop} {inj : Inj} {nx : Nat}
def U4 (w : World) (ad : Option Addr) (L : List Value) (ys : List (List V)) : Prop:=match ad with
  | some p=>∀ (k : Nat) (u : Value),L[k]? = some u→w.cell? (p.add k) = some u
  | none=>ys = []
theorem qgm {b o es : Nat} {xs : List (List V)} (s : es≠0) (l : ∀ (i : Nat) (x : List V),xs[i]? = some x→x.length = es)
    (h : ∀ (i : Nat) (x : List V) (j : Nat) (d : V),xs[i]? = some x→x[j]? = some d→Kh d = true∧∃ c,w.cell? ⟨b,o + (i * es + j),none⟩ = some c∧RelV w Z inj nx d c) :
    ∃ L : List Value,L.length = xs.length * es∧(∀ (k : Nat) (u : Value),L[k]? = some u→w.cell? ⟨b,o + k,none⟩ = some u)∧ERel w Z inj nx es xs L.toArray:=by
  have f : ∀ k,k < xs.length * es→∃ i x j d c,xs[i]? = some x∧x[j]? = some d∧k = i * es + j∧w.cell? ⟨b,o + k,none⟩ = some c∧RelV w Z inj nx d c:=by
    intro k hk;have p : k / es < xs.length:=Nat.div_lt_of_lt_mul (by rwa [Nat.mul_comm]);have m : k % es < es:=Nat.mod_lt _ q8;obtain ⟨x,a⟩:=Zi p;obtain ⟨d,hd⟩:=Zi (xs:=x) (i:=k % es) (by rw [l _ _ a];exact m);obtain ⟨_,c,g,q⟩:=h _ _ _ _ a hd;have hk : k = k / es * es + k % es:=by rw [Nat.mul_comm];exact (Nat.div_add_mod k es).symm
    exact ⟨_,_,_,_,c,a,hd,hk,by rw [hk];exact g,q⟩
  refine ⟨(List.range (xs.length * es)).map fun k=>(w.cell? ⟨b,o + k,none⟩).getD undef,qd,?_,?_⟩
  · intro k u n;have hk : k < xs.length * es:=by have:=K7 n;simpa using this
    obtain ⟨_,_,_,_,c,_,_,_,g,_⟩:=f k hk;simp [hk,g] at n;rw [g,n]
  · refine ⟨qd,l,fun i x j d a hd=>?_⟩;obtain ⟨p,c,m,r⟩:=h i x j d a hd;have hk:=q4c (K7 a) (show j < es by have:=K7 hd;have:=l i x a;omega);exact ⟨p,c,by simp [hk,m],r⟩
theorem ERel.append {es : Nat} {xs ys : List (List V)} {A B : Array Value} (h : ERel w Z inj nx es xs A) (k : ERel w Z inj nx es ys B) : ERel w Z inj nx es (xs ++ ys) (A ++ B):=by
  obtain ⟨l,n,o⟩:=h;obtain ⟨b1,b2,m⟩:=k;refine ⟨by simp [l,b1,Nat.add_mul],?_,?_⟩
  · intro i x a;rw [List.getElem?_append] at a;split at a
    · exact n _ _ a
    · exact b2 _ _ a
  · intro i x j d a hd;rw [List.getElem?_append] at a;split at a
    · obtain ⟨g,c,b,f⟩:=o i x j d a hd;exact ⟨g,c,by rw [Array.getElem?_append_left (Ze b)];exact b,f⟩
    · rename_i hi;obtain ⟨g,c,b,f⟩:=m _ x j d a hd;refine ⟨g,c,?_,f⟩
      have e : i * es + j = A.size + ((i - xs.length) * es + j):=by
        rw [l,← Nat.add_assoc,← Nat.add_mul];congr 2;omega
      rw [e,Array.getElem?_append_right q8,show A.size + ((i - xs.length) * es + j) - A.size = (i - xs.length) * es + j by omega];exact b
theorem ERel.row {es : Nat} {xs : List (List V)} {A B : Array Value} (h : ERel w Z inj nx es xs A) : RowV w Z inj nx (A ++ B) 0 es xs:=by
  intro i x j d g hd;obtain ⟨b,c,a,f⟩:=h.2.2 i x j d g hd;exact ⟨b,c,by rw [Nat.zero_add,Array.getElem?_append_left (Ze a)];exact a,f⟩
theorem ERel.one {es : Nat} {xs : List (List V)} {L : List Value} (l : es≠0) (h : ERel w Z inj nx es xs L.toArray) : ∀ u∈L,u.oneCell' = true:=by
  intro u j;obtain ⟨k,hk⟩:=List.mem_iff_getElem?.1 j;have f:=K7 hk;have o : L.length = xs.length * es:=by simpa using h.1
  have n : k / es < xs.length:=Nat.div_lt_of_lt_mul (by rw [Nat.mul_comm];omega);obtain ⟨x,b⟩:=Zi n;obtain ⟨d,hd⟩:=Zi (xs:=x) (i:=k % es) (by rw [h.2.1 _ _ b];exact Nat.mod_lt _ q8);obtain ⟨g,c,a,m⟩:=h.2.2 _ _ _ _ b hd;have e : k / es * es + k % es = k:=by rw [Nat.mul_comm];exact Nat.div_add_mod k es
  rw [e] at a;simp [hk] at a;subst a;exact qg5 m g
theorem ERel.mono {w' : World} {inj' : Inj} {nx' es : Nat} {xs : List (List V)} {A : Array Value} (h : ERel w Z inj nx es xs A) (a : ∀ v x,RelV w Z inj nx v x→RelV w' Z inj' nx' v x) : ERel w' Z inj' nx' es xs A:=
  ⟨h.1,h.2.1,fun i x j d b hd=>let ⟨h1,c,h2,h3⟩:=h.2.2 i x j d b hd;⟨h1,c,h2,a _ _ h3⟩⟩
theorem ERel.nil {es : Nat} : ERel w Z inj nx es [] #[]:=⟨qd,qd,qd⟩
theorem RowV.cells {arr : Array Value} {ty : TypeId} {b o es off len : Nat} {xs : List (List V)} (h : RowV w Z inj nx arr o es xs) (hb : w.heap[b]? = some (.cells arr ty (0,0))) :
    ∀ (i : Nat) (x : List V) (j : Nat) (d : V),((xs.drop off).take len)[i]? = some x→x[j]? = some d→Kh d = true∧∃ c,w.cell? ⟨b,o + off * es + (i * es + j),none⟩ = some c∧RelV w Z inj nx d c:=by
  intro i x j d a hd;rw [List.getElem?_take] at a;split at a
  · rw [List.getElem?_drop] at a;obtain ⟨k,c,f,g⟩:=h _ x j d a hd;refine ⟨k,c,?_,g⟩;simp only [World.cell?,hb];rw [← f];simp only [Option.isSome_none,Bool.false_eq_true,if_false];rw [Nat.add_mul];congr 1;omega
  · simp at a
theorem qh8 {es off len : Nat} {xs : List (List V)} (b : ∀ (i : Nat) (x : List V),xs[i]? = some x→x.length = es) : ∀ (i : Nat) (x : List V),((xs.drop off).take len)[i]? = some x→x.length = es:=by
  intro i x a;rw [List.getElem?_take] at a;split at a
  · rw [List.getElem?_drop] at a;exact b _ _ a
  · simp at a
end
section
variable {w : World} {Z : Nat→Prop} {inj : Inj} {st : AS} {a : Act} {Ds : List Nat}
theorem qeo {x : V} {ys : List (List DV)} (h : Yv st x = some ys) : Zn st x = some (ys.map (·.map .d)):=by
  unfold Yv at h;split at h
  · simp at h;subst h;rfl
  · simp at h;subst h;rfl
  · split at h <;> try simp at h
    rename_i hb;obtain ⟨a,rfl⟩:=h;simp [Zn,hb,a]
  · simp at h
theorem qc8 {x : V} {xv : Value} {es : Nat} {ys : List (List V)} (h : RelS w Z inj st a Ds) (l : RelV w Z inj st.nx x xv) (f : Zn st x = some ys) (hf : U9 es x = true) (s : es≠0) :
    ∃ (m : Option Addr) (cap : Nat) (L : List Value),xv = .slice m ys.length cap∧L.length = ys.length * es∧ERel w Z inj st.nx es ys L.toArray∧U4 w m L ys:=by
  unfold Zn at f;split at f
  · simp at f;subst f
    cases l with | d l=>
    cases l;exact ⟨none,0,[],rfl,qd,.nil,(rfl : U4 w none [] [])⟩
  · rename_i g xs;simp at f;subst f;have he:=Nat.eq_of_beq_eq_true hf;subst he
    cases l with | d l=>
    cases l with
    | slnil=>exact ⟨none,0,[],rfl,qd,.nil,(rfl : U4 w none [] [])⟩
    | slemp _ m=>exact ⟨some m,0,[],rfl,qd,.nil,fun k u q=>by simp at q⟩
    | @sl _ _ b o cap p h2 h3 h4 h5=>
      obtain ⟨L,l1,l2,l3⟩:=qgm (w:=w) (Z:=Z) (inj:=inj) (nx:=st.nx) (b:=b) (o:=o) (xs:=xs.map (·.map V.d)) s
        (fun i x l=>by simp only [List.getElem?_map,Y0] at l;obtain ⟨y,hy,rfl⟩:=l;simpa using h3 i y hy)
        (fun i x j d l hd=>by
          simp only [List.getElem?_map,Y0] at l;obtain ⟨y,hy,rfl⟩:=l;simp only [List.getElem?_map,Y0] at hd;obtain ⟨d',t,rfl⟩:=hd;obtain ⟨g1,c,z⟩:=h4 i y j d' hy t
          exact ⟨g1,c,z,.d (h5 i y j d' c hy t z)⟩)
      exact ⟨some ⟨b,o,none⟩,cap,L,qd,l1,l3,fun k u q=>by rw [U5];exact l2 k u q⟩
  · rename_i n g off len;have he:=Nat.eq_of_beq_eq_true hf;subst he
    have key : ∀ (b0 : Blk) (xs : List (List V)),st.blk n = some b0→rowsOf b0 = some (g,xs)→off + len≤xs.length→ys = (xs.drop off).take len→
        ∃ (m : Option Addr) (cap : Nat) (L : List Value),xv = .slice m ys.length cap∧L.length = ys.length * g∧ERel w Z inj st.nx g ys L.toArray∧U4 w m L ys:=by
      rintro b0 xs hb hr aq rfl
      have r : ((xs.drop off).take len).length = len:=by simp;omega
      obtain ⟨g1,z,v⟩:=q6b (h.heap.blk n b0 hb).2 hr
      cases l with
      | hsnil=>
        have : (xs.drop off).take 0 = []:=by simp
        rw [this];exact ⟨none,0,[],rfl,qd,.nil,(rfl : U4 w none [] [])⟩
      | @hs _ _ _ _ cap m hn f _ hcap=>
        by_cases h0 : len = 0
        · subst h0;have : (xs.drop off).take 0 = []:=by simp
          rw [this];exact ⟨some m,cap,[],rfl,qd,.nil,fun k u q=>by simp at q⟩
        · obtain ⟨b,o,hi,rfl,am⟩:=hcap q8;rcases v with ⟨v,g4⟩ | ⟨b',o',arr,ty,v,g4,g5⟩
          · rw [hi] at g4;cases g4
          · rw [hi] at v;cases v;obtain ⟨L,l1,l2,l3⟩:=qgm (w:=w) (Z:=Z) (inj:=inj) (nx:=st.nx) (b:=b) (o:=o + off * g) (xs:=(xs.drop off).take len) s (qh8 z) (g5.cells g4);exact ⟨some ⟨b,o + off * g,none⟩,cap,L,by rw [r],l1,l3,fun k u q=>by rw [U5];exact l2 k u q⟩
    split at f
    · rename_i k xs hb;split at f <;> try simp at f
      rename_i p;obtain ⟨p,rfl⟩:=p;subst f;refine key _ (xs.map (·.map V.d)) hb rfl (by simpa using p) qd
    · rename_i k xs hb;split at f <;> try simp at f
      rename_i p;obtain ⟨p,rfl⟩:=p;subst f;exact key _ xs hb rfl p rfl
    · simp at f
  · simp at f
theorem qbf {es n : Nat} {tx g : TypeId} {c : Option Addr} {cap : Nat} {ys : List (List V)} {L : List Value} (d : es≠0) (f : P.underlying tx = some (.slice g)) (j : n = ys.length) (a : L.length = ys.length * es)
    (h : ERel w Z inj st.nx es ys L.toArray) (b : U4 w c L ys) : Src P es tx (.slice c ys.length cap) n L w:=by
  subst j;refine ⟨.inl ⟨g,f⟩,fun w'=>by simp [Builtin.lenOf],?_,?_,a,h.one d⟩
  · cases c with
    | none=>subst b;simp at a;subst a;simp [Builtin.firstCells]
    | some p=>
      have:=run_loadCells_list (P:=P) w p L b;rw [a] at this;simpa [Builtin.firstCells] using this
  · cases c with
    | none=>subst b;simp at a;subst a;simp [Builtin.firstCells]
    | some p=>
      have:=run_loadCells_list (P:=P) w.drew p L b;rw [a] at this;simpa [Builtin.firstCells] using this
theorem qc1 {t tx ty e : TypeId} {i : TypeInfo} (c : P.underlying t = some (.slice e)) (hi : P.info? e = some i) {base : Option Addr} {sLen sCap : Nat} {x : Value} {n : Nat} {news : List Value} (hs : Src P i.size tx x n news w) (a : sLen + n≤sCap)
    {w' : World} (b : match base with | some p=>(storeCells (p.add (sLen * i.size)) news).run P w = .ok () w' | none=>w' = w) :
    (Builtin.append_ #[t,tx] ty #[.slice base sLen sCap,x]).run P w = .ok (.slice base (sLen + n) sCap) w':=by
  cases base with
  | none=>subst b;rcases hs.kind with ⟨d,hk⟩ | hk <;> simp [Builtin.append_,run_underlying c,run_underlying hk,sizeOf,typeInfo,hi,hs.len,a,hs.cells]
  | some p=>rcases hs.kind with ⟨d,hk⟩ | hk <;> simp [Builtin.append_,run_underlying c,run_underlying hk,sizeOf,typeInfo,hi,hs.len,a,hs.cells,b]
end
end Go.Am
namespace Go.Am
open Go
variable {P : Program} {T : Tab}
section
variable {w : World} {Z : Nat→Prop} {inj : Inj}
theorem RelH.newPh {hp : List (Nat × Blk)} {nx : Nat} (d : RelH w Z inj hp nx) (blk : Blk) (hb : RelB w Z (upd inj nx none) (nx + 1) nx blk) : RelH w Z (upd inj nx none) ((nx,blk)::hp) (nx + 1):=by
  refine ⟨?_,?_,?_,d.zs,d.zc⟩
  · intro n b h;rw [Qy] at h;by_cases a : nx = n
    · grind
    · simp only [a,if_false] at h;obtain ⟨k,g⟩:=d.blk n b h;exact ⟨q8,g.mono (fun _ _=>rfl) (fun _ h=>h) (Sem.keepBig_of_same rfl) (fun m f=>Yj _ _ f) q8 k (fun _ _ _=>rfl)⟩
  · intro n m b c p q a f r o hp j l;rw [Qy] at a f;by_cases k : nx = n
    · subst k;rw [Y6] at hp;cases hp
    · by_cases g : nx = m
      · subst g;rw [Y6] at j;cases j
      · simp only [k,g,if_false] at a f;rw [Yj _ _ (d.blk n b a).1] at hp;rw [Yj _ _ (d.blk m c f).1] at j;exact d.sep n m b c p q a f r o hp j l
  · intro n b p h s hp;rw [Qy] at h;by_cases a : nx = n
    · subst a;rw [Y6] at hp;cases hp
    · simp only [a,if_false] at h;rw [Yj _ _ (d.blk n b h).1] at hp;exact d.out n b p h s hp
theorem Ext.newPh {hp : List (Nat × Blk)} {nx : Nat} (m : RelH w Z inj hp nx) (blk : Blk) : Ext w Z inj hp w Z (upd inj nx none) ((nx,blk)::hp) nx:=by
  refine ⟨Nat.le_refl _,fun _ _ _=>rfl,?_,fun _ c e f h=>⟨c,e,f,h,rfl⟩,fun _ r h=>⟨r,h,rfl⟩,fun _ h=>h,fun _ h=>.inl h,fun n k=>Yj _ _ k,rfl,rfl,rfl,fun _=>rfl⟩;rintro b ⟨n,a,d,g,l,j⟩;rw [Qy] at g;by_cases k : nx = n
  · subst k;rw [Y6] at j;cases j
  · simp only [k,if_false] at g;rw [Yj _ _ (m.blk n a g).1] at j;exact .inl ⟨n,a,d,g,l,j⟩
theorem RelH.move {hp : List (Nat × Blk)} {nx n : Nat} (d : RelH w Z inj hp nx) {y blk : Blk} (hn : find hp n = some y) (l : live y = true) {g off x : Nat} (hi : inj n = some (g,off)) {old cs : Array Value} {t : TypeId} {fr : Nat × Nat}
    (hg : w.heap[g]? = some (.cells old t fr)) (hs : cs.size = old.size) (hb : RelB (w.setRow g cs) Z (upd inj nx (some (g,x))) (nx + 1) nx blk) :
    RelH (w.setRow g cs) Z (upd inj nx (some (g,x))) ((nx,blk)::repl hp n .dead) (nx + 1):=by
  have ae : ∀ b,Z b→b≠g:=fun b r e=>d.out n y _ hn l hi (by rw [← e];exact r)
  have key : ∀ m b,find (repl hp n .dead) m = some b→live b = true→find hp m = some b∧n≠m:=by
    intro m b h z;rw [Kx] at h;by_cases f : n = m
    · subst f;simp [hn] at h;subst h;simp [live] at z
    grind
  have j : ∀ m b,find (repl hp n .dead) m = some b→m < nx:=by
    intro m b h;rw [Kx] at h;by_cases f : n = m
    · subst f;exact (d.blk n y hn).1
    · simp only [f,if_false] at h;exact (d.blk m b h).1
  refine ⟨?_,?_,?_,fun b r=>by simpa using d.zs b r,fun b r=>by rw [setRow_other w g b cs (ae b r)];exact d.zc b r⟩
  · intro m b h;rw [Qy] at h;by_cases f : nx = m
    · grind
    · simp only [f,if_false] at h;refine ⟨by have:=j m b h;omega,?_⟩;by_cases z : live b = true
      · obtain ⟨u,s⟩:=key m b h z;obtain ⟨h3,h4⟩:=d.blk m b u;refine h4.mono (fun b r=>setRow_other w g b cs (ae b r)) (fun _ h=>h) (q3p w g old cs t fr hg hs) (fun _ hk=>Yj _ _ hk) q8 h3 ?_;intro p hp' aj;exact setRow_other w g p.1 cs (fun e=>d.sep n m y b _ _ hn u l z hi hp' s e.symm)
      · have : b = .dead:=by cases b <;> simp_all [live]
        subst this;trivial
  · intro m k b c p q u s ab v o a ad;rw [Qy] at u s;by_cases f : nx = m
    · subst f;rw [Y6] at o;cases o;simp only [ad,if_false] at s;obtain ⟨h3,h4⟩:=key k c s v;rw [Yj _ _ (j k c s)] at a;exact fun e=>d.sep n k y c (g,off) q hn h3 l v hi a h4 e
    · simp only [f,if_false] at u;obtain ⟨h3,h4⟩:=key m b u ab;rw [Yj _ _ (j m b u)] at o;by_cases hk : nx = k
      · subst hk;rw [Y6] at a;cases a;exact fun e=>d.sep n m y b (g,off) p hn h3 l ab hi o h4 e.symm
      · simp only [hk,if_false] at s;obtain ⟨h5,h6⟩:=key k c s v;rw [Yj _ _ (j k c s)] at a;exact d.sep m k b c p q h3 h5 ab v o a ad
  · intro m b p h z hp' r;rw [Qy] at h;by_cases f : nx = m
    · subst f;rw [Y6] at hp';cases hp';exact d.out n y _ hn l hi r
    · simp only [f,if_false] at h;obtain ⟨u,_⟩:=key m b h z;rw [Yj _ _ (j m b h)] at hp';exact d.out m b p u z hp' r
theorem Ext.move {hp : List (Nat × Blk)} {nx n : Nat} (s : RelH w Z inj hp nx) {l blk : Blk} (q : find hp n = some l) (d : live l = true) {g off f : Nat} (hi : inj n = some (g,off)) {old cs : Array Value} {t : TypeId} {o : Nat × Nat}
    (p : w.heap[g]? = some (.cells old t o)) (hs : cs.size = old.size) : Ext w Z inj hp (w.setRow g cs) Z (upd inj nx (some (g,f))) ((nx,blk)::repl hp n .dead) nx:=by
  refine ⟨qd,?_,?_,q3p w g old cs t o p hs,qkh w g old cs t o p,fun _ h=>h,fun _ h=>.inl h,fun m k=>Yj _ _ k,rfl,rfl,rfl,qk0 w g old cs t o p⟩
  · intro b _ hb;exact setRow_other w g b cs (fun e=>hb (by rw [e];exact ⟨n,l,off,q,d,hi⟩))
  · rintro b ⟨m,a,u,c,r,j⟩;rw [Qy] at c;by_cases k : nx = m
    · subst k;rw [Y6] at j;cases j;exact .inl ⟨n,l,off,q,d,hi⟩
    · simp only [k,if_false] at c;rw [Kx] at c;by_cases hk : n = m
      · subst hk;simp [q] at c;subst c;simp [live] at r
      · simp only [hk,if_false] at c;rw [Yj _ _ (s.blk m a c).1] at j;exact .inl ⟨m,a,u,c,r,j⟩
end
section
variable {w : World} {Z : Nat→Prop} {inj : Inj} {st : AS} {a : Act} {Ds : List Nat}
theorem qta {a cap b : Nat} (c : cap < a) (d : a * (b * 4)≤room) : Builtin.nextslicecap a cap * b≤281474976710656:=by
  have f:=Nat.mul_le_mul_right b (Room.nextslicecap_le' c);have g : 2 * a * b≤a * (b * 4):=by rw [Nat.mul_comm b 4,← Nat.mul_assoc];exact Nat.mul_le_mul_right b q8
  unfold room at d;omega
theorem quy {a b : Nat} (hb : b≠0) (c : a * (b * 4)≤room) : a≤4294967296:=by
  have : a * 1≤a * (b * 4):=Nat.mul_le_mul_left _ q8;unfold room at c;omega
theorem qe3 {t u ty : TypeId} {i : TI} {e e' : TypeId} {o : TypeInfo} {q : Value} (_h : RelS w Z inj st a Ds) (hu : P.underlying t = some (.slice e)) (ab : P.underlying u = some (.slice e')) (g1 : P.info? e = some o) (g3 : o.zero = some q)
    (g6 : o.size = i.esize) (g7 : i.esize≠0) (g8 : o.bytes = i.ebytes) (g9 : i.ebytes≠0) (gz : q.cells.size = i.esize) {hp1 : List (Nat × Blk)} (hh : RelH w Z inj hp1 st.nx) (z : Ext w Z inj st.hp w Z inj hp1 st.nx)
    {base ad : Option Addr} {cap cap' : Nat} {olds ys : List (List V)} {L0 l : List Value} (n : L0.length = olds.length * i.esize) (p : ERel w Z inj st.nx i.esize olds L0.toArray) (aa : U4 w base L0 olds)
    (y : l.length = ys.length * i.esize) (r : ERel w Z inj st.nx i.esize ys l.toArray) (af : U4 w ad l ys) (hg : cap < olds.length + ys.length) (c : (olds.length + ys.length) * (i.ebytes * 4)≤room)
    {b1 : Blk} (ag : rowsOf b1 = some (i.esize,olds ++ ys)) :
    ∃ x w' inj',(Builtin.append_ #[t,u] ty #[.slice base olds.length cap,.slice ad ys.length cap']).run P w = .ok x w'∧RelV w' Z inj' (st.nx + 1) (.hs st.nx i.esize 0 (olds.length + ys.length)) x∧RelH w' Z inj' ((st.nx,b1)::hp1) (st.nx + 1)∧
      Ext w Z inj st.hp w' Z inj' ((st.nx,b1)::hp1) st.nx:=by
  have k:=qbf (P:=P) (tx:=t) (cap:=cap) g7 hu rfl n p aa;have j:=qbf (P:=P) (tx:=u) (cap:=cap') g7 ab rfl y r af;rw [← g6] at k j;have av:=quy g9 c;have g:=qta hg c;rw [← g8] at g;have d:=run_append_grow_src (P:=P) w t u ty e o q hu g1 g3 base olds.length cap L0 k.cellsD (.slice ad ys.length cap') ys.length l j hg q8 g;have m:=grownCap_ge w (olds.length + ys.length) cap e;generalize grownCap w (olds.length + ys.length) cap e = C at d m;generalize hA : (L0 ++ l).toArray ++ Builtin.zeroCells q.cells (C - (olds.length + ys.length)) = A at d;have f : RelH w.drew Z inj hp1 st.nx:=hh.same rfl;have s : ERel w Z inj st.nx i.esize (olds ++ ys) (L0.toArray ++ l.toArray):=p.append r
  have mono : ∀ v x,RelV w Z inj st.nx v x→RelV (w.drew.alloc (.cells A e)) Z (upd inj st.nx (some (w.heap.size,0))) (st.nx + 1) v x:=fun v x hv=>
    hv.mono (fun b hz=>Zs w.drew _ (hh.zs b hz)) (fun _ h=>h) (q3o w.drew _) (fun _ hm=>Yj _ _ hm) q8
  refine ⟨_,_,upd inj st.nx (some (w.heap.size,0)),d,?_,?_,?_⟩
  · refine .hs q8 m rfl fun _=>⟨w.heap.size,0,Y6 _ _ _,qd,A,e,(0,0),Jb w.drew _,?_⟩
    have h1 : A.size = L0.length + l.length + (C - (olds.length + ys.length)) * i.esize:=by
      rw [← hA];simp [Builtin.zeroCells,gz]
    rw [h1,n,y,← Nat.add_mul,← Nat.add_mul];grind
  · refine f.new (.cells A e) b1 0 ?_;refine q6a ag g7 s.2.1 (.inr ⟨w.heap.size,0,A,e,Y6 _ _ _,Jb w.drew _,?_⟩);have h9:=(s.row (B:=Builtin.zeroCells q.cells (C - (olds.length + ys.length)))).mono mono;simp_all
  · refine z.trans ?_ (Nat.le_refl _);have e1 : Ext w Z inj hp1 w.drew Z inj hp1 st.nx:=Ext.same rfl rfl rfl rfl;exact e1.trans (Ext.new f (.cells A e) b1 0) (Nat.le_refl _)
theorem qow {t u ty : TypeId} {i : TI} {e e' : TypeId} {ie : TypeInfo} (h : RelS w Z inj st a Ds) (hu : P.underlying t = some (.slice e)) (bb : P.underlying u = some (.slice e')) (g1 : P.info? e = some ie)
    (g6 : ie.size = i.esize) (g7 : i.esize≠0) {n off len cap cap' b o : Nat} {b0 b1 : Blk} {xs ys : List (List V)} (s : st.blk n = some b0) (ar : rowsOf b0 = some (i.esize,xs)) (br : off + len≤xs.length)
    (hi : inj n = some (b,o)) (ak : Big w b (o + (off + cap) * i.esize)) (_hlc : len≤cap)
    {ad : Option Addr} {g : List Value} (aj : g.length = ys.length * i.esize) (q : ERel w Z inj st.nx i.esize ys g.toArray) (au : U4 w ad g ys) (hg : len + ys.length≤cap)
    (bd : rowsOf b1 = some (i.esize,(xs.drop off).take len ++ ys)) :
    ∃ x w' inj',(Builtin.append_ #[t,u] ty #[.slice (some ⟨b,o + off * i.esize,none⟩) len cap,.slice ad ys.length cap']).run P w = .ok x w'∧RelV w' Z inj' (st.nx + 1) (.hs st.nx i.esize 0 (len + ys.length)) x∧
      RelH w' Z inj' ((st.nx,b1)::repl st.hp n .dead) (st.nx + 1)∧Ext w Z inj st.hp w' Z inj' ((st.nx,b1)::repl st.hp n .dead) st.nx:=by
  have ah:=qbf (P:=P) (tx:=u) (cap:=cap') g7 bb rfl aj q au;obtain ⟨q1,q2,q3⟩:=q6b (h.heap.blk n b0 s).2 ar;rcases q3 with ⟨_,q4⟩ | ⟨b',o',arr,z,q3,q4,q5⟩
  · grind
  rw [hi] at q3;cases q3;have k : live b0 = true:=by cases b0 <;> simp_all [rowsOf,live]
  have ao : o + (off + cap) * i.esize≤arr.size:=by
    obtain ⟨c,e2,f,k1,k2⟩:=ak;grind
  have bc : g.length = ys.length * i.esize:=aj;have af : (len + ys.length) * i.esize≤cap * i.esize:=Nat.mul_le_mul_right _ hg;rw [Nat.add_mul] at af ao;have m : o + off * i.esize + len * i.esize + g.length≤arr.size:=by omega
  have aa:=run_storeCells_at P b (o + off * i.esize + len * i.esize) z g 0 arr w q4 (by simpa using m) (q.one g7);simp only [Nat.add_zero] at aa;have aw : (arr.toList.take (o + off * i.esize + len * i.esize) ++ g ++ arr.toList.drop (o + off * i.esize + len * i.esize + g.length)).toArray = (splice arr.toList (o + off * i.esize + len * i.esize) g).toArray:=rfl;rw [aw] at aa
  have ag:=qc1 (P:=P) (w:=w) (ty:=ty) hu g1 (base:=some ⟨b,o + off * i.esize,none⟩) (sLen:=len) (sCap:=cap) (x:=.slice ad ys.length cap') (n:=ys.length) (news:=g) (by rw [g6];exact ah) hg
    (w':=w.setRow b (splice arr.toList (o + off * i.esize + len * i.esize) g).toArray) (by show (storeCells ((⟨b,o + off * i.esize,none⟩ : Addr).add (len * ie.size)) g).run P w = _;rw [U5,g6];exact aa)
  have r : o + off * i.esize + len * i.esize + g.length≤arr.toList.length:=by simpa using m
  have p : (splice arr.toList (o + off * i.esize + len * i.esize) g).toArray.size = arr.size:=by simp [q35 _ _ _ r]
  have hz : ∀ b1,Z b1→(w.setRow b (splice arr.toList (o + off * i.esize + len * i.esize) g).toArray).heap[b1]? = w.heap[b1]?:=fun b1 ba=>
    setRow_other w b b1 _ (fun e=>h.heap.out n b0 _ s k hi (by rw [← e];exact ba))
  have av:=q3p w b arr _ z (0,0) q4 p
  have mono : ∀ v x,RelV w Z inj st.nx v x→RelV (w.setRow b (splice arr.toList (o + off * i.esize + len * i.esize) g).toArray) Z (upd inj st.nx (some (b,o + off * i.esize))) (st.nx + 1) v x:=fun v x hv=>
    hv.mono hz (fun _ h=>h) av (fun _ hm=>Yj _ _ hm) q8
  have y : ((xs.drop off).take len).length = len:=by simp;omega
  refine ⟨_,_,upd inj st.nx (some (b,o + off * i.esize)),ag,?_,?_,Ext.move h.heap s k hi q4 p⟩
  · refine .hs q8 hg rfl fun _=>⟨b,o + off * i.esize,Y6 _ _ _,qd,_,_,_,setRow_heap w b _ _ _ _ q4,?_⟩
    grind
  · refine h.heap.move s k hi q4 p (q6a bd g7 ?_ (.inr ⟨b,o + off * i.esize,_,z,Y6 _ _ _,setRow_heap w b _ _ _ _ q4,?_⟩))
    · intro j x l;rw [List.getElem?_append] at l;split at l
      · grind
      · exact q.2.1 _ _ l
    · intro j x j' d l hd;rw [List.getElem?_toArray,Ul _ _ _ _ r];rw [List.getElem?_append] at l;split at l
      · rename_i hj;rw [y] at hj;have ax:=qh8 q2 j x l;have ac : j' < i.esize:=by have:=K7 hd;omega
        have hc:=q4c hj ac;rw [qw q8];rw [List.getElem?_take] at l;rw [qu hj,List.getElem?_drop] at l;obtain ⟨k1,c,k2,k3⟩:=q5 _ x j' d l hd;grind
      · rename_i hj;rw [y] at hj l;obtain ⟨k1,c,k2,k3⟩:=q.2.2 _ x j' d l hd;have ay:=K7 l;have ax:=q.2.1 _ x l;have ac : j' < i.esize:=by have:=K7 hd;omega
        have hc:=q4c ay ac;have he : j * i.esize = len * i.esize + (j - len) * i.esize:=by rw [← Nat.add_mul];congr 1;omega
        grind
theorem qw7 {t u ty : TypeId} {i j : TI} {sv xv v : V} {vs vx : Value} {st1 : AS} (h : RelS w Z inj st a Ds) (ht : tiOf P t = some i) (hu : tiOf P u = some j) (bq : i.kind = .slice) (bo : j.kind = .slice) (hf : U9 i.esize xv = true)
    (am : RelV w Z inj st.nx sv vs) (ax : RelV w Z inj st.nx xv vx) (f : Zd st i sv xv = some (v,st1)) :
    ∃ x w' inj',(Builtin.append_ #[t,u] ty #[vs,vx]).run P w = .ok x w'∧RelV w' Z inj' st1.nx v x∧RelH w' Z inj' st1.hp st1.nx∧Ext w Z inj st.hp w' Z inj' st1.hp st.nx∧st1.sl = st.sl∧st.nx≤st1.nx:=by
  obtain ⟨bw,d,z,k⟩:=Yp ht;obtain ⟨bk,d',z',k'⟩:=Yp hu;have hk:=k.kind;have aq:=k'.kind;unfold Zm at hk aq;simp only [bq,bo] at hk aq;obtain ⟨e,ie,de,ze,rfl,g1,g2,g3,g4,g5,g6,g7,g8,g9,_⟩:=hk;obtain ⟨e',_,_,_,rfl,_⟩:=aq;have gz : ze.cells.size = i.esize:=by have:=(q8e g4).1;simp at this;omega
  have q : ∀ ys b1,Zn st xv = some ys→vs = .slice none 0 0→rowsOf b1 = some (i.esize,ys)→ys.length * (i.ebytes * 4)≤room→ys.length≠0→
      ∃ x w' inj',(Builtin.append_ #[t,u] ty #[vs,vx]).run P w = .ok x w'∧RelV w' Z inj' (st.nx + 1) (.hs st.nx i.esize 0 ys.length) x∧RelH w' Z inj' ((st.nx,b1)::st.hp) (st.nx + 1)∧Ext w Z inj st.hp w' Z inj' ((st.nx,b1)::st.hp) st.nx:=by
    rintro ys b1 hc rfl hr c bx
    obtain ⟨ad,cap',L1,rfl,m,s,r⟩:=qc8 h ax hc hf g7
    have:=qe3 (P:=P) (ty:=ty) h k.und k'.und g1 g3 g6 g7 g8 g9 gz h.heap Ext.refl (base:=none) (cap:=0) (olds:=[]) (L0:=[]) qd .nil (rfl : U4 w none [] []) (cap':=cap') m s r (by simp;omega) (by simpa using c) (b1:=b1) (by simpa using hr)
    simpa using this
  have ab : ∀ ys,Zn st xv = some ys→vs = .slice none 0 0→ys.length = 0→(Builtin.append_ #[t,u] ty #[vs,vx]).run P w = .ok (.slice none 0 0) w:=by
    rintro ys hc rfl y;obtain ⟨ad,cap',L1,rfl,m,s,r⟩:=qc8 h ax hc hf g7;have ae:=qbf (P:=P) (tx:=u) (cap:=cap') g7 k'.und rfl m s r;have:=qc1 (P:=P) (w:=w) (ty:=ty) k.und g1 (base:=none) (sLen:=0) (sCap:=0) (by rw [g6];exact ae) q8 (w':=w) rfl;grind
  have l : ∀ n off len xs ys b0 b1,sv = .hs n i.esize off len→st.blk n = some b0→rowsOf b0 = some (i.esize,xs)→off + len≤xs.length→Zn st xv = some ys→rowsOf b1 = some (i.esize,(xs.drop off).take len ++ ys)→
      (len + ys.length) * (i.ebytes * 4)≤room→
      ∃ x w' inj',(Builtin.append_ #[t,u] ty #[vs,vx]).run P w = .ok x w'∧RelV w' Z inj' (st.nx + 1) (.hs st.nx i.esize 0 (len + ys.length)) x∧RelH w' Z inj' ((st.nx,b1)::repl st.hp n .dead) (st.nx + 1)∧
        Ext w Z inj st.hp w' Z inj' ((st.nx,b1)::repl st.hp n .dead) st.nx:=by
    rintro n off len xs ys b0 b1 rfl be ba bt hc ac c
    obtain ⟨ad,cap',L1,rfl,m,s,r⟩:=qc8 h ax hc hf g7
    have ae:=qbf (P:=P) (tx:=u) (cap:=cap') g7 k'.und rfl m s r
    have ai : ((xs.drop off).take len).length = len:=by simp;omega
    obtain ⟨q1,q2,q3⟩:=q6b (h.heap.blk n b0 be).2 ba
    have p : RelH w Z inj (repl st.hp n .dead) st.nx:=h.heap.drop
    have aa : Ext w Z inj st.hp w Z inj (repl st.hp n .dead) st.nx:=Ext.drop
    have ph : len = 0→ys.length = 0→RelH w Z (upd inj st.nx none) ((st.nx,b1)::repl st.hp n .dead) (st.nx + 1)∧Ext w Z inj st.hp w Z (upd inj st.nx none) ((st.nx,b1)::repl st.hp n .dead) st.nx:=by
      intro h1 h2;have ao : (xs.drop off).take len ++ ys = []:=by subst h1;simp [List.eq_nil_of_length_eq_zero h2]
      refine ⟨p.newPh b1 (q6a ac g7 (by rw [ao];simp) (.inl ⟨ao,Y6 _ _ _⟩)),aa.trans (Ext.newPh p b1) (Nat.le_refl _)⟩
    cases am with
    | hsnil hm=>
      by_cases y : ys.length = 0
      · obtain ⟨p1,p2⟩:=ph rfl y;have:=qc1 (P:=P) (w:=w) (ty:=ty) k.und g1 (base:=none) (sLen:=0) (sCap:=0) (by rw [g6];exact ae) q8 (w':=w) rfl;refine ⟨_,w,_,this,?_,p1,p2⟩;simp only [Nat.zero_add,y];exact .hsnil q8
      · have:=qe3 (P:=P) (ty:=ty) h k.und k'.und g1 g3 g6 g7 g8 g9 gz p aa (base:=none) (cap:=0) (olds:=[]) (L0:=[]) qd .nil (rfl : U4 w none [] []) (cap':=cap') m s r (by simp;omega) (by simpa using c) (b1:=b1) (by simpa using ac);simpa using this
    | @hs _ _ _ _ cap adr hm hcl hsp hcap=>
      by_cases hg : len + ys.length≤cap
      · by_cases az : cap = 0
        · obtain ⟨p1,p2⟩:=ph q8 q8;have hL : L1 = []:=List.eq_nil_of_length_eq_zero (by rw [m,show ys.length = 0 by omega];simp);have:=qc1 (P:=P) (w:=w) (ty:=ty) k.und g1 (base:=some adr) (sLen:=len) (sCap:=cap) (by rw [g6];exact ae) hg (w':=w) (by subst hL;show (storeCells _ []).run P w = _;simp [storeCells]);exact ⟨_,w,_,this,.hs q8 hg hsp (fun h=>absurd az h),p1,p2⟩
        · obtain ⟨b,o,hi,rfl,ap⟩:=hcap az;exact qow (P:=P) (ty:=ty) h k.und k'.und g1 g6 g7 be ba bt hi ap hcl (cap':=cap') m s r hg ac
      · have hold : ∃ L0 : List Value,L0.length = ((xs.drop off).take len).length * i.esize∧ERel w Z inj st.nx i.esize ((xs.drop off).take len) L0.toArray∧U4 w (some adr) L0 ((xs.drop off).take len):=by
          by_cases y : len = 0
          · subst y;exact ⟨[],qd,by simpa using ERel.nil,fun k u hu=>by simp at hu⟩
          · obtain ⟨b,o,hi,rfl,ap⟩:=hcap q8;rcases q3 with ⟨_,q4⟩ | ⟨b',o',arr,ch,q3,q4,q5⟩
            · rw [hi] at q4;cases q4
            · rw [hi] at q3;cases q3;obtain ⟨L,l1,l2,l3⟩:=qgm (w:=w) (Z:=Z) (inj:=inj) (nx:=st.nx) (b:=b) (o:=o + off * i.esize) (xs:=(xs.drop off).take len) g7 (qh8 q2) (q5.cells q4);exact ⟨L,l1,l3,fun k u hu=>by rw [U5];exact l2 k u hu⟩
        obtain ⟨L0,a1,a2,a3⟩:=hold;have:=qe3 (P:=P) (ty:=ty) h k.und k'.und g1 g3 g6 g7 g8 g9 gz p aa (base:=some adr) (cap:=cap) a1 a2 a3 (cap':=cap') m s r (by rw [ai];omega) (by rw [ai];exact c) (b1:=b1) ac;rw [ai] at this;exact this
  cases sv <;> simp only [Zd,reduceCtorEq] at f
  case d x=>
    cases x <;> simp only [reduceCtorEq] at f
    cases am with | d am=>
    cases am
    cases af : Yv st xv with
    | some ys=>
      simp only [af] at f;split at f <;> try simp at f
      rename_i c;have g:=qeo af;by_cases y : ys = []
      · rw [qu y] at f;simp at f;obtain ⟨rfl,rfl⟩:=f;exact ⟨_,w,inj,ab _ g rfl (by simpa using y),.d .nilsl,h.heap,.refl,rfl,Nat.le_refl _⟩
      · rw [qw y] at f;simp at f;obtain ⟨rfl,rfl⟩:=f;have:=q _ (.dat i.esize ys) g rfl rfl (by simpa using c) (by simpa using y);obtain ⟨x,w',inj',h1,h2,h3,h4⟩:=this;exact ⟨x,w',inj',h1,by simpa [AS.new] using h2,h3,h4,rfl,by simp [AS.new]⟩
    | none=>
      simp only [af] at f
      cases g : Zn st xv with
      | none=>simp [g] at f
      | some ys=>
        simp only [g] at f;split at f <;> try simp at f
        rename_i c;by_cases y : ys = []
        · rw [qu y] at f;simp at f;obtain ⟨rfl,rfl⟩:=f;exact ⟨_,w,inj,ab _ g rfl (by simpa using y),.d .nilsl,h.heap,.refl,rfl,Nat.le_refl _⟩
        · rw [qw y] at f;simp at f;obtain ⟨rfl,rfl⟩:=f;obtain ⟨x,w',inj',h1,h2,h3,h4⟩:=q _ (.cel i.esize ys) g rfl rfl c (by simpa using y);exact ⟨x,w',inj',h1,by simpa [AS.new] using h2,h3,h4,rfl,by simp [AS.new]⟩
  case hs n es off len=>
    split at f
    · rename_i k0 xs ys hb af;split at f <;> simp at f
      rename_i aw;obtain ⟨c1,rfl,c3,rfl⟩:=aw;obtain ⟨rfl,rfl⟩:=f;have:=l n off len (xs.map (·.map .d)) (ys.map (·.map .d)) _ (.dat i.esize ((xs.drop off).take len ++ ys)) rfl hb rfl (by simpa using c1) (qeo af) (by simp [rowsOf,List.map_take,List.map_drop]) (by simpa using c3);obtain ⟨x,w',inj',h1,h2,h3,h4⟩:=this;exact ⟨x,w',inj',h1,by simpa [AS.new,AS.setBlk] using h2,h3,h4,rfl,by simp [AS.new,AS.setBlk]⟩
    · rename_i k0 xs hb af;split at f <;> try simp at f
      rename_i ys g;obtain ⟨⟨c1,rfl,c3,rfl⟩,rfl,rfl⟩:=f;have:=l n off len (xs.map (·.map .d)) ys _ (.cel i.esize ((((xs.map (·.map V.d)).drop off).take len) ++ ys)) rfl hb rfl (by simpa using c1) g rfl c3;obtain ⟨x,w',inj',h1,h2,h3,h4⟩:=this;exact ⟨x,w',inj',h1,by simpa [AS.new,AS.setBlk] using h2,h3,h4,rfl,by simp [AS.new,AS.setBlk]⟩
    · rename_i k0 xs hb;split at f <;> try simp at f
      rename_i ys g;obtain ⟨⟨c1,rfl,c3,rfl⟩,rfl,rfl⟩:=f;have:=l n off len xs ys _ (.cel i.esize ((xs.drop off).take len ++ ys)) rfl hb rfl c1 g rfl c3;obtain ⟨x,w',inj',h1,h2,h3,h4⟩:=this;exact ⟨x,w',inj',h1,by simpa [AS.new,AS.setBlk] using h2,h3,h4,rfl,by simp [AS.new,AS.setBlk]⟩
    · simp at f
end
end Go.Am
namespace Go.Am
open Go
variable {P : Program} {T : Tab}
section
variable {w : World} {Z : Nat→Prop} {inj : Inj} {nx : Nat}
theorem RowV.spliceRows {arr : Array Value} {o es off : Nat} {xs ys : List (List V)} {L : List Value} (h : RowV w Z inj nx arr o es xs) (n : ∀ (i : Nat) (x : List V),xs[i]? = some x→x.length = es) (f : ERel w Z inj nx es ys L.toArray)
    (k : off + ys.length≤xs.length) (b : o + off * es + L.length≤arr.size) : RowV w Z inj nx (splice arr.toList (o + off * es) L).toArray o es (splice xs off ys):=by
  have u : L.length = ys.length * es:=by simpa using f.1
  intro i x j d a hd;rw [Ul _ _ _ _ k] at a;rw [List.getElem?_toArray,Ul _ _ _ _ (by simpa using b)];by_cases hi : off≤i∧i < off + ys.length
  · rw [qu hi] at a;obtain ⟨m,c,p,l⟩:=f.2.2 _ x j d a hd;have g : j < es:=by have:=K7 hd;have:=f.2.1 _ x a;omega
    have r:=q4c (K7 a) g;have s : i * es = off * es + (i - off) * es:=by rw [← Nat.add_mul];congr 1;omega
    grind
  · rw [qw hi] at a;obtain ⟨m,c,p,l⟩:=h i x j d a hd;have g : j < es:=by have:=K7 hd;have:=n _ x a;omega
    refine ⟨m,c,?_,l⟩;rw [qw ?_]
    · grind
    · intro r;by_cases q : i < off
      · have:=q4c q g;omega
      · have t : (off + ys.length) * es≤i * es:=Nat.mul_le_mul_right _ q8;grind
theorem ERel.take {es m : Nat} {xs : List (List V)} {L : List Value} (h : ERel w Z inj nx es xs L.toArray) (b : m≤xs.length) : ERel w Z inj nx es (xs.take m) (L.take (m * es)).toArray:=by
  obtain ⟨k,f,g⟩:=h;simp only [List.size_toArray] at k;have:=Nat.mul_le_mul_right es b;refine ⟨by simp;rw [Nat.min_eq_left b];omega,?_,?_⟩
  · grind
  · intro i x j d a hd;rw [List.getElem?_take] at a;split at a
    · rename_i hi;obtain ⟨n,c,o,l⟩:=g i x j d a hd;have p:=q4c hi (show j < es by have:=K7 hd;have:=f _ x a;omega);grind
    grind
end
section
variable {w : World} {Z : Nat→Prop} {inj : Inj} {st : AS} {a : Act} {Ds : List Nat}
theorem qwf {t u ty : TypeId} {i j : TI} {sv xv v : V} {vs vx : Value} {st1 : AS} (h : RelS w Z inj st a Ds) (ht : tiOf P t = some i) (_hu : tiOf P u = some j) (bs : i.kind = .slice) (_hjk : j.kind = .slice) (bq : U9 i.esize sv = true) (hf : U9 i.esize xv = true)
    (aw : RelV w Z inj st.nx sv vs) (bp : RelV w Z inj st.nx xv vx) (ha : copyV st sv xv = some (v,st1)) :
    ∃ x w' inj',(Builtin.copy_ #[t,u] ty #[vs,vx]).run P w = .ok x w'∧RelV w' Z inj' st1.nx v x∧RelH w' Z inj' st1.hp st1.nx∧Ext w Z inj st.hp w' Z inj' st1.hp st.nx∧st1.sl = st.sl∧st.nx≤st1.nx:=by
  obtain ⟨cb,d,z,k⟩:=Yp ht;have hk:=k.kind;unfold Zm at hk;simp only [bs] at hk;obtain ⟨e,ie,de,ze,rfl,g1,g2,g3,g4,g5,g6,g7,g8,g9,_⟩:=hk;cases sv <;> simp only [copyV,reduceCtorEq] at ha
  rename_i n es off len;have bn:=Nat.eq_of_beq_eq_true bq;subst bn;split at ha <;> try simp at ha
  rename_i k0 xs ys hb bo;obtain ⟨⟨cn,rfl⟩,rfl,rfl⟩:=ha;obtain ⟨ad,cap',L1,rfl,am,bm,av⟩:=qc8 h bp (qeo bo) hf g7;rw [List.length_map] at am ⊢
  let m:=min ys.length len
  have hm : m = min ys.length len:=rfl;rw [← hm];obtain ⟨q1,q2,q3⟩:=q6b (h.heap.blk n _ hb).2 rfl;have bz : (xs.map (·.map V.d)).length = xs.length:=by simp
  have bu : m * i.esize≤ys.length * i.esize:=Nat.mul_le_mul_right _ q8
  have ag : (Builtin.firstCells i.esize m (.slice ad ys.length cap')).run P w = .ok (L1.take (m * i.esize)).toArray w:=by
    cases ad with
    | none=>
      have au : ys.map (·.map V.d) = []:=av;have : ys = []:=by simpa using au
      subst this;simp at am;subst am;simp [Builtin.firstCells]
    | some p=>
      have:=run_loadCells_list (P:=P) w p (L1.take (m * i.esize)) (fun k u hu=>by
        rw [List.getElem?_take] at hu;split at hu
        · exact av k u hu
        · simp at hu)
      rw [List.length_take,Nat.min_eq_left q8] at this;simpa [Builtin.firstCells] using this
  have l : ∀ base y ai,y = len→vs = .slice base y ai→∀ w',(match base with | some p=>(storeCells p (L1.take (m * i.esize))).run P w = .ok () w' | none=>w' = w)→
      (Builtin.copy_ #[t,u] ty #[vs,.slice ad ys.length cap']).run P w = .ok (.int .i64 m) w':=by
    rintro base y ai rfl rfl w' aa
    have aq:=ag
    rw [← g6] at aq
    have aj : Nat.min ys.length y = m:=rfl
    cases base with
    | none=>
      subst aa;simp [Builtin.copy_,run_underlying k.und,Builtin.lenOf,Zq g1,goInt,aj,aq]
    | some p=>
      have ah : (storeCells p (L1.take (m * i.esize))).run P w = .ok () w':=aa;rw [← g6] at ah;simp [Builtin.copy_,run_underlying k.und,Builtin.lenOf,Zq g1,ah,goInt,aj,aq]
  have s : live (.dat i.esize xs) = true:=rfl
  have same : m = 0→RelH w Z inj (repl st.hp n (.dat i.esize (splice xs off (ys.take m)))) st.nx∧Ext w Z inj st.hp w Z inj (repl st.hp n (.dat i.esize (splice xs off (ys.take m)))) st.nx:=by
    intro h0;have an : splice xs off (ys.take m) = xs:=by rw [h0];simp [splice]
    rw [an]
    have g : ∀ q,find (repl st.hp n (.dat i.esize xs)) q = find st.hp q:=by
      intro q;rw [Kx];by_cases hq : n = q
      · subst hq;have : find st.hp n = some (.dat i.esize xs):=hb;simp [this]
      · simp [hq]
    constructor
    · exact ⟨fun q b hq=>h.heap.blk q b (by rw [g] at hq;exact hq),fun q r b c p' q' h1 h2=>h.heap.sep q r b c p' q' (by rw [g] at h1;exact h1) (by rw [g] at h2;exact h2),fun q b p' h1=>h.heap.out q b p' (by rw [g] at h1;exact h1),h.heap.zs,h.heap.zc⟩
    · exact {Ext.refl (w:=w) (Z:=Z) (inj:=inj) (hp:=st.hp) (pin:=st.nx) with imm:=fun b hb=>by obtain ⟨q,blk,o,h1,h2,h3⟩:=hb;rw [g] at h1;exact .inl ⟨q,blk,o,h1,h2,h3⟩}
  have ae : ∀ w' inj' nx',RelV w' Z inj' nx' (.d (.int .i64 ((min ys.length len : Nat) : Int))) (.int .i64 (m : Nat)):=fun _ _ _=>.d (.int _ _);by_cases h0 : m = 0
  · obtain ⟨s1,s2⟩:=same h0
    cases aw with
    | hsnil=>exact ⟨_,w,inj,l none _ _ rfl rfl w rfl,ae _ _ _,s1,s2,rfl,Nat.le_refl _⟩
    | @hs _ _ _ _ cap adr hn' hlc _ hcap=>exact ⟨_,w,inj,l (some adr) _ _ rfl rfl w (by show (storeCells _ _).run P w = _;rw [h0];simp [storeCells]),ae _ _ _,s1,s2,rfl,Nat.le_refl _⟩
  · cases aw with
    | hsnil=>omega
    | @hs _ _ _ _ cap adr hn' hlc _ hcap=>
      obtain ⟨b,o,hi,rfl,ay⟩:=hcap q8;rcases q3 with ⟨_,q4⟩ | ⟨b',o',arr,ao,q3,q4,q5⟩
      · grind
      rw [hi] at q3;cases q3;have hL : (L1.take (m * i.esize)).length = m * i.esize:=by rw [List.length_take,Nat.min_eq_left q8]
      have af:=bm.take (m:=m) (by simp;omega)
      have bk : o + (off + cap) * i.esize≤arr.size:=by
        obtain ⟨c,e2,f,k1,k2⟩:=ay;grind
      have cf : m * i.esize≤cap * i.esize:=Nat.mul_le_mul_right _ q8;rw [Nat.add_mul] at bk;have aa:=run_storeCells_at P b (o + off * i.esize) ao (L1.take (m * i.esize)) 0 arr w q4 (by rw [hL];omega) (af.one g7);simp only [Nat.add_zero] at aa;have an : (arr.toList.take (o + off * i.esize) ++ L1.take (m * i.esize) ++ arr.toList.drop (o + off * i.esize + (L1.take (m * i.esize)).length)).toArray = (splice arr.toList (o + off * i.esize) (L1.take (m * i.esize))).toArray:=rfl;rw [an] at aa;have ap : o + off * i.esize + (L1.take (m * i.esize)).length≤arr.toList.length:=by rw [hL];simp;omega
      have ac : (splice arr.toList (o + off * i.esize) (L1.take (m * i.esize))).toArray.size = arr.size:=by simp only [List.size_toArray];rw [q35 _ _ _ ap];simp
      have hz : ∀ b1,Z b1→(w.setRow b (splice arr.toList (o + off * i.esize) (L1.take (m * i.esize))).toArray).heap[b1]? = w.heap[b1]?:=fun b1 br=>
        setRow_other w b b1 _ (fun e=>h.heap.out n _ _ hb s hi (by rw [← e];exact br))
      have bl:=q3p w b arr _ ao (0,0) q4 ac;have cj : (ys.take m).length = m:=by rw [List.length_take,Nat.min_eq_left q8]
      refine ⟨_,_,inj,l (some ⟨b,o + off * i.esize,none⟩) _ _ rfl rfl _ aa,ae _ _ _,?_,Ext.set h.heap hb s hi q4 ac,rfl,Nat.le_refl _⟩;refine h.heap.set hb s hi q4 ac (q6a (es:=i.esize) (xs:=splice (xs.map (·.map V.d)) off ((ys.map (·.map V.d)).take m)) ?_ g7 ?_ (.inr ⟨b,o,_,ao,hi,setRow_heap w b _ _ _ _ q4,?_⟩))
      · simp only [rowsOf,splice,List.map_append,List.map_take,List.map_drop,Option.some.injEq,Prod.mk.injEq,true_and];simp
      · intro i' x' al;rw [Ul _ _ _ _ (by simp;omega)] at al;split at al
        · exact af.2.1 _ _ al
        grind
      · refine (q5.spliceRows q2 af (by simp;omega) (by rw [hL];omega)).mono fun v x hr=>hr.mono hz (fun _ h=>h) bl (fun _ _=>rfl) (Nat.le_refl _)
theorem qwd {t ty : TypeId} {i : TI} {sv v : V} {vs : Value} {st1 : AS} (h : RelS w Z inj st a Ds) (ht : tiOf P t = some i) (bf : i.kind = .slice) (az : U9 i.esize sv = true) (u : RelV w Z inj st.nx sv vs) (ha : Us st i sv = some (v,st1)) :
    ∃ x w' inj',(Builtin.clear_ #[t] ty #[vs]).run P w = .ok x w'∧RelV w' Z inj' st1.nx v x∧RelH w' Z inj' st1.hp st1.nx∧Ext w Z inj st.hp w' Z inj' st1.hp st.nx∧st1.sl = st.sl∧st.nx≤st1.nx:=by
  obtain ⟨bj,d,z,k⟩:=Yp ht;have hk:=k.kind;unfold Zm at hk;simp only [bf] at hk;obtain ⟨e,ie,de,ze,rfl,g1,g2,g3,g4,g5,g6,g7,g8,g9,_⟩:=hk;have y : ∀ w' inj' nx',RelV w' Z inj' nx' (.d (.tup [])) (.tuple #[]):=fun _ _ _=>.d (.tup qd qd);cases sv <;> simp only [Us,reduceCtorEq] at ha
  case d x=>
    cases x <;> simp only [reduceCtorEq,Option.some.injEq,Prod.mk.injEq] at ha
    obtain ⟨rfl,rfl⟩:=ha
    cases u with | d u=>
    cases u;exact ⟨_,w,inj,by simp [Builtin.clear_,run_underlying k.und],y _ _ _,h.heap,.refl,rfl,Nat.le_refl _⟩
  case hs n es off len=>
  have bd:=Nat.eq_of_beq_eq_true az;subst bd;split at ha <;> try simp at ha
  rename_i k0 xs hb;obtain ⟨⟨br,rfl⟩,rfl,rfl⟩:=ha;obtain ⟨q1,q2,q3⟩:=q6b (h.heap.blk n _ hb).2 rfl;have m : live (.dat i.esize xs) = true:=rfl;by_cases h0 : len = 0
  · subst h0;have ag : splice xs off (List.replicate 0 i.ezero) = xs:=by simp [splice]
    have g : ∀ q,find (repl st.hp n (.dat i.esize (splice xs off (List.replicate 0 i.ezero)))) q = find st.hp q:=by
      intro q;rw [ag,Kx];by_cases hq : n = q
      · subst hq;have : find st.hp n = some (.dat i.esize xs):=hb;simp [this]
      · simp [hq]
    have s1 : RelH w Z inj (repl st.hp n (.dat i.esize (splice xs off (List.replicate 0 i.ezero)))) st.nx:=
      ⟨fun q b hq=>h.heap.blk q b (by rw [g] at hq;exact hq),fun q r b c p' q' h1 h2=>h.heap.sep q r b c p' q' (by rw [g] at h1;exact h1) (by rw [g] at h2;exact h2),fun q b p' h1=>h.heap.out q b p' (by rw [g] at h1;exact h1),h.heap.zs,h.heap.zc⟩
    have s2 : Ext w Z inj st.hp w Z inj (repl st.hp n (.dat i.esize (splice xs off (List.replicate 0 i.ezero)))) st.nx:=
      {Ext.refl (w:=w) (Z:=Z) (inj:=inj) (hp:=st.hp) (pin:=st.nx) with imm:=fun b hb=>by obtain ⟨q,blk,o,h1,h2,h3⟩:=hb;rw [g] at h1;exact .inl ⟨q,blk,o,h1,h2,h3⟩}
    cases u with
    | hsnil=>exact ⟨_,w,inj,by simp [Builtin.clear_,run_underlying k.und],y _ _ _,s1,s2,rfl,Nat.le_refl _⟩
    | @hs _ _ _ _ cap adr hn' hlc _ hcap=>exact ⟨_,w,inj,by simp [Builtin.clear_,run_underlying k.und],y _ _ _,s1,s2,rfl,Nat.le_refl _⟩
  · cases u with
    | hsnil=>omega
    | @hs _ _ _ _ cap adr hn' hlc _ hcap=>
      obtain ⟨b,o,hi,rfl,ao⟩:=hcap q8;rcases q3 with ⟨_,q4⟩ | ⟨b',o',arr,ah,q3,q4,q5⟩
      · grind
      rw [hi] at q3;cases q3;obtain ⟨p,ae⟩ : ∃ p,p = (Builtin.zeroCells ze.cells len).toList:=⟨_,rfl⟩
      have ay : ze.cells.size = i.esize:=by
        have:=(q7s (w:=w) (Z:=Z) g4).1;omega
      have hL : p.length = len * i.esize:=by rw [ae];simp [Builtin.zeroCells,ay]
      have ab : ERel w Z inj st.nx i.esize ((List.replicate len i.ezero).map (·.map V.d)) p.toArray:=by
        refine ⟨by simp [hL],fun q x hx=>?_,fun q x j d hx hd=>?_⟩
        · grind
        · rw [List.getElem?_map,List.getElem?_replicate] at hx;split at hx <;> simp at hx
          rename_i hq;subst hx;rw [List.getElem?_map] at hd
          cases ad : i.ezero[j]? with
          | none=>rw [ad] at hd;cases hd
          | some d'=>
            rw [ad] at hd;cases hd;obtain ⟨c,hc,hr,af⟩:=qhk (w:=w) (Z:=Z) g4 g5 hq ad;refine ⟨af,c,?_,.d hr⟩;rw [ae,Array.toArray_toList];unfold Builtin.zeroCells;grind
      have aw : o + (off + cap) * i.esize≤arr.size:=by
        obtain ⟨c,e2,f,k1,k2⟩:=ao;grind
      have bt : len * i.esize≤cap * i.esize:=Nat.mul_le_mul_right _ q8;rw [Nat.add_mul] at aw;have aa:=run_storeCells_at P b (o + off * i.esize) ah p 0 arr w q4 (by rw [hL];omega) (ab.one g7);simp only [Nat.add_zero] at aa;have ag : (arr.toList.take (o + off * i.esize) ++ p ++ arr.toList.drop (o + off * i.esize + p.length)).toArray = (splice arr.toList (o + off * i.esize) p).toArray:=rfl;rw [ag] at aa;have aj : o + off * i.esize + p.length≤arr.toList.length:=by rw [hL];simp;omega
      have s : (splice arr.toList (o + off * i.esize) p).toArray.size = arr.size:=by simp only [List.size_toArray];rw [q35 _ _ _ aj];simp
      have hz : ∀ b1,Z b1→(w.setRow b (splice arr.toList (o + off * i.esize) p).toArray).heap[b1]? = w.heap[b1]?:=fun b1 be=>
        setRow_other w b b1 _ (fun e=>h.heap.out n _ _ hb m hi (by rw [← e];exact be))
      have ax:=q3p w b arr _ ah (0,0) q4 s
      have an : (Builtin.clear_ #[t] ty #[.slice (some ⟨b,o + off * i.esize,none⟩) len cap]).run P w = .ok (.tuple #[]) (w.setRow b (splice arr.toList (o + off * i.esize) p).toArray):=by
        obtain ⟨l,rfl⟩ : ∃ l,len = l + 1:=⟨len - 1,q8⟩
        have av : (zeroValue e).run P w = .ok ze w:=by simp [zeroValue,typeInfo,g1,g3]
        rw [ae] at aa ⊢;simp [Builtin.clear_,run_underlying k.und,av,aa]
      refine ⟨_,_,inj,an,y _ _ _,?_,Ext.set h.heap hb m hi q4 s,rfl,Nat.le_refl _⟩;refine h.heap.set hb m hi q4 s (q6a (es:=i.esize) (xs:=splice (xs.map (·.map V.d)) off ((List.replicate len i.ezero).map (·.map V.d))) ?_ g7 ?_ (.inr ⟨b,o,_,ah,hi,setRow_heap w b _ _ _ _ q4,?_⟩))
      · simp only [rowsOf,splice,List.map_append,List.map_take,List.map_drop,Option.some.injEq,Prod.mk.injEq,true_and];simp
      · intro i' x' bb;rw [Ul _ _ _ _ (by simp;omega)] at bb;grind
      · refine (q5.spliceRows q2 ab (by simp;omega) (by rw [hL];omega)).mono fun v x hr=>hr.mono hz (fun _ h=>h) ax (fun _ _=>rfl) (Nat.le_refl _)
end
end Go.Am
namespace Go.Am
open Go
open Classical in
theorem qcn {a : DV} {r : List DV} {ks : List (Option IntKind)} (h : Yt (a::r) = some ks) : ∃ k l,ks = k::l∧Yt r = some l∧((∃ c n,k = some c∧a = .int c n)∨∃ b,k = none∧a = .bool b):=by
  cases a <;> simp only [Yt,reduceCtorEq] at h <;> cases d : Yt r <;> simp only [d,reduceCtorEq,Option.some.injEq] at h
  · subst h;exact ⟨_,_,rfl,rfl,.inl ⟨_,_,rfl,rfl⟩⟩
  · subst h;exact ⟨_,_,rfl,rfl,.inr ⟨_,rfl,rfl⟩⟩
theorem qkl : ∀ {xs : List DV} {ks : List (Option IntKind)},Yt xs = some ks→xs.length = ks.length
  | [],ks,h=>by simp [Yt] at h;subst h;rfl
  | a::r,ks,h=>by
    obtain ⟨k,l,rfl,b,_⟩:=qcn h
    simp [qkl b]
open Classical in
theorem qec : ∀ {ks : List (Option IntKind)} {xs ys : List DV},Yt xs = some ks→Yt ys = some ks→Ke ks xs ys = some (decide (xs = ys))
  | ks,[],ys,h1,h2=>by
    simp [Yt] at h1;subst h1
    cases ys with
    | nil=>simp [Ke]
    | cons b s=>obtain ⟨k,l,e,_⟩:=qcn h2;cases e
  | ks,a::r,ys,h1,h2=>by
    obtain ⟨k,l,rfl,j,m⟩:=qcn h1
    cases ys with
    | nil=>simp [Yt] at h2
    | cons b s=>
      obtain ⟨q,l',e,o,g⟩:=qcn h2
      cases e
      have h:=qec j o
      rcases m with ⟨p,n,rfl,rfl⟩ | ⟨b1,rfl,rfl⟩
      · rcases g with ⟨c,f,e,rfl⟩ | ⟨b2,e,_⟩
        · cases e
          simp only [Ke,Jr,h,and_self,if_true]
          by_cases d : n = f <;> simp [d]
        · cases e
      · rcases g with ⟨c,f,e,_⟩ | ⟨b2,_,rfl⟩
        · cases e
        · simp only [Ke,Jr,h]
          by_cases d : b1 = b2 <;> simp [d]
theorem qia : ∀ {ks : List (Option IntKind)} {xs ys : List DV} {b : Bool},Ke ks xs ys = some b→Yt xs = some ks∧Yt ys = some ks
  | [],[],[],_,_=>⟨rfl,rfl⟩
  | [],[],_::_,_,h=>by simp [Ke] at h
  | [],_::_,_,_,h=>by simp [Ke] at h
  | _::_,[],_,_,h=>by simp [Ke] at h
  | _::_,_::_,[],_,h=>by simp [Ke] at h
  | k::ks,a::xs,b::ys,r,h=>by
    simp only [Ke] at h
    split at h <;> simp at h
    rename_i p q hp f
    obtain ⟨d,c⟩:=qia f
    cases k with
    | none=>cases a <;> cases b <;> simp only [Jr,reduceCtorEq] at hp;exact ⟨by simp [Yt,d],by simp [Yt,c]⟩
    | some k=>
      cases a <;> cases b <;> simp only [Jr,reduceCtorEq] at hp
      split at hp <;> simp at hp
      rename_i hk
      obtain ⟨rfl,rfl⟩:=hk
      exact ⟨by simp [Yt,d],by simp [Yt,c]⟩
theorem q5n {ag : Bool} {ks : List (Option IntKind)} {k : DV} : Yk ag ks k = true↔Ys k = ag∧Yt (cellsD k) = some ks:=by
  unfold Yk;cases h : Yt (cellsD k) <;> simp
theorem qtu {a b : DV} (h : Ys a = Ys b) (c : cellsD a = cellsD b) : a = b:=by
  cases a <;> cases b <;> simp_all [Ys,cellsD]
open Classical in
theorem qfo {α : Type} {ag : Bool} {ks : List (Option IntKind)} {k : DV} (hk : Yk ag ks k = true) : ∀ {es : List (DV × α)},(∀ e∈es,Yk ag ks e.1 = true)→Za ag ks k es = some (es.findIdx? fun e=>decide (e.1 = k))
  | [],_=>rfl
  | (a,v)::es,h=>by
    have d:=qfo hk (es:=es) fun e f=>h e (List.mem_cons_of_mem _ f)
    have c:=q5n.1 (h (a,v) List.mem_cons_self)
    have b:=q5n.1 hk
    simp only [Za,qu (⟨b.1,c.1⟩ : Ys k = ag∧Ys a = ag),qec b.2 c.2]
    by_cases e : a = k
    · subst e;simp [List.findIdx?_cons]
    · have : ¬ cellsD k = cellsD a:=fun g=>e (qtu (c.1.trans b.1.symm) g.symm)
      simp only [this,decide_false,d,List.findIdx?_cons,e]
      cases List.findIdx? (fun e=>decide (e.1 = k)) es <;> simp
theorem qkk {α : Type} {ag : Bool} {ks : List (Option IntKind)} {k : DV} {es es2 : List (DV × α)} {r : Option Nat} (h : Jm es2) (hp : es2.Perm es) (c : Za ag ks k es = some r) : ∀ e∈es2,Yk ag ks e.1 = true:=by
  obtain ⟨_,j,l,h⟩:=h
  cases es with
  | nil=>intro e f;rw [hp.mem_iff] at f;cases f
  | cons e0 es=>
    have d:=q5n.1 (h e0 (hp.mem_iff.2 List.mem_cons_self));obtain ⟨a,v⟩:=e0;simp only [Za] at c;split at c <;> try simp at c
    rename_i hk
    have : ∃ b,Ke ks (cellsD k) (cellsD a) = some b:=by
      cases n : Ke ks (cellsD k) (cellsD a) with
      | none=>rw [n] at c;simp at c
      | some b=>exact ⟨b,rfl⟩
    obtain ⟨b,hb⟩:=this;have m:=(qia hb).2;simp only at d;rw [m] at d;obtain ⟨e1,g⟩:=d;cases g;rw [hk.2] at e1;subst e1;exact h
theorem q26 {α : Type} (x : α) {y : α} : ∀ {l : List α} {j : Nat},l[j]? = some y→(l.set j x).Perm (x::l.eraseIdx j)∧l.Perm (y::l.eraseIdx j)
  | [],j,h=>by simp at h
  | a::r,0,h=>by simp at h;subst h;exact ⟨.refl _,.refl _⟩
  | a::r,j + 1,h=>by
    obtain ⟨b,c⟩:=q26 x (l:=r) (j:=j) (by simpa using h)
    exact ⟨(b.cons a).trans (.swap _ _ _),(c.cons a).trans (.swap _ _ _)⟩
theorem qve {α : Type} {es : List (DV × α)} (h : (es.map (·.1)).Nodup) {k : DV} {u v : α} (c : (k,u)∈es) (d : (k,v)∈es) : u = v:=by
  induction es with
  | nil=>cases c
  | cons e r ih=>
    simp only [List.map_cons,List.nodup_cons,List.mem_map,not_exists,not_and] at h;rcases List.mem_cons.1 c with b | b <;> rcases List.mem_cons.1 d with a | a
    · rw [← b] at a;exact ((Prod.mk.inj a).2).symm
    · exact absurd (by rw [← b]) (h.1 _ a)
    · exact absurd (by rw [← a]) (h.1 _ b)
    · exact ih h.2 b a
theorem q64 {α : Type} {ag : Bool} {ks : List (Option IntKind)} {k : DV} {es es2 : List (DV × α)} {r : Option Nat} (q : Za ag ks k es = some r) (hk : Yk ag ks k = true) (h : Jm es2) (hp : es2.Perm es) :
    (∃ j d v,r = some j∧es[j]? = some (k,v)∧Za ag ks k es2 = some (some d)∧es2[d]? = some (k,v)∧∀ u,(es2.set d (k,u)).Perm (es.set j (k,u))∧∀ (o : Bool),(o = true→es2 = es)→(o = true→es2.set d (k,u) = es.set j (k,u)))∨(r = none∧Za ag ks k es2 = some none∧∀ e∈es2,e.1≠k):=by
  classical
  have b:=qkk h hp q;have g : ∀ e∈es,Yk ag ks e.1 = true:=fun e m=>b e (hp.mem_iff.2 m);have e1:=qfo hk b;have f:=qfo hk g;rw [q] at f;have f:=Zl f
  have val : ∀ {l : List (DV × α)} {j : Nat},l.findIdx? (fun e=>decide (e.1 = k)) = some j→∃ v,l[j]? = some (k,v):=by
    intro l j hj;obtain ⟨y,w,_⟩:=List.findIdx?_eq_some_iff_getElem.1 hj;refine ⟨l[j].2,?_⟩;rw [List.getElem?_eq_getElem y];have:=of_decide_eq_true w;rw [← this]
  cases r with
  | none=>
    right;have hn:=List.findIdx?_eq_none_iff.1 f.symm
    have n : ∀ e∈es2,e.1≠k:=fun e m z=>by
      have:=hn e (hp.mem_iff.1 m);simp [z] at this
    refine ⟨rfl,?_,n⟩;rw [e1];congr 1;exact List.findIdx?_eq_none_iff.2 fun e m=>by simpa using n e m
  | some j=>
    left;obtain ⟨v,p⟩:=val f.symm;have t : (k,v)∈es2:=hp.mem_iff.2 (List.mem_of_getElem? p)
    cases a : es2.findIdx? (fun e=>decide (e.1 = k)) with
    | none=>have:=List.findIdx?_eq_none_iff.1 a _ t;simp at this
    | some d=>
      obtain ⟨v2,c⟩:=val a;have:=qve h.1 t (List.mem_of_getElem? c);subst this;refine ⟨j,d,v,rfl,p,by rw [e1,a],c,fun u=>⟨?_,fun o ho x=>?_⟩⟩
      · have s:=q26 (k,u) p;have p2:=q26 (k,u) c;have : (es2.eraseIdx d).Perm (es.eraseIdx j):=(List.perm_cons (k,v)).1 (p2.2.symm.trans (hp.trans s.2));exact p2.1.trans ((this.cons _).trans s.1.symm)
      · have m:=ho x;subst m;rw [a] at f;cases f;rfl
theorem qty {α : Type} {es : List (DV × α)} (h : Jm es) {j : Nat} {k : DV} {v : α} (b : es[j]? = some (k,v)) (u : α) : Jm (es.set j (k,u)):=by
  obtain ⟨l,ag,ks,c⟩:=h
  have a : (es.set j (k,u)).map (·.1) = es.map (·.1):=by
    apply List.ext_getElem?;intro i;simp only [List.getElem?_map,List.getElem?_set];by_cases hi : j = i
    · subst hi;rw [qu rfl,qu (K7 b),b];rfl
    · simp [hi]
  refine ⟨by rw [a];exact l,ag,ks,fun e f=>?_⟩;have : e.1∈es.map (·.1):=by rw [← a];exact List.mem_map_of_mem f
  obtain ⟨m,d,g⟩:=List.mem_map.1 this;rw [← g];exact c m d
theorem qtx {α : Type} {es : List (DV × α)} {ag : Bool} {ks : List (Option IntKind)} (h : Jm es) (d : ∀ e∈es,Yk ag ks e.1 = true) {k : DV} (hk : Yk ag ks k = true) (j : ∀ e∈es,e.1≠k) (v : α) : Jm (es ++ [(k,v)]):=by
  refine ⟨?_,ag,ks,fun e c=>?_⟩
  · rw [List.map_append,List.nodup_append];refine ⟨h.1,qd,fun a f b hb=>?_⟩;simp at hb;subst hb;obtain ⟨e,g,rfl⟩:=List.mem_map.1 f;exact j e g
  · rcases List.mem_append.1 c with c | c
    · exact d e c
    · simp at c;subst c;exact hk
end Go.Am
