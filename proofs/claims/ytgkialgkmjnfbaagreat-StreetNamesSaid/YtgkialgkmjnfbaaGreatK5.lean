/- Am20 Am21 Am22 Am22b -/
import Derived.Test.YtgkialgkmjnfbaaGreatK4
import Derived.OrdersIn
import Derived.RangeFuncCalls
namespace Go.Am
open Go
variable {P : Program} {T : Tab}
section
variable {w : World} {Z : Nat→Prop} {inj : Inj} {hp : List (Nat × Blk)} {nx : Nat}
theorem q5q {α β : Type} {f : α→Option β} : ∀ {l : List α} {r : List β},Zp f l = some r→r.length = l.length∧∀ (i : Nat) (x : α),l[i]? = some x→∃ y,r[i]? = some y∧f x = some y
  | [],r,h=>by simp [Zp] at h;subst h;simp
  | x::l,r,h=>by
    simp only [Zp] at h
    split at h <;> try simp at h
    rename_i y d
    split at h <;> simp at h
    rename_i m b
    subst h
    obtain ⟨j,c⟩:=q5q b
    refine ⟨by simp [j],fun i z a=>?_⟩
    cases i with
    | zero=>simp at a;subst a;exact ⟨y,rfl,d⟩
    | succ i=>simp at a;obtain ⟨u,k,g⟩:=c i z a;exact ⟨u,by simpa using k,g⟩
def zAll (w : World) (Z : Nat→Prop) (inj : Inj) (hp : List (Nat × Blk)) (b : Nat) : Prop:=Z b∨(im hp inj b∧∃ c e f,w.heap[b]? = some (.cells c e f))
theorem q137 {k : Nat} {v : V} {d : DV} (h : toD hp k v = some d) (a : Kh v = true) : Zk d = true:=by
  cases k with
  | zero=>cases v <;> simp [toD] at h;subst h;exact a
  | succ k=>
    cases v with
    | d x=>simp [toD] at h;subst h;exact a
    | agg cs=>simp [Kh] at a
    | tup cs=>simp [Kh] at a
    | dead=>simp [Kh] at a
    | fn f cs=>simp only [toD,Y0] at h;obtain ⟨_,_,rfl⟩:=h;rfl
    | yld n=>simp [toD] at h
    | mp n=>simp [toD] at h
    | it n=>simp [toD] at h
    | dref cs j=>simp [toD] at h
    | hs n es o l=>
      simp only [toD] at h;split at h
      · split at h <;> simp at h;subst h;rfl
      · split at h <;> simp at h;obtain ⟨_,_,rfl⟩:=h;rfl
      · simp at h
    | ref n es i j=>
      simp only [toD] at h;split at h
      · split at h <;> simp at h;subst h;rfl
      · split at h <;> simp at h;obtain ⟨_,_,rfl⟩:=h;rfl
      · simp at h
theorem qbo (h : RelH w Z inj hp nx) : ∀ (k : Nat) {v : V} {x : Value} {d : DV},toD hp k v = some d→RelV w Z inj nx v x→RelD w (zAll w Z inj hp) d x
  | 0,v,x,d,hd,hv=>by
    cases v <;> simp [toD] at hd
    subst hd
    cases hv with | d hv=>exact hv.mono (fun _ _=>rfl) (fun _ hz=>.inl hz)
  | k + 1,v,x,d,hd,hv=>by
    have hz : ∀ b,Z b→zAll w Z inj hp b:=fun _ hz=>.inl hz
    have ih:=fun {v : V} {x : Value} {d : DV}=>qbo h k (v:=v) (x:=x) (d:=d)
    have list : ∀ {cs : List V} {ds : List DV} {xs : Array Value},Zp (toD hp k) cs = some ds→cs.length = xs.size→(∀ (i : Nat) (d : V) (c : Value),cs[i]? = some d→xs[i]? = some c→RelV w Z inj nx d c)→
        ds.length = xs.size∧∀ (i : Nat) (d : DV) (c : Value),ds[i]? = some d→xs[i]? = some c→RelD w (zAll w Z inj hp) d c:=by
      intro cs ds xs hm hl hr;obtain ⟨h1,h2⟩:=q5q hm;refine ⟨q8,fun i d c hd hc=>?_⟩;obtain ⟨y,hy⟩:=Yq h1 hd;obtain ⟨d',q,hf⟩:=h2 i y hy;rw [hd] at q;cases q;exact ih hf (hr i y c hy hc)
    cases v with
    | d y=>simp [toD] at hd;subst hd;cases hv with | d hv=>exact hv.mono (fun _ _=>rfl) hz
    | agg cs=>
      simp only [toD,Y0] at hd;obtain ⟨ds,hm,rfl⟩:=hd
      cases hv with | agg h1 h2=>obtain ⟨a,b⟩:=list hm h1 h2;exact .agg a b
    | tup cs=>
      simp only [toD,Y0] at hd;obtain ⟨ds,hm,rfl⟩:=hd
      cases hv with | tup h1 h2=>obtain ⟨a,b⟩:=list hm h1 h2;exact .tup a b
    | fn f cs=>
      simp only [toD,Y0] at hd;obtain ⟨ds,hm,rfl⟩:=hd
      cases hv with | fn h1 h2=>obtain ⟨a,b⟩:=list hm h1 h2;exact .fn a b
    | dead=>simp [toD] at hd
    | yld n=>simp [toD] at hd
    | mp n=>simp [toD] at hd
    | it n=>simp [toD] at hd
    | dref cs j=>simp [toD] at hd
    | hs n es o l=>
      have key : ∀ (rows : List (List DV)) (blk : Blk),rows.length = l→find hp n = some blk→live blk = true→(∀ (i : Nat) (x : List DV),rows[i]? = some x→x.length = es)→
          (∀ b r,inj n = some (b,r)→∃ arr ty,w.heap[b]? = some (.cells arr ty (0,0))∧∀ (i : Nat) (x : List DV) (j : Nat) (d : DV),rows[i]? = some x→x[j]? = some d→Zk d = true∧∃ c,arr[r + ((o + i) * es + j)]? = some c∧RelD w (zAll w Z inj hp) d c)→
          RelD w (zAll w Z inj hp) (.sl es rows) x:=by
        intro rows blk ae hb s z t
        cases hv with
        | hsnil h1=>
          have : rows = []:=List.length_eq_zero_iff.1 ae;subst this;exact .slnil es
        | @hs _ _ _ _ cap ad h1 h2 h3 h4=>
          obtain ⟨bb,oo,sp⟩:=ad;simp only at h3;subst h3;by_cases h0 : l = 0
          · have : rows = []:=List.length_eq_zero_iff.1 q8;subst this;subst h0;exact RelD.sl (es:=es) (xs:=[]) qd qd qd qd qd
          · obtain ⟨b,r,e1,e2,e3⟩:=h4 q8;rw [e2];obtain ⟨arr,ty,b5,b6⟩:=t b r e1;have e9 : ∀ i j,r + o * es + (i * es + j) = r + ((o + i) * es + j):=by intro i j;rw [Nat.add_mul];omega
            have hc : ∀ (i : Nat) (x : List DV) (j : Nat) (d : DV),rows[i]? = some x→x[j]? = some d→Zk d = true∧∃ c,w.cell? ⟨b,r + o * es + (i * es + j),none⟩ = some c∧RelD w (zAll w Z inj hp) d c:=by
              intro i x j d g hd;obtain ⟨c1,c,c2,c3⟩:=b6 _ x j d g hd;exact ⟨c1,c,by rw [e9];simp only [World.cell?,b5];exact c2,c3⟩
            have:=RelD.sl (w:=w) (Z:=zAll w Z inj hp) (es:=es) (xs:=rows) (b:=b) (o:=r + o * es) (cap:=cap) (by rw [ae];exact h2) (fun _=>.inr ⟨⟨n,blk,r,hb,s,e1⟩,_,_,_,b5⟩) z
              (fun i x j d g hd=>by obtain ⟨c1,c,c2,_⟩:=hc i x j d g hd;exact ⟨c1,c,c2⟩)
              (fun i x j d c g hd ag=>by obtain ⟨_,c',c2,c3⟩:=hc i x j d g hd;rw [c2] at ag;cases ag;exact c3)
            rw [ae] at this;exact this
      simp only [toD] at hd;split at hd
      · rename_i m xs hb;split at hd <;> simp at hd
        rename_i ai;obtain ⟨ai,rfl⟩:=ai;subst hd;obtain ⟨b1,b2,b3⟩:=(h.blk n _ hb).2
        have aa : ∀ (i : Nat) (x : List DV),((xs.drop o).take l)[i]? = some x→xs[o + i]? = some x:=by
          intro i x g;rw [List.getElem?_take] at g;split at g
          · rwa [List.getElem?_drop] at g
          · simp at g
        refine key _ _ (by simp;omega) hb rfl (fun i x g=>b2 _ _ (aa i x g)) ?_;intro b r hi;rcases b3 with ⟨_,p⟩ | ⟨b',ao,arr,ty,p,b5,b6⟩
        · rw [hi] at p;cases p
        · rw [hi] at p;cases p;refine ⟨arr,ty,b5,fun i x j d g hd=>?_⟩;obtain ⟨c1,c,c2,c3⟩:=b6 _ x j d (aa i x g) hd;exact ⟨c1,c,c2,c3.mono (fun _ _=>rfl) hz⟩
      · rename_i m xs hb;split at hd <;> simp at hd
        rename_i ai;obtain ⟨ai,rfl⟩:=ai;obtain ⟨rows,hm,rfl⟩:=hd;obtain ⟨m1,m2⟩:=q5q hm;obtain ⟨b1,b2,b3⟩:=(h.blk n _ hb).2
        have aa : ∀ (i : Nat) (x : List V),((xs.drop o).take l)[i]? = some x→xs[o + i]? = some x:=by
          intro i x g;rw [List.getElem?_take] at g;split at g
          · rwa [List.getElem?_drop] at g
          · simp at g
        have z : ∀ (i : Nat) (x : List DV),rows[i]? = some x→∃ y,xs[o + i]? = some y∧Zp (toD hp k) y = some x:=by
          intro i x g;obtain ⟨y,hy⟩:=Yq m1 g;obtain ⟨x',ar,hf⟩:=m2 i y hy;rw [g] at ar;cases ar;exact ⟨y,aa _ _ hy,hf⟩
        refine key rows _ (by simp at m1;omega) hb rfl (fun i x g=>by obtain ⟨y,hy,hf⟩:=z i x g;rw [(q5q hf).1];exact b2 _ _ hy) ?_;intro b r hi;rcases b3 with ⟨_,p⟩ | ⟨b',ao,arr,ty,p,b5,b6⟩
        · rw [hi] at p;cases p
        · rw [hi] at p;cases p;refine ⟨arr,ty,b5,fun i x j d g hd=>?_⟩;obtain ⟨y,hy,hf⟩:=z i x g;obtain ⟨f1,f2⟩:=q5q hf;obtain ⟨u,hu⟩:=Yq f1 hd;obtain ⟨d',q,ak⟩:=f2 j u hu;rw [hd] at q;cases q;obtain ⟨c1,c,c2,c3⟩:=b6 _ y j u hy hu;exact ⟨q137 ak c1,c,c2,ih ak c3⟩
      · simp at hd
    | ref n es i j=>
      have key : ∀ (row : List DV) (blk : Blk),i = 0→j = 0→find hp n = some blk→live blk = true→
          (∀ b r,inj n = some (b,r)→∃ arr ty,w.heap[b]? = some (.cells arr ty (0,0))∧∀ (j : Nat) (d : DV),row[j]? = some d→∃ c,arr[r + j]? = some c∧RelD w (zAll w Z inj hp) d c)→
          RelD w (zAll w Z inj hp) (.box row) x:=by
        intro row blk hi hj hb s t
        subst hi hj
        cases hv with | @ref _ _ _ _ b o h1 h2=>
        obtain ⟨arr,ty,b5,b6⟩:=t b o h2
        have hc : ∀ (j : Nat) (d : DV),row[j]? = some d→∃ c,w.cell? ⟨b,o + (0 * es + 0) + j,none⟩ = some c∧RelD w (zAll w Z inj hp) d c:=by
          intro j d hd;obtain ⟨c,c2,c3⟩:=b6 j d hd;exact ⟨c,by simp only [World.cell?,b5];rw [← c2];simp,c3⟩
        exact .box (.inr ⟨⟨n,blk,o,hb,s,h2⟩,_,_,_,b5⟩) (fun j d hd=>by obtain ⟨c,c2,_⟩:=hc j d hd;exact ⟨c,c2⟩)
          (fun j d c hd ag=>by obtain ⟨c',c2,c3⟩:=hc j d hd;rw [c2] at ag;cases ag;exact c3)
      simp only [toD] at hd;split at hd
      · rename_i m xs hb;split at hd <;> simp at hd
        subst hd;obtain ⟨b1,b2,b3⟩:=(h.blk n _ hb).2;refine key _ _ rfl rfl hb rfl ?_;intro b r hi;rcases b3 with ⟨p,_⟩ | ⟨b',ao,arr,ty,p,b5,b6⟩
        · simp at p
        · rw [hi] at p;cases p;refine ⟨arr,ty,b5,fun j d hd=>?_⟩;obtain ⟨_,c,c2,c3⟩:=b6 0 _ j d rfl hd;exact ⟨c,by rw [← c2];simp,c3.mono (fun _ _=>rfl) hz⟩
      · rename_i m xs hb;split at hd <;> simp at hd
        obtain ⟨row,hm,rfl⟩:=hd;obtain ⟨b1,b2,b3⟩:=(h.blk n _ hb).2;refine key _ _ rfl rfl hb rfl ?_;intro b r hi;rcases b3 with ⟨p,_⟩ | ⟨b',ao,arr,ty,p,b5,b6⟩
        · simp at p
        · rw [hi] at p;cases p;refine ⟨arr,ty,b5,fun j d hd=>?_⟩;obtain ⟨f1,f2⟩:=q5q hm;obtain ⟨u,hu⟩:=Yq f1 hd;obtain ⟨d',q,ak⟩:=f2 j u hu;rw [hd] at q;cases q;obtain ⟨_,c,c2,c3⟩:=b6 0 _ j u rfl hu;exact ⟨c,by rw [← c2];simp,ih ak c3⟩
      · simp at hd
theorem qhy (h : RelH w Z inj hp nx) : ∀ {f : List V} {ds : List DV},Y8 hp f = some ds→ds.length = f.length∧∀ (i : Nat) (v : V),f[i]? = some v→∃ d,ds[i]? = some d∧toD hp 8 v = some d
  | [],ds,hd=>by simp [Y8] at hd;subst hd;simp
  | v::r,ds,hd=>by
    simp only [Y8] at hd
    split at hd <;> simp at hd
    rename_i x l k g
    subst hd
    obtain ⟨a,b⟩:=qhy h g
    refine ⟨by simp [a],fun i u c=>?_⟩
    cases i with
    | zero=>simp at c;subst c;exact ⟨x,rfl,k⟩
    | succ i=>simp at c;obtain ⟨d,m,j⟩:=b i u c;exact ⟨d,by simpa using m,j⟩
theorem que (h : RelH w Z inj hp nx) {k : List V} {ds : List DV} {xs : Array Value} (hd : Y8 hp k = some ds) (g : LRel w Z inj nx k xs) (inj' : Inj) : LRel w (zAll w Z inj hp) inj' 0 (ds.map .d) xs:=by
  obtain ⟨a,b⟩:=qhy h hd;refine ⟨by simpa [a] using g.1,fun i d c f m=>?_⟩;simp only [List.getElem?_map,Y0] at f;obtain ⟨p,f,rfl⟩:=f;obtain ⟨v,l⟩:=Yq a f;obtain ⟨o,j,n⟩:=b i v l;rw [f] at j;cases j;exact .d (qbo h 8 n (g.2 i v c l m))
theorem qud {a : List V} {ds : List DV} {xs : Array Value} (hd : Y8 hp a = some ds) (b : a.all V.isD = true) (k : LRel w Z inj nx a xs) (inj' : Inj) : LRel w Z inj' 0 (ds.map .d) xs:=by
  have e : ∀ {a : List V} {ds : List DV},Y8 hp a = some ds→a.all V.isD = true→ds.map .d = a:=by
    intro a
    induction a with
    | nil=>intro ds hd _;simp [Y8] at hd;subst hd;rfl
    | cons v r ih=>
      intro ds hd b;simp only [Y8] at hd;split at hd <;> simp at hd
      rename_i x l f g;subst hd;simp only [List.all_cons,Bool.and_eq_true] at b;obtain ⟨h,j⟩:=b;cases v <;> simp [V.isD] at h
      simp [toD] at f;subst f;rw [List.map_cons,ih g j]
  refine ⟨by rw [e hd b];exact k.1,fun i d c f g=>?_⟩;rw [e hd b] at f;have m : V.isD d = true:=(List.all_eq_true.1 b) d (List.mem_of_getElem? f);have:=k.2 i d c f g;cases this <;> simp [V.isD] at m
  exact .d ‹_›
theorem qzo {Z Z' : Nat→Prop} {d : DV} {x : Value} (h : RelD w Z d x) (hs : d.scalar = true) : RelD w Z' d x:=by
  have go : ∀ {ds : List DV},DV.scalar.go ds = true→∀ (i : Nat) (d : DV),ds[i]? = some d→(∀ {x : Value},RelD w Z d x→RelD w Z' d x):=by
    intro ds
    induction ds with
    | nil=>intro _ i d h;simp at h
    | cons y r ih=>
      intro a i d hd
      cases i with
      | zero=>
        simp at hd;subst hd;intro x f;cases y <;> simp [DV.scalar.go] at a <;> cases f <;> constructor
      | succ i=>
        simp at hd;refine ih ?_ i d hd;cases y <;> simp [DV.scalar.go] at a <;> exact a
  cases d <;> simp [DV.scalar] at hs
  case tup ds=>cases h with | tup h1 h2=>exact .tup h1 fun i d c hd b=>go hs i d hd (h2 i d c hd b)
  case agg ds=>cases h with | agg h1 h2=>exact .agg h1 fun i d c hd b=>go hs i d hd (h2 i d c hd b)
  all_goals (cases h <;> constructor)
end
end Go.Am
namespace Go.Am
open Go
variable {P : Program} {T : Tab}
def Fw (ro : Option Nat) : Fence:={fn:=fun _=>True,depth:=none,alive:=false,round:=ro}
def toE : Ex→Exit
  | .nor=>.normal
  | .exit id=>.exit id
  | .ret=>.ret
def Yl (ro : Option Nat) (w : World) : Prop:=∀ l,ro = some l→∃ r,w.heap[l]? = some (.loop r)
def Y7 (base : Nat) (w : World) (Z : Nat→Prop) (inj : Inj) (st : AS) (a : Act) (Ds : List Nat) (st' : AS) (a' : Act) (w' : World) : Prop:=
  ∃ Z' inj' Ds',RelS w' Z' inj' st' a' Ds'∧Ext w Z inj st.hp w' Z' inj' st'.hp base∧a'.tmps.size = a.tmps.size∧base≤st'.nx∧∀ D∈Ds',D∈Ds∨w.heap.size≤D
section
variable {base : Nat} {w : World} {Z : Nat→Prop} {inj : Inj} {st st' st'' : AS} {a a' a'' : Act} {Ds : List Nat} {w' w'' : World}
theorem Y7.refl (h : RelS w Z inj st a Ds) (hb : base≤st.nx) : Y7 base w Z inj st a Ds st a w:=⟨Z,inj,Ds,h,.refl,rfl,hb,fun _ h=>.inl h⟩
theorem Yl.ext {ro : Option Nat} {Z' : Nat→Prop} {inj' : Inj} {hp hp' : List (Nat × Blk)} {pin : Nat} (h : Yl ro w) (e : Ext w Z inj hp w' Z' inj' hp' pin) : Yl ro w':=
  fun l a=>let ⟨r,hr⟩:=h l a;let ⟨r',h',_⟩:=e.loops l r hr;⟨r',h'⟩
theorem Y7.bind {Q : Prop} (p : Y7 base w Z inj st a Ds st' a' w') (h : ∀ Z' inj' b,RelS w' Z' inj' st' a' b→a'.tmps.size = a.tmps.size→base≤st'.nx→(∀ ro,Yl ro w→Yl ro w')→
    (∀ st'' a'' w'',Y7 base w' Z' inj' st' a' b st'' a'' w''→Y7 base w Z inj st a Ds st'' a'' w'')→Q) : Q:=by
  obtain ⟨Z',inj',b,q,c,d,o,r⟩:=p;refine h Z' inj' b q d o (fun ro g=>g.ext c) ?_;rintro st'' a'' w'' ⟨j,k,u,f,m,n,t,s⟩;refine ⟨j,k,u,f,c.trans m (Nat.le_refl _),n.trans d,t,fun D l=>?_⟩;rcases s D l with h | h
  · exact r D h
  · exact .inr (Nat.le_trans c.size h)
theorem qcc {n : Nat} {t : Tmp} (h : J5 n (some t) = true) : t < n:=by simpa [J5,Nat.blt_eq] using h
theorem q8r (a : Act) (d : Option Tmp) (v : Value) : (a.put d v).tmps.size = a.tmps.size:=by cases d <;> simp [Act.put]
theorem Z7.put {nx : Nat} {s : List (Nat × V)} {tmps : Array Value} {v : V} {x : Value} {t : Tmp} (h : Z7 w Z inj nx s tmps) (b : RelV w Z inj nx v x) (d : t < tmps.size) : Z7 w Z inj nx ((t,v)::s) (tmps.setIfInBounds t x):=by
  intro u y a;rw [Qy] at a;split at a
  · rename_i e;subst e;cases a;exact ⟨x,by simp [d],b⟩
  · rename_i e;obtain ⟨z,f,c⟩:=h u y a;exact ⟨z,by rw [Array.getElem?_setIfInBounds_ne e];exact f,c⟩
theorem qgh {Z' : Nat→Prop} {inj' : Inj} {hp' : List (Nat × Blk)} {nx' : Nat} {v : V} {x : Value} {dst : Option Tmp} (h : RelS w Z inj st a Ds) (e : Ext w Z inj st.hp w' Z' inj' hp' st.nx) (c : RelH w' Z' inj' hp' nx') (f : st.nx≤nx')
    (d : RelV w' Z' inj' nx' v x) (hd : J5 a.tmps.size dst = true) : RelS w' Z' inj' ({sl:=st.sl,hp:=hp',nx:=nx' : AS}.putD dst v) (a.put dst x) Ds:=by
  have hs : Z7 w' Z' inj' nx' st.sl a.tmps:=h.slots.mono (e.zkeep h.heap) e.zin e.big e.pinj f
  cases dst with
  | none=>exact ⟨hs,c,h.defs,h.nodup,fun D b=>e.marks h.heap (h.marks D b)⟩
  | some t=>exact ⟨hs.put d (qcc hd),c,h.defs,h.nodup,fun D b=>e.marks h.heap (h.marks D b)⟩
theorem Yf (st : AS) (d : Option Tmp) (v : V) : (st.putD d v).hp = st.hp:=by cases d <;> rfl
theorem Yh (st : AS) (d : Option Tmp) (v : V) : (st.putD d v).nx = st.nx:=by cases d <;> rfl
theorem q3s {Z' : Nat→Prop} {inj' : Inj} {hp' : List (Nat × Blk)} {nx' : Nat} {v : V} {x : Value} {dst : Option Tmp} (h : RelS w Z inj st a Ds) (hb : base≤st.nx) (e : Ext w Z inj st.hp w' Z' inj' hp' st.nx) (d : RelH w' Z' inj' hp' nx') (b : st.nx≤nx')
    (c : RelV w' Z' inj' nx' v x) (hd : J5 a.tmps.size dst = true) : Y7 base w Z inj st a Ds ({sl:=st.sl,hp:=hp',nx:=nx' : AS}.putD dst v) (a.put dst x) w':=
  ⟨Z',inj',Ds,qgh h e d b c hd,by rw [Yf];exact e.pin_le hb,q8r _ _ _,by rw [Yh];exact Nat.le_trans hb b,fun _ h=>.inl h⟩
def Jj (P : Program) (F : Fence) (ops : Array Oper) (Q : Exit→Act→World→Prop) (o : Oper) (K : Act→World→Prop) (a : Act) (w : World) : Prop:=
  if Region.wanted o (yielded ops a.tmps) then o.wpIn F 0 P a w K Q else (∀ f,o.about P w a.eval = some f→F.fn f)∧K (a.put o.dst undef) w
theorem qbg {F : Fence} {ops : Array Oper} {Q : Exit→Act→World→Prop} {o : Oper} {K : Act→World→Prop} {i : Nat} (hi : ops[i]? = some o) (h : Jj P F ops Q o K a w) : wpOpIn F 0 P ops Q i K a w:=by
  unfold wpOpIn;rw [hi];exact h
def Ja (P : Program) (base : Nat) (ops : Array Oper) (o : Oper) (st st' : AS) : Prop:=
  ∀ (ro : Option Nat) (Q : Exit→Act→World→Prop) (w : World) (Z : Nat→Prop) (inj : Inj) (a : Act) (Ds : List Nat) (K : Act→World→Prop),RelS w Z inj st a Ds→J5 a.tmps.size o.dst = true→base≤st.nx→Yl ro w→
    (∀ a' w',Y7 base w Z inj st a Ds st' a' w'→K a' w')→Jj P (Fw ro) ops Q o K a w
theorem q3m {ops : Array Oper} {o : Oper} {b : Bool} (h : RelS w Z inj st a Ds) (c : Qs ops st o = some b) : Region.wanted o (yielded ops a.tmps) = b:=by
  unfold Qs at c;unfold Region.wanted
  cases g : o.guard with
  | none=>rw [g] at c;simp at c;simp [c]
  | some jw=>
    obtain ⟨j,m⟩:=jw;rw [g] at c;simp only at c ⊢
    cases hd : (ops[j]?).bind (·.dst) with
    | none=>rw [hd] at c;simp at c
    | some t=>
      rw [hd] at c;simp only at c;unfold yielded;rw [hd];split at c
      · rename_i n k;obtain ⟨x,l,f⟩:=h.slots t _ k
        cases f with | d f=>
        cases f;simp at c;simp [l,c]
      · rename_i k;obtain ⟨x,l,f⟩:=h.slots t _ k
        cases f with | d f=>
        cases f;simp at c;simp [l,← c]
      · simp at c
theorem qz5 {nx : Nat} : RelV w Z inj nx (.d (.tup [])) undef:=.d (.tup qd qd)
theorem qk6 {ops : Array Oper} {o : Oper} (c : Qs ops st o = some false) : Ja P base ops o st (st.putD o.dst (.d (.tup []))):=by
  intro ro Q w Z inj a Ds K h hd hb _ b;unfold Jj;rw [q3m h c];simp only [Bool.false_eq_true,if_false];exact ⟨fun _ _=>trivial,b _ _ (q3s h hb .refl h.heap (Nat.le_refl _) qz5 hd)⟩
theorem qm2 {op : Op} {v : V} {st1 : AS} (a : opFn T st op = some (v,st1)) : ∀ c,op≠.defer c:=by
  rintro c rfl;simp [opFn] at a
theorem qfa {ops : Array Oper} {o : Oper} {v : V} {st1 : AS} (p : Z8 P T) (n : Qs ops st o = some true) (f : opFn T st o.op = some (v,st1)) : Ja P base ops o st (st1.putD o.dst v):=by
  intro ro Q w Z inj a Ds K h hd hb _ m;unfold Jj;rw [q3m h n];simp only [if_true];refine ⟨fun _ _=>trivial,?_⟩;rw [show (Fw ro).round = ro from rfl,Oper.semAt_eq ro _ o (qm2 f)];obtain ⟨x,w',inj',c,k,g,l,d,j⟩:=qm3 p h f;obtain ⟨sl1,hp1,nx1⟩:=st1;simp only at d j k g l;subst d;have b:=q3s h hb l g j k hd;rcases c with c | ⟨c,rfl⟩
  · rw [c];exact m _ _ b
  · rw [c];exact m _ _ b
def J2 (P : Program) (f : FuncId) (vs : List V) (hp : List (Nat × Blk)) (nx : Nat) (v : V) (hp' : List (Nat × Blk)) (nx' : Nat) : Prop:=
  (∀ (args : Array Value) (w : World),(callFunc f args).run P w = .ok (.enter f args) w)∧
  ∀ (w : World) (Z : Nat→Prop) (inj : Inj) (xs : Array Value),RelH w Z inj hp nx→LRel w Z inj nx vs xs→
    CallsIn (Fw none) 0 P f xs w (fun e w'=>∃ x Z' inj',e = .returned x∧RelH w' Z' inj' hp' nx'∧Ext w Z inj hp w' Z' inj' hp' nx∧RelV w' Z' inj' nx' v x∧nx≤nx')
theorem qe9 {c : Call} {o : Oper} {f : FuncId} {y : List V} (h : RelS w Z inj st a Ds) (z : o.op = .call c) (j : callee st c = some (f,y)) (k : ∀ (args : Array Value) (w : World),(callFunc f args).run P w = .ok (.enter f args) w) :
    ∃ xs,(execOp a.eval o).run P w = .ok (.enter f xs) w∧LRel w Z inj st.nx y xs:=by
  obtain ⟨dst,op,type,pos,after,guard⟩:=o;simp only at z;subst z;obtain ⟨x,args,argTypes⟩:=c;unfold callee at j;simp only at j;cases x <;> simp only [reduceCtorEq] at j
  rename_i g
  have app : ∀ {as b : List V} {xs ys : Array Value},LRel w Z inj st.nx as xs→LRel w Z inj st.nx b ys→LRel w Z inj st.nx (as ++ b) (xs ++ ys):=by
    intro as b xs ys n p;refine ⟨by simp [n.1,p.1],fun i d c hd j=>?_⟩;by_cases hi : i < as.length
    · rw [List.getElem?_append_left hi] at hd;rw [Array.getElem?_append_left (by rw [← n.1];exact hi)] at j;exact n.2 i d c hd j
    · rw [List.getElem?_append_right q8] at hd;rw [Array.getElem?_append_right (by rw [← n.1];omega),← n.1] at j;exact p.2 _ d c hd j
  have u : (args.toList.map a.eval).toArray = args.map a.eval:=by apply Array.ext';simp
  split at j <;> simp at j
  · rename_i f' b s r t;obtain ⟨rfl,rfl⟩:=j;have l:=Kb h r;generalize m : a.eval g = gv at l
    cases l with | d l=>
    cases l with | @fn _ _ cs n p=>
    have q:=q3h h t;rw [u] at q;refine ⟨args.map a.eval ++ cs,?_,app q ⟨by simpa using n,fun i d c hd j=>?_⟩⟩
    · simp [execOp,resolve,m,Deferred.ofValue,invoke,k]
    · simp only [List.getElem?_map,Y0] at hd;obtain ⟨v,hd,rfl⟩:=hd;exact .d (p i v c hd j)
  · rename_i f' b s r t;obtain ⟨rfl,rfl⟩:=j;have l:=Kb h r;generalize m : a.eval g = gv at l
    cases l with | @fn _ _ cs n p=>
    have q:=q3h h t;rw [u] at q;refine ⟨args.map a.eval ++ cs,?_,app q ⟨n,p⟩⟩;simp [execOp,resolve,m,Deferred.ofValue,invoke,k]
  · rename_i f' b s r t;obtain ⟨rfl,rfl⟩:=j;have l:=Kb h r;generalize m : a.eval g = gv at l
    cases l with | d l=>
    cases l with | @bfn _ _ cs n p=>
    have q:=q3h h t;rw [u] at q;refine ⟨cs ++ args.map a.eval,?_,app ⟨by simpa using n,fun i d c hd j=>?_⟩ q⟩
    · simp [execOp,resolve,m,Deferred.ofValue,invoke,k]
    · simp only [List.getElem?_map,Y0] at hd;obtain ⟨v,hd,rfl⟩:=hd;exact .d (p i v c hd j)
theorem qt4 {ops : Array Oper} {o : Oper} {c : Call} {f : FuncId} {g : List V} {v : V} {hp' : List (Nat × Blk)} {nx' : Nat} (k : Qs ops st o = some true) (j : o.op = .call c) (t : callee st c = some (f,g))
    (b : J2 P f g st.hp st.nx v hp' nx') : Ja P base ops o st ({sl:=st.sl,hp:=hp',nx:=nx' : AS}.putD o.dst v):=by
  intro ro Q w Z inj a Ds K h hd hb _ l;unfold Jj;rw [q3m h k];simp only [if_true];refine ⟨fun _ _=>trivial,?_⟩;obtain ⟨xs,p,m⟩:=qe9 h j t b.1;rw [show (Fw ro).round = ro from rfl,Oper.semAt_eq ro _ o (by rintro u d;rw [j] at d;cases d),p,Oper.uponIn_enter];refine ⟨fun h=>by simp [Fw] at h,?_⟩;refine CallsIn.mono (b.2 w Z inj xs h.heap m) ?_;rintro e w' ⟨x,Z',inj',rfl,n,r,s,q⟩;exact l _ _ (q3s h hb r n q s hd)
theorem qk4 {ops : Array Oper} {o : Oper} {c : Call} {f : FuncId} {vs : List V} {ds : List DV} {v : V} {hp' : List (Nat × Blk)} {nx' : Nat} {r' r : DV} (hg : Qs ops st o = some true) (ho : o.op = .call c) (hc : callee st c = some (f,vs))
    (ab : Y8 st.hp vs = some ds) (g : J2 P f (ds.map .d) [] 0 v hp' nx') (t : toD hp' 8 v = some r') (aa : DLe r' r) (hs : vs.all V.isD = true∨r.scalar = true) : Ja P base ops o st (st.putD o.dst (.d r)):=by
  intro ro Q w Z inj a Ds K h hd hb _ hK;unfold Jj;rw [q3m h hg];simp only [if_true];refine ⟨fun _ _=>trivial,?_⟩;obtain ⟨xs,hr,hl⟩:=qe9 h ho hc g.1;rw [show (Fw ro).round = ro from rfl,Oper.semAt_eq ro _ o (by rintro c' h';rw [ho] at h';cases h'),hr,Oper.uponIn_enter];refine ⟨fun h=>by simp [Fw] at h,?_⟩;have j : ∀ (i : Inj) b,¬ im ([] : List (Nat × Blk)) i b:=by rintro i b ⟨n,blk,o,l,_⟩;simp [find] at l
  have keep : ∀ {Z0 : Nat→Prop} {w' : World} {Z' : Nat→Prop} {inj' : Inj},Ext w Z0 inj [] w' Z' inj' hp' 0→∀ b,b < w.heap.size→w'.heap[b]? = w.heap[b]?:=fun e b hb=>e.keep b hb (j _ b)
  have back : ∀ {Z0 : Nat→Prop} {w' : World} {Z' : Nat→Prop} {inj' : Inj} (k : Nat→Prop),Ext w Z0 inj [] w' Z' inj' hp' 0→(∀ b,Z b→k b)→(∀ b,k b→Z b∨w.heap.size≤b)→(∀ b,k b→(∃ c e f,w'.heap[b]? = some (.cells c e f))∨∃ c e,w'.heap[b]? = some (.map c e))→
      RelH w' k inj st.hp st.nx∧Ext w Z inj st.hp w' k inj st.hp st.nx:=by
    intro Z0 w' Z' inj' k e u y z
    have hk:=keep e
    have hE : Ext w Z inj st.hp w' k inj st.hp st.nx:=⟨e.size,fun b hb _=>hk b hb,fun _ h=>.inl h,e.big,e.loops,u,fun b hb=>(y b hb).elim .inl (fun h=>.inr (.inr h)),fun _ _=>rfl,e.tape,e.os,e.output,e.frz⟩
    refine ⟨⟨fun n b hn=>?_,h.heap.sep,?_,?_,z⟩,hE⟩
    · obtain ⟨l,h2⟩:=h.heap.blk n b hn
      refine ⟨l,h2.mono (hE.zkeep h.heap) u e.big (fun _ _=>rfl) (Nat.le_refl _) l fun p hp ak=>hk _ (h.heap.im_lt ⟨n,b,p.2,hn,ak,hp⟩)⟩
    · intro n b p l h2 h3 hz
      rcases y _ hz with h4 | h4
      · exact h.heap.out n b p l h2 h3 h4
      · have:=h.heap.im_lt (b:=p.1) ⟨n,b,p.2,l,h2,h3⟩;omega
    · intro b hb
      rcases z b hb with ⟨c,e',f',hc⟩ | ⟨c,e',hc⟩ <;> exact J1 hc
  rcases hs with hs | hs
  ·
    have h0 : RelH w Z inj [] 0:=⟨fun _ _ h=>by simp [find] at h,fun _ _ _ _ _ _ h=>by simp [find] at h,fun _ _ _ h=>by simp [find] at h,h.heap.zs,h.heap.zc⟩
    refine CallsIn.mono (g.2 w Z inj xs h0 (qud ab hs hl inj)) ?_;rintro e w' ⟨x,Z',inj',rfl,hh,s,hv,hn⟩;have hD:=(qbo hh 8 t hv).le aa
    obtain ⟨m,q⟩:=back (zAll w' Z' inj' hp') s (fun b hb=>.inl (s.zin b hb))
      (fun b hb=>by
        rcases hb with hb | ⟨hb,_⟩
        · rcases s.zout b hb with h | h | h
          · exact .inl h
          · exact absurd h (j _ _)
          · exact .inr h
        · rcases s.imm b hb with h | h
          · exact absurd h (j _ _)
          · exact .inr h)
      (fun b hb=>by
        rcases hb with hb | ⟨_,hb⟩
        · exact hh.zc b hb
        · exact .inl hb)
    exact hK _ _ (q3s h hb q m (Nat.le_refl _) (.d hD) hd)
  ·
    have h0 : RelH w (zAll w Z inj st.hp) inj [] 0:=⟨fun _ _ h=>by simp [find] at h,fun _ _ _ _ _ _ h=>by simp [find] at h,fun _ _ _ h=>by simp [find] at h,
      fun b hb=>by
        rcases hb with hb | ⟨hb,_⟩
        · exact h.heap.zs b hb
        · exact h.heap.im_lt hb,
      fun b hb=>by
        rcases hb with hb | ⟨_,hb⟩
        · exact h.heap.zc b hb
        · exact .inl hb⟩
    refine CallsIn.mono (g.2 w _ inj xs h0 (que h.heap ab hl inj)) ?_;rintro e w' ⟨x,Z',inj',rfl,hh,s,hv,hn⟩;have hD:=(qbo hh 8 t hv).le aa;obtain ⟨m,q⟩:=back Z s (fun _ h=>h) (fun _ h=>.inl h) (fun b hb=>by rw [keep s b (h.heap.zs b hb)];exact h.heap.zc b hb);exact hK _ _ (q3s h hb q m (Nat.le_refl _) (.d (qzo hD hs)) hd)
end
end Go.Am
namespace Go.Am
open Go
variable {P : Program} {T : Tab}
section
variable {st st1 st2 : AS} {v : V}
theorem Yz {α : Type} {x : Option α} {f : α→V} : (x.map fun a=>(f a,st)) = some (v,st1)→st1 = st∧(x.map fun a=>(f a,st2)) = some (v,st2):=by
  cases x <;> simp
  rintro rfl rfl;simp
theorem qew {ev ev' : Operand→Option V} : ∀ {l : List (Nat × Operand)},(∀ x∈l.map (·.2),ev' x = ev x)→Js ev' l = Js ev l
  | [],_=>rfl
  | (i,o)::r,h=>by
    have c:=h o qd
    have b:=qew (l:=r) (fun x a=>h x (by simp at a ⊢;exact .inr a))
    simp only [Js,c,b]
theorem q5f {ev ev' : Operand→Option V} : ∀ {l : List Operand},(∀ x∈l,ev' x = ev x)→evL ev' l = evL ev l
  | [],_=>rfl
  | o::r,h=>by
    have b:=h o qd
    have a:=q5f (l:=r) (fun x c=>h x (by simp [c]))
    simp only [evL,b,a]
theorem qu9 {i : TI} (a : st2.hp = st.hp) : Ug st2 i v = Ug st i v:=by
  cases v <;> simp only [Ug,AS.blk,a]
theorem qp5 {b : Builtin} {c : Array TypeId} {a : List V} (h : Yn T st b c a = some (v,st1)) (hb : b = .len∨b = .min∨b = .max) : st1 = st∧Yn T st2 b c a = some (v,st2):=by
  rcases hb with rfl | rfl | rfl
  · rcases a with _ | ⟨x,_ | ⟨y,r⟩⟩
    · simp [Yn] at h
    · simp only [Yn] at h ⊢;revert h;split
      · split
        · split
          · simp;rintro rfl rfl;simp
          · split <;> simp
            all_goals rintro rfl rfl;simp
          · split <;> simp
            all_goals rintro rfl rfl;simp
          · simp
        · simp
      · simp
    · simp [Yn] at h
  · rcases a with _ | ⟨x,r⟩
    · simp [Yn] at h
    · simp only [Yn] at h ⊢;revert h;exact Yz
  · rcases a with _ | ⟨x,r⟩
    · simp [Yn] at h
    · simp only [Yn] at h ⊢;revert h;exact Yz
theorem qg6 {op : Op} (h : opFn T st op = some (v,st1)) (w : touch op≤1) (r : touch op≠0→st2.hp = st.hp) (a : ∀ x∈op.operands,st2.ev x = st.ev x) : st1 = st∧opFn T st2 op = some (v,st2):=by
  cases op <;> simp only [opFn,reduceCtorEq] at h <;> simp only [touch,Nat.reduceLeDiff] at w
  case move x=>
    simp only [opFn,a x (by simp [Op.operands])] at h ⊢;revert h;exact Yz
  case assign x=>
    simp only [opFn,a x (by simp [Op.operands])] at h ⊢;revert h;exact Yz
  case pick c x y=>
    simp only [opFn,a c (by simp [Op.operands]),a x (by simp [Op.operands]),a y (by simp [Op.operands])] at h ⊢;revert h;split
    · exact Yz
    · exact Yz
    · simp
  case load t p=>
    simp only [opFn,a p (by simp [Op.operands])] at h ⊢;revert h;split
    · rw [qu9 (r (by simp [touch]))];exact Yz
    · simp
  case lookup t x k ok=>
    have hb : ∀ n,st2.blk n = st.blk n:=fun n=>by simp only [AS.blk,r (by simp [touch])]
    simp only [opFn,a x (by simp [Op.operands]),a k (by simp [Op.operands]),hb] at h ⊢;revert h;split
    · split
      · split
        · simp only [Y0];rintro ⟨e,m,j⟩;cases j;exact ⟨rfl,e,m,rfl⟩
        · simp
      · simp
    · split
      · split
        · simp only [Y0];rintro ⟨e,m,j⟩;cases j;exact ⟨rfl,e,m,rfl⟩
        · simp
      · simp
    · simp
  case build t ps=>
    have:=qew (ev:=st.ev) (ev':=st2.ev) (l:=ps.toList) (fun x g=>a x (by simpa [Op.operands] using g));simp only [opFn,this] at h ⊢;revert h;split
    · split
      · split
        · exact Yz
        · simp
      · simp
    · simp
  case binOp op t x y u=>
    simp only [opFn,a x (by simp [Op.operands]),a y (by simp [Op.operands])] at h ⊢;revert h;split
    · split
      · split
        · split <;> simp
          · rintro rfl rfl;simp
          · rintro rfl rfl;simp
        · simp
      · simp
    · exact Yz
    · split
      · exact Yz
      · simp
    · simp
  case unOp op t x=>
    simp only [opFn,a x (by simp [Op.operands])] at h ⊢;revert h;split
    · exact Yz
    · simp
  case convert s d x=>
    simp only [opFn,a x (by simp [Op.operands])] at h ⊢;revert h;split
    · split <;> simp
      rintro rfl rfl;simp
    · simp
  case makeFunc fn first caps=>
    cases fn <;> simp only [reduceCtorEq,opFn] at h ⊢
    have:=q5f (ev:=st.ev) (ev':=st2.ev) (l:=caps.toList) (fun x g=>a x (by simp [Op.operands] at g ⊢;exact .inr g));have j:=q5f (ev:=st.ev) (ev':=st2.ev) (l:=first.toList) (fun x g=>a x (by simp [Op.operands] at g ⊢;exact .inl g));rw [this,j];revert h;split
    · exact Yz
    · split
      · exact Yz
      · simp
  case slice t x lo hi mx=>
    have hb : ∀ (d : Nat) (o : Option Operand),(o = lo∨o = hi)→bound st2 d o = bound st d o:=by
      rintro d o z
      cases o with
      | none=>rfl
      | some o=>
        simp only [bound];rw [a o (by rcases z with rfl | rfl <;> simp [Op.operands])]
    simp only [opFn,a x (by simp [Op.operands])] at h ⊢;revert h;split
    · split
      · split
        · rename_i n _;rw [hb 0 lo (.inl rfl),hb n hi (.inr rfl)];split
          · exact Yz
          · simp
        · simp
      · simp
    · simp
  case fieldAddr s p f=>
    simp only [opFn,a p (by simp [Op.operands])] at h ⊢;revert h;split
    · split
      · exact Yz
      · simp
    · simp
  case field s x f=>
    simp only [opFn,a x (by simp [Op.operands])] at h ⊢;revert h;split
    · split
      · split
        · exact Yz
        · simp
      · simp
    · simp
  case indexAddr t x ix=>
    simp only [opFn,a x (by simp [Op.operands]),a ix (by simp [Op.operands])] at h ⊢;revert h;split
    · exact Yz
    · simp
  case index t x ix=>
    simp only [opFn,a x (by simp [Op.operands]),a ix (by simp [Op.operands])] at h ⊢;revert h;split
    · split
      · split
        · split
          · exact Yz
          · simp
        · simp
      · split
        · exact Yz
        · simp
      · simp
    · simp
  case extract x k=>
    simp only [opFn,a x (by simp [Op.operands])] at h ⊢;revert h;split
    · exact Yz
    · exact Yz
    · simp
  case nilCheck x=>
    simp only [opFn,a x (by simp [Op.operands])] at h ⊢;revert h;split <;> simp
    all_goals rintro rfl rfl;simp
  case call c=>
    obtain ⟨q,args,argTypes⟩:=c;cases q <;> simp only [reduceCtorEq] at h
    rename_i b;have:=q5f (ev:=st.ev) (ev':=st2.ev) (l:=args.toList) (fun x g=>a x (by simpa [Op.operands,Call.operands] using g));simp only [opFn,this] at h ⊢;revert h;split
    · have hb : b = .len∨b = .min∨b = .max:=by
        revert w;cases b <;> simp
      intro h;exact qp5 h hb
    · simp
end
end Go.Am
namespace Go.Am
open Go
variable {P : Program} {T : Tab}
def qdw (x : Fp) (st st2 : AS) : Prop:=(∀ m∈x.2,find st2.hp m = find st.hp m)∧match x.1 with
  | none=>∀ m,find st2.hp m = find st.hp m
  | some r=>∀ m∈r,find st2.hp m = find st.hp m
inductive Out (T : Tab) (st : AS) (op : Op) (v : V) (st1 : AS) : Prop
  | calm : st1.sl = st.sl→st1.nx = st.nx→(∀ m,m ∉ (fp st op).2→find st1.hp m = find st.hp m)→(∀ m,find st.hp m = none→find st1.hp m = none)→
      (∀ st2,(∀ x∈op.operands,st2.ev x = st.ev x)→qdw (fp st op) st st2→∃ hp3,opFn T st2 op = some (v,⟨st2.sl,hp3,st2.nx⟩)∧(∀ m∈(fp st op).2,find hp3 m = find st1.hp m)∧(∀ m,m ∉ (fp st op).2→find hp3 m = find st2.hp m))→Out T st op v st1
  | new (mk : Nat→V) (b : Blk) (hp1 : List (Nat × Blk)) : ((∃ es,mk = fun n=>.ref n es 0 0)∨(∃ es l,mk = fun n=>.hs n es 0 l)∨(mk = fun n=>.mp n))→v = mk st.nx→st1 = ⟨st.sl,(st.nx,b)::hp1,st.nx + 1⟩→st.nx∈(fp st op).2→
      (∀ m,m ∉ (fp st op).2→find hp1 m = find st.hp m)→(∀ m,find st.hp m = none→find hp1 m = none)→
      (∀ st2,(∀ x∈op.operands,st2.ev x = st.ev x)→qdw (fp st op) st st2→∃ hp3,opFn T st2 op = some (mk st2.nx,⟨st2.sl,(st2.nx,b)::hp3,st2.nx + 1⟩)∧(∀ m∈(fp st op).2,find hp3 m = find hp1 m)∧(∀ m,m ∉ (fp st op).2→find hp3 m = find st2.hp m)∧(∀ m c,find hp3 m = some c→c = .dead∨find st2.hp m = some c))→Out T st op v st1
section
variable {st st1 st2 : AS} {v : V}
theorem qua {i : TI} {p : V} (b : ∀ m∈Kg p,find st2.hp m = find st.hp m) : Ug st2 i p = Ug st i p:=by
  cases p with
  | ref n es a j=>
    have : st2.blk n = st.blk n:=b n (by simp [Kg]);simp only [Ug,this]
  | d x=>cases x <;> rfl
  | _=>rfl
theorem qiu {x : V} (a : ∀ m∈Kg x,find st2.hp m = find st.hp m) : Zn st2 x = Zn st x:=by
  cases x with
  | hs n es o l=>
    have : st2.blk n = st.blk n:=a n (by simp [Kg]);simp only [Zn,this]
  | d x=>cases x <;> rfl
  | _=>rfl
theorem qep {x : V} (a : ∀ m∈Kg x,find st2.hp m = find st.hp m) : Yv st2 x = Yv st x:=by
  cases x with
  | hs n es o l=>
    have : st2.blk n = st.blk n:=a n (by simp [Kg]);simp only [Yv,this]
  | d x=>cases x <;> rfl
  | _=>rfl
theorem q1o {α : Type} {l : List (Nat × α)} {k t : Nat} {x : α} (h : k≠t) : find (repl l k x) t = find l t:=by rw [Kx,qw h]
theorem q82 {α : Type} {l : List (Nat × α)} {k t : Nat} {x : α} (h : find l t = none) : find (repl l k x) t = none:=by
  rw [Kx];split
  · rename_i e;subst e;rw [h];rfl
  · exact h
theorem q81 {l a : List (Nat × Blk)} {k t : Nat} {x : Blk} (h : find a t = find l t) : find (repl a k x) t = find (repl l k x) t:=by
  rw [Kx,Kx];split
  · rename_i e;subst e;rw [h]
  · exact h
theorem qz6 {l : List (Nat × Blk)} {k m : Nat} {c : Blk} (h : find (repl l k .dead) m = some c) : c = .dead∨find l m = some c:=by
  rw [Kx] at h;split at h
  · cases a : find l k with
    | none=>rw [a] at h;cases h
    | some b=>rw [a] at h;cases h;exact .inl rfl
  · exact .inr h
theorem q12q {i : TI} {p y : V} (h : Jk st i p y = some st1) : ∃ n b,Kg p = [n]∧st1 = ⟨st.sl,repl st.hp n b,st.nx⟩∧∀ st2 : AS,find st2.hp n = find st.hp n→Jk st2 i p y = some ⟨st2.sl,repl st2.hp n b,st2.nx⟩:=by
  cases p with
  | ref n k a j=>
    simp only [Jk] at h;split at h
    · cases h
    · rename_i g;have key : ∀ b : Blk,∀ st2 : AS,st2.setBlk n b = ⟨st2.sl,repl st2.hp n b,st2.nx⟩:=fun _ _=>rfl;split at h
      · rename_i es xs hb;split at h
        · rename_i cs e1 f;split at h
          · rename_i c;split at h
            · rename_i ds hd;cases h;refine ⟨n,_,rfl,key _ _,fun st2 e=>?_⟩;have d : st2.blk n = st.blk n:=e;simp only [Jk,qw g,d,hb,e1,f,qu c,hd];rfl
            · rename_i hd;cases h;refine ⟨n,_,rfl,key _ _,fun st2 e=>?_⟩;have d : st2.blk n = st.blk n:=e;simp only [Jk,qw g,d,hb,e1,f,qu c,hd];rfl
          · cases h
        · cases h
      · rename_i es xs hb;split at h
        · rename_i cs e1 f;split at h
          · rename_i c;cases h;refine ⟨n,_,rfl,key _ _,fun st2 e=>?_⟩;have d : st2.blk n = st.blk n:=e;simp only [Jk,qw g,d,hb,e1,f,qu c];rfl
          · cases h
        · cases h
      · cases h
  | _=>simp [Jk] at h
theorem qqr {p y : V} (h : copyV st p y = some (v,st1)) : ∃ n b,Kg p = [n]∧st1 = ⟨st.sl,repl st.hp n b,st.nx⟩∧∀ st2 : AS,find st2.hp n = find st.hp n→(∀ m∈Kg y,find st2.hp m = find st.hp m)→copyV st2 p y = some (v,⟨st2.sl,repl st2.hp n b,st2.nx⟩):=by
  cases p with
  | hs n es o l=>
    simp only [copyV] at h;split at h
    · rename_i k xs ys hb a;split at h
      · rename_i d;cases h;refine ⟨n,_,rfl,rfl,fun st2 e f=>?_⟩;have c : st2.blk n = st.blk n:=e;simp only [copyV,c,hb,qep f,a,qu d];rfl
      · cases h
    · cases h
  | _=>simp [copyV] at h
theorem qqc {i : TI} {p : V} (h : Us st i p = some (v,st1)) : (st1 = st∧∀ st2 : AS,Us st2 i p = some (v,st2))∨
    ∃ n b,Kg p = [n]∧st1 = ⟨st.sl,repl st.hp n b,st.nx⟩∧∀ st2 : AS,find st2.hp n = find st.hp n→Us st2 i p = some (v,⟨st2.sl,repl st2.hp n b,st2.nx⟩):=by
  cases p with
  | d x=>
    cases x <;> simp only [Us,reduceCtorEq,Option.some.injEq,Prod.mk.injEq] at h
    obtain ⟨rfl,rfl⟩:=h;exact .inl ⟨rfl,fun st2=>rfl⟩
  | hs n es o l=>
    right;simp only [Us] at h;split at h
    · rename_i k xs hb;split at h
      · rename_i c;cases h;refine ⟨n,_,rfl,rfl,fun st2 e=>?_⟩;have a : st2.blk n = st.blk n:=e;simp only [Us,a,hb,qu c];rfl
      · cases h
    · cases h
  | _=>simp [Us] at h
theorem qox {i : TI} {p y : V} (h : Zd st i p y = some (v,st1)) :
    (st1 = st∧∀ st2 : AS,(∀ m∈Kg p ++ Kg y,find st2.hp m = find st.hp m)→Zd st2 i p y = some (v,st2))∨
    (∃ es l b hp1,v = .hs st.nx es 0 l∧st1 = ⟨st.sl,(st.nx,b)::hp1,st.nx + 1⟩∧((hp1 = st.hp∧∀ st2 : AS,(∀ m∈Kg p ++ Kg y,find st2.hp m = find st.hp m)→Zd st2 i p y = some (.hs st2.nx es 0 l,⟨st2.sl,(st2.nx,b)::st2.hp,st2.nx + 1⟩))∨
      (∃ n,n∈Kg p∧hp1 = repl st.hp n .dead∧∀ st2 : AS,(∀ m∈Kg p ++ Kg y,find st2.hp m = find st.hp m)→Zd st2 i p y = some (.hs st2.nx es 0 l,⟨st2.sl,(st2.nx,b)::repl st2.hp n .dead,st2.nx + 1⟩)))):=by
  cases p with
  | d x=>
    cases x <;> simp only [Zd,reduceCtorEq] at h
    have c : ∀ st2 : AS,(∀ m∈Kg (.d .nilsl) ++ Kg y,find st2.hp m = find st.hp m)→Yv st2 y = Yv st y∧Zn st2 y = Zn st y:=fun st2 e=>
      ⟨qep fun m j=>e m (by simp [j]),qiu fun m j=>e m (by simp [j])⟩
    split at h
    · rename_i ys hd;split at h
      · rename_i a;split at h
        · rename_i g;cases h;refine .inl ⟨rfl,fun st2 e=>?_⟩;simp only [Zd,(c st2 e).1,hd,qu a,qu g]
        · rename_i g;cases h;refine .inr ⟨_,_,_,_,rfl,rfl,.inl ⟨rfl,fun st2 e=>?_⟩⟩;simp only [Zd,(c st2 e).1,hd,qu a,qw g];rfl
      · cases h
    · rename_i hd;split at h
      · rename_i ys f;split at h
        · rename_i a;split at h
          · rename_i g;cases h;refine .inl ⟨rfl,fun st2 e=>?_⟩;simp only [Zd,(c st2 e).1,(c st2 e).2,hd,f,qu a,qu g]
          · rename_i g;cases h;refine .inr ⟨_,_,_,_,rfl,rfl,.inl ⟨rfl,fun st2 e=>?_⟩⟩;simp only [Zd,(c st2 e).1,(c st2 e).2,hd,f,qu a,qw g];rfl
        · cases h
      · cases h
  | hs n es o l=>
    have c : ∀ st2 : AS,(∀ m∈Kg (.hs n es o l) ++ Kg y,find st2.hp m = find st.hp m)→Yv st2 y = Yv st y∧Zn st2 y = Zn st y∧st2.blk n = st.blk n:=fun st2 e=>
      ⟨qep fun m j=>e m (by simp [j]),qiu fun m j=>e m (by simp [j]),e n (by simp [Kg])⟩
    simp only [Zd] at h;split at h
    · rename_i k xs ys hb hd;split at h
      · rename_i f;cases h;refine .inr ⟨_,_,_,_,rfl,rfl,.inr ⟨n,by simp [Kg],rfl,fun st2 e=>?_⟩⟩;obtain ⟨e1,_,r⟩:=c st2 e;simp only [Zd,e1,r,hb,hd,qu f];rfl
      · cases h
    · rename_i k xs hb hd;split at h
      · rename_i ys q;split at h
        · rename_i f;cases h;refine .inr ⟨_,_,_,_,rfl,rfl,.inr ⟨n,by simp [Kg],rfl,fun st2 e=>?_⟩⟩;obtain ⟨e1,s,r⟩:=c st2 e;simp only [Zd,e1,s,r,hb,hd,q,qu f];rfl
        · cases h
      · cases h
    · rename_i k xs hb;split at h
      · rename_i ys q;split at h
        · rename_i f;cases h;refine .inr ⟨_,_,_,_,rfl,rfl,.inr ⟨n,by simp [Kg],rfl,fun st2 e=>?_⟩⟩;obtain ⟨e1,s,r⟩:=c st2 e;simp only [Zd,e1,s,r,hb,q,qu f];rfl
        · cases h
      · cases h
    · cases h
  | _=>simp [Zd] at h
theorem qd6 {op : Op} (h : opFn T st op = some (v,st1)) (a : touch op = 0) : Out T st op v st1:=by
  have g:=(qg6 (st2:=st) h q8 (fun e=>absurd a e) (fun _ _=>rfl)).1;subst g;refine .calm rfl rfl (fun _ _=>rfl) (fun _ h=>h) fun st2 d c=>?_;have f:=(qg6 (st2:=st2) h q8 (fun e=>absurd a e) d).2;exact ⟨st2.hp,f,fun m b=>c.1 m b,fun _ _=>rfl⟩
theorem qx3 {t : TypeId} {p : Operand} (h : opFn T st (.load t p) = some (v,st1)) : Out T st (.load t p) v st1:=by
  simp only [opFn] at h
  cases b : T t with
  | none=>simp [b] at h
  | some i=>
    cases hp : st.ev p with
    | none=>simp [b,hp] at h
    | some x=>
      simp only [b,hp] at h;obtain ⟨rfl,g⟩:=Yz (st2:=st) h;have a : fp st1 (.load t p) = (some (Kg x),[]):=by simp only [fp,hp]
      refine .calm rfl rfl (fun _ _=>rfl) (fun _ h=>h) fun st2 f d=>?_;rw [a] at d;refine ⟨st2.hp,?_,fun m c=>by rw [a] at c;simp at c,fun _ _=>rfl⟩;simp only [opFn,b,f p (by simp [Op.operands]),hp,qua (st:=st1) (st2:=st2) d.2];simp_all
theorem q8o {op : Op} {mk : Nat→V} {b : Blk} (hk : (∃ es,mk = fun n=>.ref n es 0 0)∨(∃ es l,mk = fun n=>.hs n es 0 l)∨(mk = fun n=>.mp n)) (k : v = mk st.nx) (o : st1 = st.new b) (a : fp st op = (some [],[st.nx]))
    (d : ∀ st2 : AS,(∀ x∈op.operands,st2.ev x = st.ev x)→opFn T st2 op = some (mk st2.nx,st2.new b)) : Out T st op v st1:=by
  refine .new mk b st.hp hk k o (by rw [a];simp) (fun _ _=>rfl) (fun _ h=>h) fun st2 g j=>⟨st2.hp,d st2 g,fun m f=>j.1 m f,fun _ _=>rfl,fun m c p=>.inr p⟩
theorem qx6 {t : TypeId} {p x : Operand} (h : opFn T st (.store t p x) = some (v,st1)) : Out T st (.store t p x) v st1:=by
  simp only [opFn] at h
  cases d : T t with
  | none=>simp [d] at h
  | some i=>
    cases hp : st.ev p with
    | none=>simp [d,hp] at h
    | some pv=>
      cases g : st.ev x with
      | none=>simp [d,hp,g] at h
      | some xv=>
        simp only [d,hp,g] at h
        cases hs : Jk st i pv xv with
        | none=>simp [hs] at h
        | some r=>
          simp only [hs,Option.map_some,Option.some.injEq,Prod.mk.injEq] at h;obtain ⟨rfl,rfl⟩:=h;obtain ⟨n,b,l,rfl,c⟩:=q12q hs;have f : fp st (.store t p x) = (some [n],[n]):=by simp only [fp,hp,l]
          refine .calm rfl rfl (fun m a=>?_) (fun m a=>q82 a) fun st2 k j=>?_
          · rw [f] at a;exact q1o (by simp at a;omega)
          · rw [f] at j ⊢;refine ⟨repl st2.hp n b,?_,fun m a=>q81 (j.1 m a),fun m a=>q1o (by simp at a;omega)⟩;simp only [opFn,d,k p (by simp [Op.operands]),k x (by simp [Op.operands]),hp,g,c st2 (j.1 n qd),Option.map_some]
theorem qsx {args : Array Operand} {ats : Array TypeId} {s x : V} (h : evL st.ev args.toList = some [s,x]) : fp st (.call {callee:=.builtin .append,args:=args,argTypes:=ats}) = (some (Kg s ++ Kg x),st.nx::Kg s):=by
  simp only [fp,h]
theorem qsz {args : Array Operand} {ats : Array TypeId} {s x : V} (h : evL st.ev args.toList = some [s,x]) : fp st (.call {callee:=.builtin .copy,args:=args,argTypes:=ats}) = (some (Kg s ++ Kg x),Kg s):=by
  simp only [fp,h]
theorem qsy {args : Array Operand} {ats : Array TypeId} {x : V} (h : evL st.ev args.toList = some [x]) : fp st (.call {callee:=.builtin .clear,args:=args,argTypes:=ats}) = (some (Kg x),Kg x):=by
  simp only [fp,h]
theorem qx4 {t : TypeId} {x k : Operand} {ok : Bool} (h : opFn T st (.lookup t x k ok) = some (v,st1)) : Out T st (.lookup t x k ok) v st1:=by
  simp only [opFn] at h;split at h <;> try simp only [reduceCtorEq] at h
  · rename_i i n l e1 g p;split at h <;> try simp only [reduceCtorEq] at h
    rename_i ks o es z s u q;split at h <;> try simp only [reduceCtorEq] at h
    rename_i j
    cases b : mget i.eagg ks (.d z) l es with
    | none=>rw [b] at h;simp at h
    | some e=>
      rw [b] at h;simp only [Option.map_some,Option.some.injEq,Prod.mk.injEq] at h;obtain ⟨rfl,rfl⟩:=h;have a : fp st (.lookup t x k ok) = (some [n],[]):=by simp only [fp,g];rfl
      refine .calm rfl rfl (fun _ _=>rfl) (fun _ h=>h) fun st2 f r=>?_;rw [a] at r;have w : st2.blk n = st.blk n:=r.2 n qd;refine ⟨st2.hp,?_,fun m c=>by rw [a] at c;simp at c,fun _ _=>rfl⟩;simp only [opFn,e1,f x (by simp [Op.operands]),f k (by simp [Op.operands]),g,p,s,w,u,q,qu j,b,Option.map_some]
  · rename_i i es l e1 g p;split at h <;> try simp only [reduceCtorEq] at h
    rename_i ks z s q;split at h <;> try simp only [reduceCtorEq] at h
    rename_i j
    cases b : mget i.eagg ks (zNil i.esize z) l es with
    | none=>rw [b] at h;simp at h
    | some e=>
      rw [b] at h;simp only [Option.map_some,Option.some.injEq,Prod.mk.injEq] at h;obtain ⟨rfl,rfl⟩:=h;have a : fp st (.lookup t x k ok) = (some [],[]):=by simp only [fp,g];rfl
      refine .calm rfl rfl (fun _ _=>rfl) (fun _ h=>h) fun st2 f r=>?_;refine ⟨st2.hp,?_,fun m c=>by rw [a] at c;simp at c,fun _ _=>rfl⟩;simp only [opFn,e1,f x (by simp [Op.operands]),f k (by simp [Op.operands]),g,p,s,q,qu j,b,Option.map_some]
theorem qx5 {t : TypeId} {m k x : Operand} (h : opFn T st (.mapUpdate t m k x) = some (v,st1)) : Out T st (.mapUpdate t m k x) v st1:=by
  simp only [opFn] at h;split at h <;> try simp only [reduceCtorEq] at h
  rename_i i n q r e1 j s g;split at h <;> try simp only [reduceCtorEq] at h
  rename_i ks o es u l;split at h <;> try simp only [reduceCtorEq] at h
  rename_i p
  cases c : mput i.eagg ks q r es with
  | none=>rw [c] at h;simp at h
  | some es'=>
    rw [c] at h;simp only [Option.map_some,Option.some.injEq,Prod.mk.injEq] at h;obtain ⟨rfl,rfl⟩:=h;have b : fp st (.mapUpdate t m k x) = (some [n],[n]):=by simp only [fp,j];rfl
    refine .calm rfl rfl (fun m a=>?_) (fun m a=>q82 a) fun st2 d f=>?_
    · rw [b] at a;exact q1o (by simp at a;omega)
    · rw [b] at f ⊢;have w : st2.blk n = st.blk n:=f.1 n qd;refine ⟨repl st2.hp n (.mp o es'),?_,fun m a=>q81 (f.1 m a),fun m a=>q1o (by simp at a;omega)⟩;simp only [opFn,e1,d m (by simp [Op.operands]),d k (by simp [Op.operands]),d x (by simp [Op.operands]),j,s,g,u,w,l,qu p,c,Option.map_some];rfl
theorem qx2 {b : Builtin} {args : Array Operand} {ats : Array TypeId} (h : opFn T st (.call {callee:=.builtin b,args:=args,argTypes:=ats}) = some (v,st1)) : Out T st (.call {callee:=.builtin b,args:=args,argTypes:=ats}) v st1:=by
  have h0:=h;simp only [opFn] at h
  cases w : evL st.ev args.toList with
  | none=>simp [w] at h
  | some vs=>
    simp only [w] at h
    have r : ∀ st2 : AS,(∀ x∈(Op.call {callee:=.builtin b,args:=args,argTypes:=ats}).operands,st2.ev x = st.ev x)→evL st2.ev args.toList = some vs:=fun st2 g=>by
      rw [q5f fun x hx=>g x (by simpa [Op.operands,Call.operands] using hx)];exact w
    cases b
    case append=>
      match vs,h with
      | [s,x],h=>
        have k:=qsx (ats:=ats) w;simp only [Yn] at h;split at h
        · rename_i t u e1 e2;split at h
          · rename_i i j z e4;split at h
            · rename_i q
              have o : ∀ st2 : AS,(∀ x∈(Op.call {callee:=.builtin .append,args:=args,argTypes:=ats}).operands,st2.ev x = st.ev x)→opFn T st2 (.call {callee:=.builtin .append,args:=args,argTypes:=ats}) = Zd st2 i s x:=fun st2 g=>by
                simp only [opFn,r st2 g,Yn,e1,e2,z,e4,qu q]
              rcases qox h with ⟨rfl,d⟩ | ⟨es,l,b,hp1,rfl,rfl,⟨rfl,d⟩ | ⟨n,p,rfl,d⟩⟩
              · refine .calm rfl rfl (fun _ _=>rfl) (fun _ h=>h) fun st2 g f=>?_;rw [k] at f;exact ⟨st2.hp,(o st2 g).trans (d st2 f.2),fun m a=>f.1 m (by rw [k] at a;exact a),fun _ _=>rfl⟩
              · refine .new (fun n=>.hs n es 0 l) b _ (.inr (.inl ⟨_,_,rfl⟩)) rfl rfl (by rw [k];simp) (fun _ _=>rfl) (fun _ h=>h) fun st2 g f=>?_;rw [k] at f;exact ⟨st2.hp,(o st2 g).trans (d st2 f.2),fun m a=>f.1 m (by rw [k] at a;exact a),fun _ _=>rfl,fun m c q=>.inr q⟩
              · have y : ∀ m,m ∉ (fp st (.call {callee:=.builtin .append,args:=args,argTypes:=ats})).2→n≠m:=fun m a e=>by
                  rw [k] at a;exact a (by rw [← e];simp [p])
                refine .new (fun n=>.hs n es 0 l) b _ (.inr (.inl ⟨_,_,rfl⟩)) rfl rfl (by rw [k];simp) (fun m a=>q1o (y m a)) (fun m a=>q82 a) fun st2 g f=>?_;rw [k] at f;exact ⟨repl st2.hp n .dead,(o st2 g).trans (d st2 f.2),fun m a=>q81 (f.1 m (by rw [k] at a;exact a)),fun m a=>q1o (y m a),fun m c q=>qz6 q⟩
            · cases h
          · cases h
        · cases h
    case copy=>
      match vs,h with
      | [s,x],h=>
        have k:=qsz (ats:=ats) w;simp only [Yn] at h;split at h
        · rename_i t u e1 e2;split at h
          · rename_i i j z e4;split at h
            · rename_i q
              have o : ∀ st2 : AS,(∀ x∈(Op.call {callee:=.builtin .copy,args:=args,argTypes:=ats}).operands,st2.ev x = st.ev x)→opFn T st2 (.call {callee:=.builtin .copy,args:=args,argTypes:=ats}) = copyV st2 s x:=fun st2 g=>by
                simp only [opFn,r st2 g,Yn,e1,e2,z,e4,qu q]
              obtain ⟨n,b,p,rfl,d⟩:=qqr h;refine .calm rfl rfl (fun m a=>?_) (fun m a=>q82 a) fun st2 g f=>?_
              · rw [k,p] at a;exact q1o (by simp at a;omega)
              · rw [k] at f ⊢;refine ⟨repl st2.hp n b,(o st2 g).trans (d st2 (f.1 n (by simp [p])) fun m a=>f.2 m (by simp [a])),fun m a=>q81 (f.1 m a),fun m a=>q1o (by rw [p] at a;simp at a;omega)⟩
            · cases h
          · cases h
        · cases h
    case clear=>
      match vs,h with
      | [x],h=>
        have k:=qsy (ats:=ats) w;simp only [Yn] at h;split at h
        · rename_i t e1;split at h
          · rename_i i z;split at h
            · rename_i q
              have o : ∀ st2 : AS,(∀ x∈(Op.call {callee:=.builtin .clear,args:=args,argTypes:=ats}).operands,st2.ev x = st.ev x)→opFn T st2 (.call {callee:=.builtin .clear,args:=args,argTypes:=ats}) = Us st2 i x:=fun st2 g=>by
                simp only [opFn,r st2 g,Yn,e1,z,qu q]
              rcases qqc h with ⟨rfl,d⟩ | ⟨n,b,p,rfl,d⟩
              · refine .calm rfl rfl (fun _ _=>rfl) (fun _ h=>h) fun st2 g f=>?_;rw [k] at f;exact ⟨st2.hp,(o st2 g).trans (d st2),fun m a=>f.1 m (by rw [k] at a;exact a),fun _ _=>rfl⟩
              · refine .calm rfl rfl (fun m a=>?_) (fun m a=>q82 a) fun st2 g f=>?_
                · rw [k,p] at a;exact q1o (by simp at a;omega)
                · rw [k] at f ⊢;refine ⟨repl st2.hp n b,(o st2 g).trans (d st2 (f.1 n (by simp [p]))),fun m a=>q81 (f.1 m a),fun m a=>q1o (by rw [p] at a;simp at a;omega)⟩
            · cases h
          · cases h
        · cases h
    case len=>exact qd6 h0 rfl
    case min=>exact qd6 h0 rfl
    case max=>exact qd6 h0 rfl
    all_goals simp [Yn] at h
theorem qly {op : Op} (h : opFn T st op = some (v,st1)) : Out T st op v st1:=by
  cases op
  case load t p=>exact qx3 h
  case store t p x=>exact qx6 h
  case call c=>
    obtain ⟨u,args,ats⟩:=c
    cases u with
    | builtin b=>exact qx2 h
    | value f=>simp [opFn] at h
    | invoke r n=>simp [opFn] at h
  case alloc t=>
    simp only [opFn] at h
    cases a : T t with
    | none=>simp [a] at h
    | some i=>
      simp only [a,Option.map_some,Option.some.injEq,Prod.mk.injEq] at h;obtain ⟨rfl,rfl⟩:=h;exact q8o (mk:=fun n=>.ref n i.size 0 0) (.inl ⟨_,rfl⟩) rfl rfl rfl fun st2 _=>by simp only [opFn,a];rfl
  case box t x=>
    simp only [opFn] at h
    cases a : T t with
    | none=>simp [a] at h
    | some i=>
      cases g : st.ev x with
      | none=>simp [a,g] at h
      | some xv=>
        simp only [a,g] at h;split at h
        · rename_i o;simp only [Option.some.injEq,Prod.mk.injEq] at h;obtain ⟨rfl,rfl⟩:=h;exact q8o (mk:=fun n=>.ref n i.size 0 0) (.inl ⟨_,rfl⟩) rfl rfl rfl fun st2 j=>by simp only [opFn,a,j x (by simp [Op.operands]),g,qu o]
        · cases h
  case buildSlice t len ps=>
    simp only [opFn] at h
    cases a : T t with
    | none=>simp [a] at h
    | some i=>
      cases g : Js st.ev ps.toList with
      | none=>simp [a,g] at h
      | some vs=>
        simp only [a,g] at h;split at h
        · rename_i l w;split at h
          · rename_i o
            cases s : q4g (List.replicate len (i.ezero.map .d)) l with
            | none=>simp [s] at h
            | some xs=>
              simp only [s,Option.map_some,Option.some.injEq,Prod.mk.injEq] at h;obtain ⟨rfl,rfl⟩:=h
              exact q8o (mk:=fun n=>.hs n i.esize 0 len) (.inr (.inl ⟨_,_,rfl⟩)) rfl rfl rfl fun st2 j=>by
                have e:=qew (ev:=st.ev) (ev':=st2.ev) (l:=ps.toList) (fun x g=>j x (by simpa [Op.operands] using g));simp only [opFn,a,e,g,w,qu o,s,Option.map_some]
          · cases h
        · cases h
  case makeSlice t l c=>
    have y:=h;simp only [opFn] at h;split at h
    · rename_i i k n k' m e1 e2 z;split at h
      · rename_i o;simp only [Option.some.injEq,Prod.mk.injEq] at h;obtain ⟨rfl,rfl⟩:=h
        exact q8o (mk:=fun q=>.hs q i.esize 0 n.toNat) (.inr (.inl ⟨_,_,rfl⟩)) rfl rfl rfl fun st2 j=>by
          simp only [opFn,e1,j l (by simp [Op.operands]),j c (by simp [Op.operands]),e2,z,qu o]
      · cases h
    · cases h
  case lookup=>exact qx4 h
  case mapUpdate=>exact qx5 h
  case makeMap t r=>
    have y:=h;simp only [opFn] at h;split at h <;> try simp only [reduceCtorEq] at h
    rename_i i e1;split at h <;> try simp only [reduceCtorEq] at h
    rename_i hk;simp only [Option.some.injEq,Prod.mk.injEq] at h;obtain ⟨rfl,rfl⟩:=h;exact q8o (mk:=fun n=>.mp n) (.inr (.inr rfl)) rfl rfl rfl fun st2 _=>by simp only [opFn,e1,qu hk]
  all_goals first | exact qd6 h rfl | (simp [opFn] at h;done)
end
end Go.Am
