/- Am16m Am17 Am18 Am19 Am20 Am21 -/
import Derived.Test.YtbknppciefodiaaGreatK3
import Derived.RangeFuncRecord
import Derived.RangeFuncNested
import Derived.OrdersIn
import Derived.RangeFuncCalls
namespace Go.Am
open Go
variable {P : Program} {T : Tab}
def Ue (P : Program) (em : Bool) (k : Nat) (t : TypeId) (desc : TypeDesc) (n : Nat) : Prop:=
  ∀ w,(K5 desc = true→∀ X : Array Value,X.size = n→(Instr.checkKey em k t (.agg X)).run P w = .ok () w)∧(K5 desc = false→n = 1∧∀ x,(Instr.checkKey em k t x).run P w = .ok () w)
theorem qg1 {em : Bool} {k : Nat} {t : TypeId} {desc : TypeDesc} {info : TypeInfo} {n : Nat} (h : Ue P em k t desc n) (hu : P.underlying t = some desc) (hi : P.info? t = some info) (hs : info.size = n) {X : Array Value} {o : Nat} (ho : o + n≤X.size) (w : World) :
    ∃ v,(part t X o).run P w = .ok v w∧(Instr.checkKey em k t v).run P w = .ok () w:=by
  obtain ⟨e1,e2⟩:=h w
  cases hag : K5 desc with
  | true=>exact ⟨.agg (X.extract o (o + n)),by simp [part,q1o hu,hag,Yq hi,hs],e1 hag _ (by simp;omega)⟩
  | false=>
    obtain ⟨h1,e2⟩:=e2 hag
    obtain ⟨x,hx⟩:=Kp (xs:=X) (i:=o) q6
    exact ⟨x,by simp [part,q1o hu,hag,hx],e2 x⟩
def qcn (em : Bool) (k : Nat) (X : Array Value) (f : Field) (_s : PUnit) : Sem (ForInStep PUnit):=
  if f.name ≠ "_" then do
    let __do_lift ← part f.type X f.offset
    Instr.checkKey em k f.type __do_lift
    pure (ForInStep.yield PUnit.unit)
  else pure (ForInStep.yield PUnit.unit)
theorem qlc {d : Nat} {t : TypeId} {ks : List (Option IntKind)} (h : K8 P d t = some ks) : ∃ df,P.underlying t = some df:=by
  cases hu : P.underlying t with
  | none=>cases d <;> simp [K8,hu] at h
  | some df=>exact ⟨df,rfl⟩
theorem qfz (em : Bool) (d k : Nat) (ih : ∀ t desc ks,P.underlying t = some desc→K8 P d t = some ks→Ue P em k t desc ks.length) (X : Array Value) (w : World) : ∀ (l : List Field) (o : Nat) (ks : List (Option IntKind)),
    tile P (K8 P d) o l = some ks→o + ks.length≤X.size→(forIn l PUnit.unit (qcn em k X) : Sem PUnit).run P w = .ok PUnit.unit w
  | [],_,_,_,_=>by simp
  | f::l,o,ks,ht,hl=>by
    simp only [tile] at ht
    cases hpe : K8 P d f.type with
    | none=>simp [hpe] at ht
    | some ka=>
      simp only [hpe] at ht
      split at ht <;> try simp at ht
      rename_i hcond
      obtain ⟨rfl,hn,hsz⟩:=hcond
      cases htl : tile P (K8 P d) (f.offset + ka.length) l with
      | none=>simp [htl] at ht
      | some kb=>
        simp only [htl,Option.some.injEq] at ht;subst ht
        simp only [List.length_append] at hl
        obtain ⟨df,hdf⟩:=qlc hpe
        obtain ⟨jf,hjf,hsz'⟩:=qbv hdf
        obtain ⟨v,g1,g2⟩:=qg1 (ih f.type df ka hdf hpe) hdf hjf q6 (X:=X) (o:=f.offset) q6 w
        have:=qfz em d k ih X w l (f.offset + ka.length) kb htl q6
        rw [List.forIn_cons]
        simp only [qcn,if_pos hn,Sem.run_bind,g1,g2,Result.andThen_ok]
        simpa using this
def qco (em : Bool) (k : Nat) (e : TypeId) (X : Array Value) (i : Nat) (_s : PUnit) : Sem (ForInStep PUnit):=do
  let __do_lift ← sizeOf e
  let __do_lift ← part e X (i * __do_lift)
  Instr.checkKey em k e __do_lift
  pure (ForInStep.yield PUnit.unit)
theorem qg0 {em : Bool} {k : Nat} {e : TypeId} {desc : TypeDesc} {info : TypeInfo} {n : Nat} (hE : Ue P em k e desc n) (hu : P.underlying e = some desc) (hi : P.info? e = some info) (hs : info.size = n) {X : Array Value} (w : World) :
    ∀ (m s : Nat),(s + m) * n≤X.size→(forIn (List.range' s m) PUnit.unit (qco em k e X) : Sem PUnit).run P w = .ok PUnit.unit w
  | 0,s,_=>by simp
  | m + 1,s,hl=>by
    have e1 : s * n + n = (s + 1) * n:=by rw [Nat.add_mul];simp
    have e2 : (s + (m + 1)) * n = (s + 1) * n + m * n:=by rw [← Nat.add_mul];congr 1;omega
    obtain ⟨v,g1,g2⟩:=qg1 hE hu hi hs (X:=X) (o:=s * n) q6 w
    have:=qg0 hE hu hi hs w m (s + 1) (X:=X) (by rw [Nat.add_mul (s + 1)];omega)
    rw [List.range'_succ,List.forIn_cons]
    simp only [qco,Sem.run_bind,Yq hi,hs,g1,g2,Result.andThen_ok]
    simpa using this
theorem qcq (em : Bool) : ∀ (d : Nat) (t : TypeId) (desc : TypeDesc) (ks : List (Option IntKind)),P.underlying t = some desc→K8 P d t = some ks→∀ k,d≤k→Ue P em k t desc ks.length
  | 0,t,desc,ks,hu,hp,k,hk=>by simp [K8] at hp
  | d + 1,t,desc,ks,hu,hp,k,hk=>by
    obtain ⟨k,rfl⟩ : ∃ k',k = k' + 1:=⟨k - 1,q6⟩
    intro w
    simp only [K8,hu] at hp
    cases desc <;> simp only [reduceCtorEq,Option.some.injEq] at hp
    case bool=>subst hp;exact ⟨by simp [K5],fun _=>⟨rfl,fun x=>by unfold Instr.checkKey;simp [run_underlying hu]⟩⟩
    case int k0=>subst hp;exact ⟨by simp [K5],fun _=>⟨rfl,fun x=>by unfold Instr.checkKey;simp [run_underlying hu]⟩⟩
    case struct fs=>
      refine ⟨fun _ X hX=>?_,by simp [K5]⟩
      split at hp
      · simp at hp
      · have:=qfz (P:=P) em d k (fun t desc ks h1 h2=>qcq em d t desc ks h1 h2 k q6) X w fs.toList 0 ks hp q6
        rw [Array.forIn_toList] at this
        unfold qcn at this
        unfold Instr.checkKey
        simp only [Sem.run_bind,run_underlying hu,Result.andThen_ok]
        rw [this]
        simp
    case array n e=>
      refine ⟨fun _ X hX=>?_,by simp [K5]⟩
      cases hpe : K8 P d e with
      | none=>simp [hpe] at hp
      | some a=>
        simp only [hpe] at hp
        split at hp
        · rename_i hsz
          simp only [Option.some.injEq] at hp;subst hp
          obtain ⟨de,hde⟩:=qlc hpe
          obtain ⟨je,hje,hsz'⟩:=qbv hde
          have hlen : (List.replicate n a).flatten.length = n * a.length:=by simp
          have:=qg0 (qcq em d e de a hde hpe k q6) hde hje q6 w n 0 (X:=X) (by rw [Nat.zero_add];omega)
          unfold Instr.checkKey
          simp only [Sem.run_bind,run_underlying hu,Result.andThen_ok,Std.Legacy.Range.forIn_eq_forIn_range',Std.Legacy.Range.size,Nat.sub_zero,Nat.add_sub_cancel,Nat.div_one]
          unfold qco at this
          rw [this]
          simp
        · simp at hp
section
variable {w w' : World} {Z : Nat→Prop} {inj : Inj}
theorem qa9 {d : DV} {v : Value} (h : RelD w Z d v) : DRel w Z [d] #[v]:=⟨rfl,fun i x y hx hy=>by
  cases i with
  | zero=>simp at hx hy;subst hx hy;exact h
  | succ i=>simp at hx⟩
theorem q7h {d : DV} {v : Value} (h : RelD w Z d v) (ha : Z4 d = true) : ∃ cs,v = .agg cs∧DRel w Z (cellsD d) cs:=by
  cases h <;> simp [Z4] at ha
  rename_i ds cs hl hr
  exact ⟨cs,rfl,hl,hr⟩
theorem q4c {d : DV} (ha : Z4 d = false) : cellsD d = [d]:=by cases d <;> simp_all [Z4,cellsD]
theorem qhz {kt : TypeId} {desc : TypeDesc} {ks : List (Option IntKind)} (hu : P.underlying kt = some desc) (hp : K8 P 8 kt = some ks) {a b : DV} {u v : Value} (ha : RelD w Z a u) (hb : RelD w Z b v)
    (ka : Z4 a = K5 desc) (kb : Z4 b = K5 desc) {r : Bool} (hc : K7 ks (cellsD a) (cellsD b) = some r) : (Op.equal kt u v).run P w = .ok r w:=by
  have key:=qac (P:=P) (w:=w) (Z:=Z) 8 kt desc ks hu hp Op.maxDepth (by unfold Op.maxDepth;omega)
  cases hag : K5 desc with
  | true=>
    obtain ⟨X,rfl,hX⟩:=q7h ha (ka.trans hag)
    obtain ⟨Y,rfl,hY⟩:=q7h hb (kb.trans hag)
    exact (key _ _ _ _ r hX hY hc).1 hag
  | false=>
    rw [q4c (ka.trans hag),q4c (kb.trans hag)] at hc
    exact ((key _ _ _ _ r (qa9 ha) (qa9 hb) hc).2 hag).2 u v rfl rfl
theorem qel {kt : TypeId} {desc : TypeDesc} {ks : List (Option IntKind)} (hu : P.underlying kt = some desc) (hp : K8 P 8 kt = some ks) {a b : DV} {u v : Value} (ha : RelD w Z a u) (hb : RelD w Z b v) (hag : K5 desc = false)
    {r : Bool} (hc : K7 ks [a] [b] = some r) : Instr.sameNow desc u v = some r:=by
  simp only [K8,hu] at hp
  cases desc <;> simp only [reduceCtorEq,Option.some.injEq] at hp <;> try (simp [K5] at hag;done)
  case bool=>
    subst hp
    simp only [K7] at hc
    cases a <;> cases b <;> simp only [q2i,reduceCtorEq] at hc
    simp at hc;subst hc
    cases ha;cases hb;rfl
  case int k0=>
    subst hp
    simp only [K7] at hc
    cases a <;> cases b <;> simp only [q2i,reduceCtorEq] at hc
    split at hc <;> simp at hc
    rename_i h1 h2
    split at h1 <;> simp at h1
    rename_i hkk
    obtain ⟨rfl,rfl⟩:=hkk
    subst h1 hc
    simp at h2;subst h2
    cases ha;cases hb;simp [Instr.sameNow]
def Ents (w : World) (Z : Nat→Prop) (es : List (DV × DV)) (ents : List MapEntry) : Prop:=
  ents.length = es.length∧∀ (i : Nat) (e : DV × DV) (x : MapEntry),es[i]? = some e→ents[i]? = some x→RelD w Z e.1 x.key∧RelD w Z e.2 x.val∧Y5 e.2 = true
theorem Ents.tail {e : DV × DV} {es : List (DV × DV)} {x : MapEntry} {ents : List MapEntry} (h : Ents w Z (e::es) (x::ents)) : RelD w Z e.1 x.key∧Ents w Z es ents:=
  ⟨(h.2 0 e x rfl rfl).1,by simpa using h.1,fun i e' x' h1 h2=>h.2 (i + 1) e' x' (by simpa using h1) (by simpa using h2)⟩
theorem qd3 {kt : TypeId} {desc : TypeDesc} {ks : List (Option IntKind)} (hu : P.underlying kt = some desc) (hp : K8 P 8 kt = some ks) {a : DV} {u : Value} (ha : RelD w Z a u) (hag : K5 desc = false) :
    ∀ (es : List (DV × DV)) (ents : List MapEntry) (s : Nat) (r : Option Nat),Ents w Z es ents→Z9 false ks a es = some r→Instr.findNow desc u ents s = some (r.bind fun i=>(ents[i]?).map fun x=>(s + i,x.val))
  | [],[],s,r,_,hm=>by simp only [Z9,Option.some.injEq] at hm;subst hm;rfl
  | [],x::ents,_,_,h,_=>by have:=h.1;simp at this
  | e::es,[],_,_,h,_=>by have:=h.1;simp at this
  | (b,c)::es,x::ents,s,r,h,hm=>by
    obtain ⟨h1,h2⟩:=h.tail
    simp only [Z9] at hm
    split at hm <;> try simp at hm
    rename_i hk
    rw [q4c hk.1,q4c hk.2] at hm
    split at hm <;> try simp at hm
    · rename_i hc
      subst hm
      simp [Instr.findNow,qel hu hp ha h1 hag hc]
    · rename_i hc
      split at hm <;> simp at hm
      · rename_i i hi
        subst hm
        have:=qd3 hu hp ha hag es ents (s + 1) _ h2 hi
        simp only [Instr.findNow,qel hu hp ha h1 hag hc,this]
        simp [Nat.add_comm,Nat.add_left_comm]
      · rename_i hi
        subst hm
        have:=qd3 hu hp ha hag es ents (s + 1) _ h2 hi
        simp only [Instr.findNow,qel hu hp ha h1 hag hc,this]
        rfl
theorem qd2 {kt : TypeId} {desc : TypeDesc} {ks : List (Option IntKind)} (hu : P.underlying kt = some desc) (hp : K8 P 8 kt = some ks) {a : DV} {u : Value} (ha : RelD w Z a u) (hag : K5 desc = true) :
    ∀ (es : List (DV × DV)) (ents : List MapEntry) (s : Nat) (r : Option Nat),Ents w Z es ents→Z9 true ks a es = some r→(Instr.findAsking kt u ents s).run P w = .ok (r.bind fun i=>(ents[i]?).map fun x=>(s + i,x.val)) w
  | [],[],s,r,_,hm=>by simp only [Z9,Option.some.injEq] at hm;subst hm;simp [Instr.findAsking]
  | [],x::ents,_,_,h,_=>by have:=h.1;simp at this
  | e::es,[],_,_,h,_=>by have:=h.1;simp at this
  | (b,c)::es,x::ents,s,r,h,hm=>by
    obtain ⟨h1,h2⟩:=h.tail
    simp only [Z9] at hm
    split at hm <;> try simp at hm
    rename_i hk
    split at hm <;> try simp at hm
    · rename_i hc
      subst hm
      simp [Instr.findAsking,qhz hu hp ha h1 (hk.1.trans hag.symm) (hk.2.trans hag.symm) hc]
    · rename_i hc
      have hq:=qhz hu hp ha h1 (hk.1.trans hag.symm) (hk.2.trans hag.symm) hc
      split at hm <;> simp at hm
      · rename_i i hi
        subst hm
        have:=qd2 hu hp ha hag es ents (s + 1) _ h2 hi
        simp only [Instr.findAsking,Sem.run_bind,hq,Result.andThen_ok,Bool.false_eq_true,if_false,this]
        simp [Nat.add_comm,Nat.add_left_comm]
      · rename_i hi
        subst hm
        have:=qd2 hu hp ha hag es ents (s + 1) _ h2 hi
        simp only [Instr.findAsking,Sem.run_bind,hq,Result.andThen_ok,Bool.false_eq_true,if_false,this]
        rfl
theorem qo3 {kt : TypeId} {desc : TypeDesc} {ks : List (Option IntKind)} (hu : P.underlying kt = some desc) (hp : K8 P 8 kt = some ks) {a : DV} {u : Value} (ha : RelD w Z a u) (ka : Z4 a = K5 desc)
    {es : List (DV × DV)} {ents : List MapEntry} {r : Option Nat} (h : Ents w Z es ents) (hm : Z9 (K5 desc) ks a es = some r) : (Instr.findKey kt u ents).run P w = .ok (r.bind fun i=>(ents[i]?).map fun x=>(i,x.val)) w:=by
  cases hag : K5 desc with
  | false=>
    rw [hag] at hm
    have:=qd3 hu hp ha hag es ents 0 r h hm
    simp only [Nat.zero_add] at this
    simp only [Instr.findKey,Sem.run_bind,run_underlying hu,Result.andThen_ok,this]
    simp
  | true=>
    rw [hag] at hm
    have:=qd2 hu hp ha hag es ents 0 r h hm
    simp only [Nat.zero_add] at this
    cases ents with
    | nil=>
      rw [← this]
      simp [Instr.findKey,run_underlying hu,Instr.findNow,Instr.findAsking]
    | cons e es=>
      have hn : Instr.findNow desc u (e::es) 0 = none:=by
        cases desc <;> simp [K5] at hag <;> simp [Instr.findNow,Instr.sameNow]
      simp only [Instr.findKey,Sem.run_bind,run_underlying hu,Result.andThen_ok,hn]
      exact this
theorem qcm : ∀ {ks : List (Option IntKind)} {xs ys : List DV} {X Y : List Value},K7 ks xs ys = some true→(X.length = xs.length)→(Y.length = ys.length)→
    (∀ (i : Nat) (d : DV) (c : Value),xs[i]? = some d→X[i]? = some c→RelD w Z d c)→(∀ (i : Nat) (d : DV) (c : Value),ys[i]? = some d→Y[i]? = some c→RelD w Z d c)→∀ n,X.length = Y.length∧(Y.zip X).all (fun (x,y)=>Instr.sameBits n x y) = true
  | [],[],[],[],[],_,_,_,_,_,n=>⟨rfl,rfl⟩
  | [],[],[],_::_,_,_,h,_,_,_,_=>by simp at h
  | [],[],[],[],_::_,_,_,h,_,_,_=>by simp at h
  | [],[],_::_,_,_,h,_,_,_,_,_=>by simp [K7] at h
  | [],_::_,_,_,_,h,_,_,_,_,_=>by simp [K7] at h
  | _::_,[],_,_,_,h,_,_,_,_,_=>by simp [K7] at h
  | _::_,_::_,[],_,_,h,_,_,_,_,_=>by simp [K7] at h
  | k::ks,a::xs,b::ys,[],_,_,h,_,_,_,_=>by simp at h
  | k::ks,a::xs,b::ys,_::_,[],_,_,h,_,_,_=>by simp at h
  | k::ks,a::xs,b::ys,x::X,y::Y,h,l1,l2,r1,r2,n=>by
    simp only [K7] at h
    split at h <;> simp at h
    rename_i p q hp hq
    obtain ⟨rfl,rfl⟩:=h
    obtain ⟨e1,e2⟩:=qcm hq (by simpa using l1) (by simpa using l2) (fun i d c hd hc=>r1 (i + 1) d c (by simpa using hd) (by simpa using hc)) (fun i d c hd hc=>r2 (i + 1) d c (by simpa using hd) (by simpa using hc)) n
    have g1:=r1 0 a x rfl rfl
    have g2:=r2 0 b y rfl rfl
    refine ⟨by simp [e1],?_⟩
    simp only [List.zip_cons_cons,List.all_cons,e2,Bool.and_true]
    cases k with
    | none=>
      cases a <;> cases b <;> simp only [q2i,reduceCtorEq] at hp
      simp at hp;subst hp
      cases g1;cases g2;cases n <;> simp [Instr.sameBits]
    | some k=>
      cases a <;> cases b <;> simp only [q2i,reduceCtorEq] at hp
      split at hp <;> simp at hp
      rename_i hkk
      obtain ⟨rfl,rfl⟩:=hkk
      subst hp
      cases g1;cases g2;cases n <;> simp [Instr.sameBits]
theorem qp6 {ks : List (Option IntKind)} {ag : Bool} {a b : DV} {u v : Value} (ha : RelD w Z a u) (hb : RelD w Z b v) (ka : Z4 a = ag) (kb : Z4 b = ag) (hc : K7 ks (cellsD a) (cellsD b) = some true) :
    (Instr.keyThatStays v u).run P w = .ok u w:=by
  have hs : Instr.sameBits 10000 v u = true:=by
    cases ag with
    | true=>
      obtain ⟨X,rfl,h1,h2⟩:=q7h ha ka
      obtain ⟨Y,rfl,h3,h4⟩:=q7h hb kb
      obtain ⟨e1,e2⟩:=qcm (X:=X.toList) (Y:=Y.toList) hc (by simpa using h1.symm) (by simpa using h3.symm) (fun i d c hd hx=>h2 i d c hd (by simpa using hx)) (fun i d c hd hx=>h4 i d c hd (by simpa using hx)) 9999
      have hz : (Y.size == X.size) = true:=by simp at e1;simp [e1]
      show (Y.size == X.size && (Y.toList.zip X.toList).all fun (x,y)=>Instr.sameBits 9999 x y) = true
      rw [hz,e2];rfl
    | false=>
      rw [q4c ka,q4c kb] at hc
      have:=(qcm (X:=[u]) (Y:=[v]) hc rfl rfl (fun i d c h1 h2=>(qa9 ha).2 i d c h1 (by simpa using h2)) (fun i d c h1 h2=>(qa9 hb).2 i d c h1 (by simpa using h2)) 10000).2
      simpa using this
  simp [Instr.keyThatStays,hs]
end
theorem qhb {w : World} {a : Addr} (h : ∀ c e f,w.heap[a.block]?≠some (.cells c e f)) : w.frozen? a = false:=by
  unfold World.frozen?
  split
  · rename_i hh;exact absurd hh (h _ _ _)
  · rfl
theorem qd6 {w : World} {b : Nat} {o : Obj} (h : ∀ c e f,w.heap[b]?≠some (.cells c e f)) (ho : ∀ c e f,o≠.cells c e f) (a : Addr) : (w.putObj b o).frozen? a = w.frozen? a:=by
  by_cases hb : a.block = b
  · subst hb
    rw [qhb h,qhb]
    intro c e f
    by_cases hlt : a.block < w.heap.size
    · rw [World.putObj_heap_same hlt];intro he;exact ho _ _ _ (Option.some.inj he)
    · have e2 : (w.putObj a.block o).heap[a.block]? = none:=by simp;omega
      rw [e2];simp
  · simp only [World.frozen?,World.putObj_heap_other hb]
theorem q4b {w : World} {b : Nat} {es : Array MapEntry} {cl : Nat} (hb : w.heap[b]? = some (.map es cl)) : (getObj b).run P w = .ok (.map es cl) w:=by simp [getObj,Sem.run,hb]
theorem qbc {w : World} {b : Nat} {es : Array MapEntry} {cl : Nat} (o : Obj) (hb : w.heap[b]? = some (.map es cl)) : (setObj b o).run P w = .ok () (w.putObj b o):=by simp [setObj,Sem.run,hb,World.putObj]
section
variable {w : World} {Z : Nat→Prop} {inj : Inj} {hp : List (Nat × Blk)} {nx pin : Nat}
theorem qsn {n : Nat} {es : List (DV × DV)} (h : RelB w Z inj nx n (.mp es)) : ∃ b ents cl,inj n = some (b,0)∧w.heap[b]? = some (.map ents cl)∧Ents w Z es ents.toList:=by
  obtain ⟨b,ents,cl,h1,h2,h3,h4⟩:=h
  exact ⟨b,ents,cl,h1,h2,by simpa using h3,fun i e x he hx=>h4 i e x he (by simpa using hx)⟩
theorem qjq (h : RelH w Z inj hp nx) {n : Nat} {es es' : List (DV × DV)} (hn : find hp n = some (.mp es)) {b : Nat} (hi : inj n = some (b,0)) {ents ents' : Array MapEntry} {cl cl' : Nat} (hb : w.heap[b]? = some (.map ents cl))
    (hE : Ents w Z es' ents'.toList) : RelH (w.putObj b (.map ents' cl')) Z inj (repl hp n (.mp es')) nx∧Ext w Z inj hp (w.putObj b (.map ents' cl')) Z inj (repl hp n (.mp es')) pin:=by
  have hother : ∀ k,k≠b→(w.putObj b (.map ents' cl')).heap[k]? = w.heap[k]?:=fun k hk=>World.putObj_heap_other hk
  have hzb : ¬ Z b:=fun hz=>by
    obtain ⟨c,e,f,hc⟩:=h.zc b hz
    rw [hb] at hc;cases hc
  have hkb : Zb w (w.putObj b (.map ents' cl')):=fun k c e f hk=>by
    by_cases hkb : k = b
    · subst hkb;rw [hb] at hk;cases hk
    · exact ⟨c,e,f,(hother k hkb).trans hk,rfl⟩
  have hz : ∀ k,Z k→(w.putObj b (.map ents' cl')).heap[k]? = w.heap[k]?:=fun k hk=>hother k (fun e=>hzb (e ▸ hk))
  have hfind : ∀ m c,find (repl hp n (.mp es')) m = some c→(m = n∧c = .mp es')∨(m≠n∧find hp m = some c):=by
    intro m c hm
    rw [Yl] at hm
    split at hm
    · rename_i e;subst e;rw [hn] at hm;simp at hm;exact .inl ⟨rfl,hm.symm⟩
    · rename_i e;exact .inr ⟨fun h=>e h.symm,hm⟩
  have himm : ∀ k,im (repl hp n (.mp es')) inj k→im hp inj k:=by
    rintro k ⟨m,c,o,h1,h2,h3⟩
    rcases hfind m c h1 with ⟨rfl,rfl⟩ | ⟨_,h4⟩
    · exact ⟨m,_,o,hn,rfl,h3⟩
    · exact ⟨m,c,o,h4,h2,h3⟩
  have hnew : RelB (w.putObj b (.map ents' cl')) Z inj nx n (.mp es'):=by
    refine ⟨b,ents',cl',hi,World.putObj_heap_same (Zk hb),by simpa using hE.1,fun i e x he hx=>?_⟩
    obtain ⟨g1,g2,g3⟩:=hE.2 i e x he (by simpa using hx)
    exact ⟨g1.mono hz (fun _ h=>h),g2.mono hz (fun _ h=>h),g3⟩
  refine ⟨⟨?_,?_,?_,?_,?_⟩,⟨qd,?_,fun k hk=>.inl (himm k hk),hkb,?_,fun _ h=>h,fun _ h=>.inl h,fun _ _=>rfl,rfl,rfl,rfl,qd6 (fun _ _ _=>by rw [hb];simp) (fun _ _ _=>qd)⟩⟩
  · intro m c hm
    rcases hfind m c hm with ⟨rfl,rfl⟩ | ⟨hne,h4⟩
    · exact ⟨(h.blk _ _ hn).1,hnew⟩
    · obtain ⟨h5,h6⟩:=h.blk m c h4
      exact ⟨h5,h6.mono hz (fun _ h=>h) hkb (fun _ _=>rfl) (Nat.le_refl _) h5 fun p hp hlv=>hother _ fun e=>h.sep m n c _ p (b,0) h4 hn hlv rfl hp hi hne e⟩
  · intro m m' c c' p q h1 h2 h3 h4 h5 h6 hne
    rcases hfind m c h1 with ⟨rfl,rfl⟩ | ⟨e1,k1⟩ <;> rcases hfind m' c' h2 with ⟨rfl,rfl⟩ | ⟨e2,k2⟩
    · exact absurd rfl hne
    · exact h.sep _ _ _ _ p q hn k2 rfl h4 h5 h6 hne
    · exact h.sep _ _ _ _ p q k1 hn h3 rfl h5 h6 hne
    · exact h.sep _ _ _ _ p q k1 k2 h3 h4 h5 h6 hne
  · intro m c p h1 h2 h3
    rcases hfind m c h1 with ⟨rfl,rfl⟩ | ⟨e1,k1⟩
    · exact h.out _ _ p hn rfl h3
    · exact h.out _ _ p k1 h2 h3
  · intro k hk;simpa using h.zs k hk
  · intro k hk
    obtain ⟨c,e,f,hc⟩:=h.zc k hk
    exact ⟨c,e,f,(hz k hk).trans hc⟩
  · intro k _ hk
    exact hother k fun e=>hk ⟨n,_,0,hn,rfl,e ▸ hi⟩
  · intro k x hk
    by_cases hkb : k = b
    · subst hkb
      rw [hb] at hk;cases hk
    · exact ⟨x,(hother k hkb).trans hk,rfl⟩
end
section
variable {w : World} {Z : Nat→Prop} {inj : Inj} {st : AS} {a : Act} {Ds : List Nat}
theorem qr1 {t : TypeId} (h : RelS w Z inj st a Ds) : Ka st (st.new (.mp [])) (.mp st.nx) w Z inj ((do pure (Next.value (← Instr.makeMap t none)) : Sem Next).run P w):=by
  refine .new (o:=.map #[] 0) (x:=.map (some w.heap.size)) h ?_ ?_ (.mp q6 (Kn _ _ _))
  · simp [Instr.makeMap]
  · exact ⟨w.heap.size,#[],0,Kn _ _ _,J4 w _,rfl,qd⟩
theorem q4f {t : TypeId} {i : TI} {ks : List (Option IntKind)} {n : Nat} {es : List (DV × DV)} {kd : DV} {mv kv : Value} {r : Option Nat} (h : RelS w Z inj st a Ds) (ht : tiOf P t = some i) (hk : i.keys = some ks) (hm : RelV w Z inj st.nx (.mp n) mv)
    (hb : st.blk n = some (.mp es)) (hkv : RelD w Z kd kv) (hfit : Uu i.eagg ks kd = true) (hf : Z9 i.eagg ks kd es = some r) :
    ∃ kt et b ents cl,P.underlying t = some (.map kt et)∧mv = .map (some b)∧inj n = some (b,0)∧w.heap[b]? = some (.map ents cl)∧Ents w Z es ents.toList∧(∀ em,(Instr.checkKey em 10000 kt kv).run P w = .ok () w)∧
      (Instr.findKey kt kv ents.toList).run P w = .ok (r.bind fun i=>(ents[i]?).map fun x=>(i,x.val)) w∧∃ zd ze,i.ezero = [zd]∧(zeroValue et).run P w = .ok ze w∧RelD w Z zd ze:=by
  obtain ⟨info,d,z,k⟩:=Y9 ht
  have hkk:=k.kind
  unfold Yr at hkk
  rw [k.keys ks hk] at hkk
  obtain ⟨kt,e,ie,ze,zd,ks',dk,rfl,g1,g2,g3,g4,g5,g6,g7,g8,_⟩:=hkk
  rw [hk] at g6;cases g6
  have hag : Z4 kd = i.eagg∧(cellsD kd).length = ks.length:=by
    simp only [Uu,Bool.and_eq_true,beq_iff_eq] at hfit
    exact ⟨hfit.1,Nat.eq_of_beq_eq_true hfit.2⟩
  obtain ⟨hag,hlen⟩:=hag
  cases hm with
  | @mp _ b hn hi=>
  obtain ⟨b',ents,cl,e1,e2,e3⟩:=qsn (h.heap.blk n _ hb).2
  rw [hi] at e1;cases e1
  rw [g8] at hag hf
  refine ⟨kt,e,b,ents,cl,k.und,rfl,hi,e2,e3,fun em=>?_,?_,zd,ze,g7,?_,(qcs g3).1⟩
  · have hc:=qcq em 8 kt dk ks g5 g4 10000 q6 w
    cases ha : K5 dk with
    | true=>
      obtain ⟨X,rfl,hX⟩:=q7h hkv (hag.trans ha)
      exact (hc.1 ha) X (hX.1.symm.trans hlen)
    | false=>exact (hc.2 ha).2 kv
  · have:=qo3 g5 g4 hkv hag e3 hf
    simpa using this
  · simp [zeroValue,typeInfo,g1,g2]
theorem qcx {es : List (DV × DV)} {ents : List MapEntry} (h : Ents w Z es ents) {j : Nat} {e : DV × DV} (he : es[j]? = some e) : ∃ x,ents[j]? = some x∧RelD w Z e.1 x.key∧RelD w Z e.2 x.val∧Y5 e.2 = true:=by
  obtain ⟨x,hx⟩:=Yt (xs:=ents) (i:=j) (by rw [h.1];exact K4 he)
  exact ⟨x,hx,h.2 j e x he hx⟩
theorem qds {ag : Bool} {ks : List (Option IntKind)} {k : DV} : ∀ {es : List (DV × DV)} {j : Nat},Z9 ag ks k es = some (some j)→∃ e,es[j]? = some e∧Z4 e.1 = ag∧K7 ks (cellsD k) (cellsD e.1) = some true
  | [],j,h=>by simp [Z9] at h
  | (b,c)::es,j,h=>by
    simp only [Z9] at h
    split at h <;> try simp at h
    rename_i hk
    split at h <;> try simp at h
    · rename_i hc;subst h;exact ⟨_,rfl,hk.2,hc⟩
    · split at h <;> simp at h
      rename_i i hi
      subst h
      obtain ⟨e,h1,h2⟩:=qds hi
      exact ⟨e,by simpa using h1,h2⟩
theorem qqz {t : TypeId} {x y : Operand} {ok : Bool} {i : TI} {ks : List (Option IntKind)} {n : Nat} {es : List (DV × DV)} {kd z : DV} {e : DV × Bool} (h : RelS w Z inj st a Ds) (ht : tiOf P t = some i) (hk : i.keys = some ks) (hx : st.ev x = some (.mp n)) (hy : st.ev y = some (.d kd))
    (hb : st.blk n = some (.mp es)) (hz : i.ezero = [z]) (hfit : Uu i.eagg ks kd = true) (hg : mget i.eagg ks z kd es = some e) :
    Ka st st (.d (bif ok then .tup [e.1,.bool e.2] else e.1)) w Z inj ((do pure (Next.value (← Instr.lookup t (a.eval x) (a.eval y) ok)) : Sem Next).run P w):=by
  have hm:=K3 h hx
  have hkv:=K3 h hy
  generalize a.eval x = mv at hm ⊢
  generalize a.eval y = kv at hkv ⊢
  cases hkv with | d hkv=>
  have fin : ∀ (u : Value) (o : Bool) (dv : DV),RelD w Z dv u→e = (dv,o)→(Instr.lookup t mv kv ok).run P w = .ok (if ok then .tuple #[u,.bool o] else u) w→Ka st st (.d (bif ok then .tup [e.1,.bool e.2] else e.1)) w Z inj ((do pure (Next.value (← Instr.lookup t mv kv ok)) : Sem Next).run P w):=by
    rintro u o dv hr rfl hrun
    refine .quiet h (K9 hrun) (.d ?_)
    cases ok with
    | false=>exact hr
    | true=>
      refine .tup rfl fun i d c hd hc=>?_
      match i,hd,hc with
      | 0,hd,hc=>simp at hd hc;subst hd hc;exact hr
      | 1,hd,hc=>simp at hd hc;subst hd hc;exact .bool _
      | i + 2,hd,_=>simp at hd
  unfold mget at hg
  split at hg <;> try simp at hg
  · rename_i j hf
    obtain ⟨a1,b1,hev,rfl⟩:=hg
    obtain ⟨kt,et,b,ents,cl,g1,rfl,g3,g4,g5,g6,g7,_⟩:=q4f h ht hk hm hb hkv hfit hf
    obtain ⟨u,hu,q1,q2,q3⟩:=qcx g5 hev
    refine fin u.val true _ q2 rfl ?_
    have hu' : ents[j]? = some u:=by simpa using hu
    simp [Instr.lookup,run_underlying g1,q4b g4,g6,g7,hu']
  · rename_i hf
    subst hg
    obtain ⟨kt,et,b,ents,cl,g1,rfl,g3,g4,g5,g6,g7,zd,ze,g8,g9,g10⟩:=q4f h ht hk hm hb hkv hfit hf
    rw [hz] at g8;cases g8
    refine fin ze false _ g10 rfl ?_
    simp only [Option.bind_none] at g7
    simp [Instr.lookup,run_underlying g1,q4b g4,g6,g7,g9]
theorem qns {es : List (DV × DV)} {ents : List MapEntry} (h : Ents w Z es ents) {kd vd : DV} {x : MapEntry} (h1 : RelD w Z kd x.key) (h2 : RelD w Z vd x.val) (h3 : Y5 vd = true) : Ents w Z (es ++ [(kd,vd)]) (ents ++ [x]):=by
  refine ⟨by simp [h.1],fun i e y he hy=>?_⟩
  by_cases hi : i < es.length
  · rw [List.getElem?_append_left hi] at he
    rw [List.getElem?_append_left (by rw [h.1];exact hi)] at hy
    exact h.2 i e y he hy
  · rw [List.getElem?_append_right q6] at he
    rw [List.getElem?_append_right (by rw [h.1];omega),h.1] at hy
    obtain ⟨m,hm⟩ : ∃ m,m = i - es.length:=⟨_,rfl⟩
    rw [← hm] at he hy
    cases m with
    | zero=>simp at he hy;subst he hy;exact ⟨h1,h2,h3⟩
    | succ m=>simp at he
theorem qnt {es : List (DV × DV)} {ents : List MapEntry} (h : Ents w Z es ents) {j : Nat} {kd vd : DV} {x : MapEntry} (h1 : RelD w Z kd x.key) (h2 : RelD w Z vd x.val) (h3 : Y5 vd = true) : Ents w Z (es.set j (kd,vd)) (ents.set j x):=by
  refine ⟨by simp [h.1],fun i e y he hy=>?_⟩
  rw [List.getElem?_set] at he hy
  by_cases hij : j = i
  · subst hij
    rw [if_pos rfl] at he hy
    split at he <;> simp at he
    rename_i hl
    rw [if_pos (by rw [h.1];exact hl)] at hy
    simp at hy;subst he hy;exact ⟨h1,h2,h3⟩
  · rw [if_neg hij] at he hy;exact h.2 i e y he hy
theorem qnr {es : List (DV × DV)} {ents : List MapEntry} (h : Ents w Z es ents) (j : Nat) : Ents w Z (es.eraseIdx j) (ents.eraseIdx j):=by
  refine ⟨by simp [List.length_eraseIdx,h.1],fun i e y he hy=>?_⟩
  rw [List.getElem?_eraseIdx] at he hy
  split at he
  · rename_i hi;rw [if_pos hi] at hy;exact h.2 i e y he hy
  · rename_i hi;rw [if_neg hi] at hy;exact h.2 (i + 1) e y he hy
theorem qr3 {t : TypeId} {m x y : Operand} {i : TI} {ks : List (Option IntKind)} {n : Nat} {es es' : List (DV × DV)} {kd vd : DV} (h : RelS w Z inj st a Ds) (ht : tiOf P t = some i) (hk : i.keys = some ks) (hm : st.ev m = some (.mp n)) (hx : st.ev x = some (.d kd)) (hy : st.ev y = some (.d vd))
    (hb : st.blk n = some (.mp es)) (hfit : Uu i.eagg ks kd = true) (hc : Y5 vd = true) (hg : mput i.eagg ks kd vd es = some es') :
    Ka st (st.setBlk n (.mp es')) .dead w Z inj ((do Instr.mapUpdate t (a.eval m) (a.eval x) (a.eval y);pure Next.skip : Sem Next).run P w):=by
  have hm:=K3 h hm
  have hkv:=K3 h hx
  have hvv:=K3 h hy
  generalize a.eval m = mv at hm ⊢
  generalize a.eval x = kv at hkv ⊢
  generalize a.eval y = vv at hvv ⊢
  cases hkv with | d hkv=>
  cases hvv with | d hvv=>
  have hkag : Z4 kd = i.eagg:=by simp only [Uu,Bool.and_eq_true,beq_iff_eq] at hfit;exact hfit.1
  have fin : ∀ b ents cl ents' cl',inj n = some (b,0)→w.heap[b]? = some (.map ents cl)→Ents w Z es' ents'.toList→(Instr.mapUpdate t mv kv vv).run P w = .ok () (w.putObj b (.map ents' cl'))→
      Ka st (st.setBlk n (.mp es')) .dead w Z inj ((do Instr.mapUpdate t mv kv vv;pure Next.skip : Sem Next).run P w):=by
    intro b ents cl ents' cl' hi hh hE hrun
    obtain ⟨g1,g2⟩:=qjq (pin:=st.nx) (cl':=cl') h.heap hb hi hh hE
    exact ⟨undef,_,inj,.inr ⟨by simp [hrun],rfl⟩,.dead _,g1,g2,rfl,Nat.le_refl _⟩
  unfold mput at hg
  split at hg <;> try simp at hg
  · rename_i j hf
    subst hg
    obtain ⟨kt,et,b,ents,cl,g1,rfl,g3,g4,g5,g6,g7,_⟩:=q4f h ht hk hm hb hkv hfit hf
    obtain ⟨e,he,e1,e2⟩:=qds hf
    obtain ⟨u,hu,q1,q2,q3⟩:=qcx g5 he
    have hu' : ents[j]? = some u:=by simpa using hu
    have hst:=qp6 (P:=P) hkv q1 hkag e1 e2
    refine fin b ents cl (ents.modify j fun e=>{e with key:=kv,val:=vv}) cl g3 g4 ?_ ?_
    · have : (ents.modify j fun e=>{e with key:=kv,val:=vv}).toList = ents.toList.set j {u with key:=kv,val:=vv}:=by
        apply List.ext_getElem?
        intro k
        rw [List.getElem?_set]
        simp only [Array.getElem?_toList,Array.getElem?_modify]
        by_cases hjk : j = k
        · subst hjk;simp [hu']
          have:=K4 hu;simpa using this
        · simp [hjk]
      rw [this]
      exact qnt g5 hkv hvv hc
    · simp [Instr.mapUpdate,run_underlying g1,q4b g4,g6,g7,hu',hst,qbc _ g4]
  · rename_i hf
    subst hg
    obtain ⟨kt,et,b,ents,cl,g1,rfl,g3,g4,g5,g6,g7,_⟩:=q4f h ht hk hm hb hkv hfit hf
    simp only [Option.bind_none] at g7
    refine fin b ents cl (ents.push {key:=kv,val:=vv,born:=cl}) (cl + 1) g3 g4 ?_ ?_
    · rw [Array.toList_push];exact qns g5 hkv hvv hc
    · simp [Instr.mapUpdate,run_underlying g1,q4b g4,g6,g7,qbc _ g4]
theorem qqs {ts : Array TypeId} {ty t : TypeId} {mv kv : Value} {i : TI} {ks : List (Option IntKind)} {n : Nat} {es es' : List (DV × DV)} {kd : DV} (h : RelS w Z inj st a Ds) (ht : tiOf P t = some i) (hts : ts[0]? = some t) (hk : i.keys = some ks) (hm : RelV w Z inj st.nx (.mp n) mv) (hkv : RelD w Z kd kv)
    (hb : st.blk n = some (.mp es)) (hfit : Uu i.eagg ks kd = true) (hg : mdel i.eagg ks kd es = some es') :
    Ka st (st.setBlk n (.mp es')) (.d (.tup [])) w Z inj ((do pure (Next.value (← Builtin.delete_ ts ty #[mv,kv])) : Sem Next).run P w):=by
  have fin : ∀ b ents cl ents' cl',inj n = some (b,0)→w.heap[b]? = some (.map ents cl)→Ents w Z es' ents'.toList→(Builtin.delete_ ts ty #[mv,kv]).run P w = .ok (.tuple #[]) (w.putObj b (.map ents' cl'))→
      Ka st (st.setBlk n (.mp es')) (.d (.tup [])) w Z inj ((do pure (Next.value (← Builtin.delete_ ts ty #[mv,kv])) : Sem Next).run P w):=by
    intro b ents cl ents' cl' hi hh hE hrun
    obtain ⟨g1,g2⟩:=qjq (pin:=st.nx) (cl':=cl') h.heap hb hi hh hE
    exact ⟨.tuple #[],_,inj,.inl (K9 hrun),.d (.tup rfl fun i d c hd _=>by simp at hd),g1,g2,rfl,Nat.le_refl _⟩
  unfold mdel at hg
  split at hg <;> try simp at hg
  · rename_i j hf
    subst hg
    obtain ⟨kt,et,b,ents,cl,g1,rfl,g3,g4,g5,g6,g7,_⟩:=q4f h ht hk hm hb hkv hfit hf
    obtain ⟨e,he,e1,e2⟩:=qds hf
    obtain ⟨u,hu,q1,q2,q3⟩:=qcx g5 he
    have hu' : ents[j]? = some u:=by simpa using hu
    refine fin b ents cl (ents.eraseIdxIfInBounds j) cl g3 g4 ?_ ?_
    · rw [Array.toList_eraseIdxIfInBounds];exact qnr g5 j
    · simp [Builtin.delete_,hts,run_underlying g1,q4b g4,g6,g7,hu',qbc _ g4]
  · rename_i hf
    subst hg
    obtain ⟨kt,et,b,ents,cl,g1,rfl,g3,g4,g5,g6,g7,_⟩:=q4f h ht hk hm hb hkv hfit hf
    simp only [Option.bind_none] at g7
    refine fin b ents cl ents cl g3 g4 g5 ?_
    simp [Builtin.delete_,hts,run_underlying g1,q4b g4,g6,g7,qbc _ g4]
end
end Go.Am
namespace Go.Am
open Go
variable {P : Program} {T : Tab}
section
variable {w : World} {Z : Nat→Prop} {inj : Inj} {st : AS} {a : Act} {Ds : List Nat}
theorem qpn {mx : Bool} {v b : V} {r : List V} {u : V} (h : minI mx v (b::r) = some u) : ∃ k n k' m,v = .d (.int k n)∧b = .d (.int k' m)∧minI mx (.d (.int k (bif mx then (if m > n then m else n) else (if m < n then m else n)))) r = some u:=by
  unfold minI at h
  split at h
  · rename_i heq;cases heq
  · rename_i heq;cases heq;exact ⟨_,_,_,_,rfl,rfl,h⟩
  · simp at h
theorem qdt {mx : Bool} {nx : Nat} : ∀ (r : List V) (v u : V) (x : Value) (xs : List Value),minI mx v r = some u→RelV w Z inj nx v x→r.length = xs.length→(∀ (i : Nat) (d : V) (c : Value),r[i]? = some d→xs[i]? = some c→RelV w Z inj nx d c)→
    ∃ y,(xs.foldlM (if mx then Builtin.max2 else Builtin.min2) x).run P w = .ok y w∧RelV w Z inj nx u y
  | [],v,u,x,xs,h,hv,hl,_=>by
    simp [minI] at h;subst h
    have : xs = []:=by cases xs <;> simp_all
    subst this
    exact ⟨x,qd,hv⟩
  | b::r,v,u,x,xs,h,hv,hl,hr=>by
    match xs,hl,hr with
    | c::xs,hl,hr=>
      have hb:=hr 0 b c rfl rfl
      obtain ⟨k,n,k',m,rfl,rfl,h⟩:=qpn h
      cases hv with | d hv=>
      cases hv
      cases hb with | d hb=>
      cases hb
      obtain ⟨y,h1,h2⟩:=qdt r _ u (.int k (bif mx then (if m > n then m else n) else (if m < n then m else n))) xs h (.d (.int _ _)) (by simpa using hl) (fun i d c hd hc=>hr (i + 1) d c (by simpa using hd) (by simpa using hc))
      refine ⟨y,?_,h2⟩
      cases mx
      · simp only [Bool.false_eq_true,if_false,List.foldlM_cons,Builtin.min2,Sem.run_bind,Sem.run_pure,Result.andThen_ok,cond_false] at h1 ⊢;exact h1
      · simp only [if_true,List.foldlM_cons,Builtin.max2,Sem.run_bind,Sem.run_pure,Result.andThen_ok,cond_true] at h1 ⊢;exact h1
theorem qdm {nx : Nat} {x y : V} {xs : Array Value} (h : LRel w Z inj nx [x,y] xs) : ∃ a b,xs = #[a,b]∧RelV w Z inj nx x a∧RelV w Z inj nx y b:=by
  obtain ⟨h1,h2⟩:=h
  obtain ⟨l⟩:=xs
  match l,h1 with
  | [a,b],_=>exact ⟨a,b,rfl,h2 0 _ _ rfl rfl,h2 1 _ _ rfl rfl⟩
theorem qdl {nx : Nat} {x : V} {xs : Array Value} (h : LRel w Z inj nx [x] xs) : ∃ a,xs = #[a]∧RelV w Z inj nx x a:=by
  obtain ⟨h1,h2⟩:=h
  obtain ⟨l⟩:=xs
  match l,h1 with
  | [a],_=>exact ⟨a,rfl,h2 0 _ _ rfl rfl⟩
theorem qm9 {b : Builtin} {ts : Array TypeId} {ty : TypeId} {cs : Array Bool} {vs : List V} {xs : Array Value} {v : V} {st1 : AS} (hT : Yj P T) (h : RelS w Z inj st a Ds) (hv : LRel w Z inj st.nx vs xs) (hb : Kt T st b ts vs = some (v,st1)) :
    Ka st st1 v w Z inj ((builtin b ts ty cs xs).run P w):=by
  unfold Kt at hb
  split at hb
  ·
    rename_i x
    obtain ⟨xv,rfl,hx⟩:=qdl hv
    split at hb <;> try simp at hb
    rename_i t ht0
    split at hb <;> try simp at hb
    rename_i i hti
    obtain ⟨info,d,z,k⟩:=Y9 (hT _ _ hti)
    have hkk:=k.kind
    unfold Yr at hkk
    have fin : ∀ n : Int,(Builtin.len_ ts ty #[xv]).run P w = .ok (.int .i64 n) w→Ka st st (.d (.int .i64 n)) w Z inj ((builtin .len ts ty cs #[xv]).run P w):=fun n hr=>
      .quiet h (by simp [builtin,hr]) (.d (.int _ _))
    split at hb <;> try simp at hb
    · rename_i hk
      simp only [hk] at hkk
      obtain ⟨e,ie,de,rfl,_⟩:=hkk
      obtain ⟨rfl,rfl⟩:=hb
      refine fin _ ?_
      simp only [Builtin.len_,ht0]
      simp [run_underlying k.und,goInt]
    · rename_i hk
      simp only [hk] at hkk
      obtain ⟨e,ie,de,ze,rfl,_⟩:=hkk
      have hlen : ∀ ad n cap,xv = .slice ad n cap→(Builtin.len_ ts ty #[xv]).run P w = .ok (.int .i64 n) w:=by
        rintro ad n cap rfl
        simp only [Builtin.len_,ht0]
        simp [run_underlying k.und,goInt]
      split at hb <;> try simp at hb
      · obtain ⟨rfl,rfl⟩:=hb
        cases hx with | d hx=>
        cases hx
        exact fin 0 (hlen _ _ _ rfl)
      · obtain ⟨rfl,rfl⟩:=hb
        cases hx with | d hx=>
        cases hx with
        | slnil=>exact fin _ (hlen _ _ _ rfl)
        | slemp=>exact fin _ (hlen _ _ _ rfl)
        | sl=>exact fin _ (hlen _ _ _ rfl)
      · obtain ⟨rfl,rfl⟩:=hb
        cases hx with
        | hsnil=>exact fin _ (hlen _ _ _ rfl)
        | hs=>exact fin _ (hlen _ _ _ rfl)
    · rename_i hk
      simp only [hk] at hkk
      obtain ⟨rfl,_⟩:=hkk
      split at hb <;> try simp at hb
      obtain ⟨rfl,rfl⟩:=hb
      cases hx with | d hx=>
      cases hx
      refine fin _ ?_
      simp only [Builtin.len_,ht0]
      simp [run_underlying k.und,goInt]
  ·
    obtain ⟨sv,xv,rfl,hs,hx⟩:=qdm hv
    split at hb <;> try simp at hb
    rename_i t u ht0 hu0
    split at hb <;> try simp at hb
    rename_i i j hti htj
    obtain ⟨⟨h1,h2,h3⟩,hb⟩:=hb
    have key : (Builtin.append_ ts ty #[sv,xv]).run P w = (Builtin.append_ #[t,u] ty #[sv,xv]).run P w:=by
      unfold Builtin.append_;simp only [ht0,hu0];rfl
    obtain ⟨x,w',inj',hr,r1,r2,r3,r4,r5⟩:=qqj (ty:=ty) h (hT _ _ hti) (hT _ _ htj) h1 h2 h3 hs hx hb
    exact ⟨x,w',inj',.inl (by simp [builtin,key,hr]),r1,r2,r3,r4,r5⟩
  ·
    obtain ⟨sv,xv,rfl,hs,hx⟩:=qdm hv
    split at hb <;> try simp at hb
    rename_i t u ht0 hu0
    split at hb <;> try simp at hb
    rename_i i j hti htj
    obtain ⟨⟨h1,h2,h3,h4⟩,hb⟩:=hb
    have key : (Builtin.copy_ ts ty #[sv,xv]).run P w = (Builtin.copy_ #[t,u] ty #[sv,xv]).run P w:=by
      unfold Builtin.copy_;simp only [ht0];rfl
    obtain ⟨x,w',inj',hr,r1,r2,r3,r4,r5⟩:=qqr (ty:=ty) h (hT _ _ hti) (hT _ _ htj) h1 h2 h3 h4 hs hx hb
    exact ⟨x,w',inj',.inl (by simp [builtin,key,hr]),r1,r2,r3,r4,r5⟩
  ·
    rename_i x
    obtain ⟨xv,rfl,hx⟩:=qdl hv
    split at hb <;> try simp at hb
    rename_i t ht0
    split at hb <;> try simp at hb
    rename_i i hti
    obtain ⟨⟨h1,h2⟩,hb⟩:=hb
    have key : (Builtin.clear_ ts ty #[xv]).run P w = (Builtin.clear_ #[t] ty #[xv]).run P w:=by
      unfold Builtin.clear_;simp only [ht0];rfl
    obtain ⟨x,w',inj',hr,r1,r2,r3,r4,r5⟩:=qqp (ty:=ty) h (hT _ _ hti) h1 h2 hx hb
    exact ⟨x,w',inj',.inl (by simp [builtin,key,hr]),r1,r2,r3,r4,r5⟩
  ·
    rename_i m0 k0
    obtain ⟨mv,kv,rfl,hs,hx⟩:=qdm hv
    split at hb <;> try simp at hb
    rename_i t n kd ht0
    split at hb <;> try simp at hb
    rename_i i es hti hbk
    split at hb <;> try simp at hb
    rename_i ks hks
    obtain ⟨hfit,es',hd,rfl,rfl⟩:=hb
    cases hx with | d hx=>
    exact qqs h (hT _ _ hti) ht0 hks hs hx hbk hfit hd
  ·
    rename_i v0 r
    cases hm : minI false v0 r with
    | none=>simp [hm] at hb
    | some u=>
      simp [hm] at hb;obtain ⟨rfl,rfl⟩:=hb
      obtain ⟨l⟩:=xs
      match l,hv with
      | [],hv=>simp [LRel] at hv
      | x::xs,hv=>
        obtain ⟨y,h1,h2⟩:=qdt (P:=P) r v0 u x xs hm (hv.2 0 _ _ rfl rfl) (by simpa using hv.1) (fun i d c hd hc=>hv.2 (i + 1) d c (by simpa using hd) (by simpa using hc))
        refine .quiet h ?_ h2
        simp only [Bool.false_eq_true,if_false] at h1
        simp [builtin,Builtin.min_,h1]
  · rename_i v0 r
    cases hm : minI true v0 r with
    | none=>simp [hm] at hb
    | some u=>
      simp [hm] at hb;obtain ⟨rfl,rfl⟩:=hb
      obtain ⟨l⟩:=xs
      match l,hv with
      | [],hv=>simp [LRel] at hv
      | x::xs,hv=>
        obtain ⟨y,h1,h2⟩:=qdt (P:=P) r v0 u x xs hm (hv.2 0 _ _ rfl rfl) (by simpa using hv.1) (fun i d c hd hc=>hv.2 (i + 1) d c (by simpa using hd) (by simpa using hc))
        refine .quiet h ?_ h2
        simp only [if_true] at h1
        simp [builtin,Builtin.max_,h1]
  · simp at hb
theorem qiw {o : Oper} {v : V} {st1 : AS} (hT : Yj P T) (h : RelS w Z inj st a Ds) (ho : opFn T st o.op = some (v,st1)) : Ka st st1 v w Z inj ((execOp a.eval o).run P w):=by
  obtain ⟨dst,op,type,pos,after,guard⟩:=o
  simp only at ho
  cases op <;> simp only [opFn,reduceCtorEq] at ho
  case move x=>
    cases hx : st.ev x with
    | none=>simp [hx] at ho
    | some u=>simp [hx] at ho;obtain ⟨rfl,rfl⟩:=ho;exact qiu h hx rfl
  case assign x=>
    cases hx : st.ev x with
    | none=>simp [hx] at ho
    | some u=>simp [hx] at ho;obtain ⟨rfl,rfl⟩:=ho;exact qiu h hx rfl
  case pick c x y=>
    split at ho <;> try simp at ho
    · rename_i hc
      obtain ⟨u,hx,rfl,rfl⟩:=ho
      have hcr:=K3 h hc
      generalize hce : a.eval c = cv at hcr
      cases hcr with | d hcr=>
      cases hcr
      exact .quiet h (by simp [execOp,hce,asBool]) (K3 h hx)
    · rename_i hc
      obtain ⟨u,hx,rfl,rfl⟩:=ho
      have hcr:=K3 h hc
      generalize hce : a.eval c = cv at hcr
      cases hcr with | d hcr=>
      cases hcr
      exact .quiet h (by simp [execOp,hce,asBool]) (K3 h hx)
  case alloc t=>
    cases ht : T t with
    | none=>simp [ht] at ho
    | some i=>simp [ht] at ho;obtain ⟨rfl,rfl⟩:=ho;exact qqi h (hT _ _ ht)
  case box t x=>
    split at ho <;> try simp at ho
    rename_i i u ht hx
    obtain ⟨⟨h1,h2⟩,rfl,rfl⟩:=ho
    exact qqm h (hT _ _ ht) hx h1 (by simpa using h2)
  case build t ps=>
    split at ho <;> try simp at ho
    rename_i i vs ht hv
    obtain ⟨h1,ho⟩:=ho
    split at ho <;> try simp at ho
    rename_i l hl
    obtain ⟨cs,hc,rfl,rfl⟩:=ho
    exact qqn h (hT _ _ ht) hv h1 hl hc
  case buildSlice t len ps=>
    split at ho <;> try simp at ho
    rename_i i vs ht hv
    split at ho <;> try simp at ho
    rename_i l hl
    obtain ⟨⟨h1,h2⟩,xs,hc,rfl,rfl⟩:=ho
    exact qqo h (hT _ _ ht) hv hl h1 h2 hc
  case load t p=>
    split at ho <;> try simp at ho
    rename_i i u ht hp
    obtain ⟨x,hx,rfl,rfl⟩:=ho
    exact qqy h (hT _ _ ht) hp hx
  case store t p x=>
    split at ho <;> try simp at ho
    rename_i i u y ht hp hx
    obtain ⟨hs,rfl⟩:=ho
    exact qr5 h (hT _ _ ht) hp hx hs
  case binOp op t x y u=>
    split at ho
    · rename_i p q hx hy
      split at ho <;> try simp at ho
      rename_i i ht
      split at ho <;> try simp at ho
      rename_i ks hks
      split at ho <;> simp at ho
      · rename_i r hc;obtain ⟨rfl,rfl⟩:=ho;exact qis h (hT _ _ ht) hx hy hks hc (.inl ⟨rfl,rfl⟩)
      · rename_i r hc;obtain ⟨rfl,rfl⟩:=ho;exact qis h (hT _ _ ht) hx hy hks hc (.inr ⟨rfl,rfl⟩)
    · rename_i hx hy
      simp at ho
      obtain ⟨r,hr,rfl,rfl⟩:=ho
      exact qql h hx hy hr
    · rename_i hx hy
      split at ho <;> try simp at ho
      rename_i i ht
      obtain ⟨r,hr,rfl,rfl⟩:=ho
      exact qqk h (hT _ _ ht) hx hy hr
    · simp at ho
  case unOp op t x=>
    split at ho <;> try simp at ho
    rename_i p hx
    obtain ⟨r,hr,rfl,rfl⟩:=ho
    exact qr6 h hx hr
  case convert src dst x=>
    split at ho <;> try simp at ho
    rename_i i j k n hi hj hx
    split at ho <;> simp at ho
    rename_i k0 k1 hk0 hk1
    obtain ⟨rfl,rfl⟩:=ho
    exact qqq h (hT _ _ hi) (hT _ _ hj) hk0 hk1 hx
  case makeFunc fn first caps=>
    cases fn <;> simp only [reduceCtorEq] at ho
    rename_i f
    split at ho <;> simp at ho
    rename_i hf
    obtain ⟨vs,hv,rfl,rfl⟩:=ho
    exact qr0 h hf hv
  case makeSlice t l c=>
    split at ho <;> try simp at ho
    rename_i i k1 n k2 m ht hl hc
    obtain ⟨⟨h1,h2,h3,h4⟩,rfl,rfl⟩:=ho
    exact qr2 h (hT _ _ ht) h1 hl hc h2 h3 h4
  case slice t x lo hi mx=>
    split at ho <;> try simp at ho
    rename_i i u ht hx
    obtain ⟨⟨h1,h2⟩,ho⟩:=ho
    split at ho <;> try simp at ho
    rename_i n hn
    split at ho <;> try simp at ho
    rename_i p q hp hq
    obtain ⟨r,hr,rfl,rfl⟩:=ho
    subst h2
    exact qr4 h (hT _ _ ht) h1 hx hn hp hq hr
  case fieldAddr s p f=>
    split at ho <;> try simp at ho
    rename_i i u ht hp
    split at ho <;> try simp at ho
    rename_i off size ag hk hf
    obtain ⟨r,hr,rfl,rfl⟩:=ho
    exact qqu h (hT _ _ ht) hp hk hf hr
  case field s x f=>
    split at ho <;> try simp at ho
    rename_i i u ht hx
    split at ho <;> try simp at ho
    rename_i off size ag cs hk hf ha
    split at ho <;> try simp at ho
    rename_i r hr
    obtain ⟨y,hy,rfl,rfl⟩:=ho
    exact qqt h (hT _ _ ht) hx hk hf ha hr hy
  case indexAddr t x ix=>
    split at ho <;> try simp at ho
    rename_i i u k n ht hx hn
    obtain ⟨y,hy,rfl,rfl⟩:=ho
    exact qqw h (hT _ _ ht) hx hn hy
  case index t x ix=>
    split at ho <;> try simp at ho
    rename_i i u k n ht hx hn
    split at ho <;> try simp only [reduceCtorEq] at ho
    · rename_i cs hk ha
      split at ho <;> try simp at ho
      rename_i h0
      split at ho <;> try simp at ho
      rename_i r hr
      obtain ⟨y,hy,rfl,rfl⟩:=ho
      exact qqv h (hT _ _ ht) hx hn hk ha h0 hr hy
    · rename_i hk
      split at ho <;> try simp only [reduceCtorEq] at ho
      rename_i s
      rw [Option.map_eq_some_iff] at ho
      obtain ⟨b,hb,e⟩:=ho
      cases e
      exact qqx h (hT _ _ ht) hx hn hk hb
  case extract x k=>
    split at ho <;> try simp at ho
    · rename_i vs hx
      obtain ⟨y,hy,rfl,rfl⟩:=ho
      exact qit h (.inl ⟨vs,y,hx,hy,rfl⟩)
    · rename_i vs hx
      obtain ⟨y,hy,rfl,rfl⟩:=ho
      exact qit h (.inr ⟨vs,hx,hy⟩)
  case nilCheck x=>
    have key : ∀ u,st.ev x = some u→(match a.eval x with | .pointer none | .nilIface | .nilFunc | .func (.method _) _ _=>False | _=>True)→Ka st st u w Z inj ((execOp a.eval {dst:=dst,op:=.nilCheck x,type:=type,pos:=pos,after:=after,guard:=guard}).run P w):=by
      intro u hx hne
      have hr:=K3 h hx
      refine .quiet (x:=a.eval x) h ?_ hr
      simp only [execOp]
      split <;> simp_all
    split at ho <;> simp at ho
    all_goals
      rename_i hx
      obtain ⟨rfl,rfl⟩:=ho
      refine key _ hx ?_
      have hr:=K3 h hx
      generalize a.eval x = xv at hr ⊢
      first
        | (cases hr with | d hr=>cases hr <;> trivial)
        | (cases hr <;> trivial)
  case makeMap t r=>
    split at ho <;> try simp at ho
    obtain ⟨hk,rfl,rfl⟩:=ho
    exact qr1 h
  case lookup t x k ok=>
    split at ho <;> try simp at ho
    rename_i i n kd ht hx hk
    split at ho <;> try simp only [reduceCtorEq] at ho
    rename_i ks es z hks hb hz
    split at ho <;> try simp only [reduceCtorEq] at ho
    rename_i hfit
    cases hg : mget i.eagg ks z kd es with
    | none=>rw [hg] at ho;simp at ho
    | some e=>
      rw [hg] at ho
      simp only [Option.map_some,Option.some.injEq,Prod.mk.injEq] at ho
      obtain ⟨rfl,rfl⟩:=ho
      exact qqz h (hT _ _ ht) hks hx hk hb hz hfit hg
  case mapUpdate t m k v=>
    split at ho <;> try simp at ho
    rename_i i n kd vd ht hm hk hv
    split at ho <;> try simp at ho
    rename_i ks es hks hb
    obtain ⟨⟨hfit,hc⟩,es',hg,rfl,rfl⟩:=ho
    exact qr3 h (hT _ _ ht) hks hm hk hv hb hfit hc hg
  case call c=>
    obtain ⟨cal,args,argTypes⟩:=c
    cases cal <;> simp only [reduceCtorEq] at ho
    rename_i b
    split at ho <;> try simp at ho
    rename_i vs hv
    have hl:=q7a h hv
    have e2 : (args.toList.map a.eval).toArray = args.map a.eval:=by apply Array.ext';simp
    rw [e2] at hl
    have:=qm9 (ty:=type) (cs:=args.map fun | .const _=>true | _=>false) hT h hl ho
    simp only [execOp,resolve,Sem.run_bind,Sem.run_pure,Result.andThen_ok,invoke]
    exact this
end
end Go.Am
namespace Go.Am
open Go
variable {P : Program} {T : Tab}
theorem RelD.le {w : World} {Z : Nat→Prop} {x y : DV} {v : Value} (h : RelD w Z x v) (hl : DLe x y) : RelD w Z y v:=by
  induction hl generalizing v with
  | refl=>exact h
  | nil es=>cases h;exact .slnil es
  | tup hlen _ ih=>
    cases h with | @tup _ cs h1 h2=>
    refine .tup q6 fun i d c hd hc=>?_
    obtain ⟨x,hx⟩:=Y4 hlen.symm hd
    exact ih i x d hx hd (h2 i x c hx hc)
  | agg hlen _ ih=>
    cases h with | @agg _ cs h1 h2=>
    refine .agg q6 fun i d c hd hc=>?_
    obtain ⟨x,hx⟩:=Y4 hlen.symm hd
    exact ih i x d hx hd (h2 i x c hx hc)
  | @sl es xs ys hlen hrow hcell ih=>
    have nils : xs = []→ys = []:=fun e=>List.length_eq_zero_iff.1 (by rw [← hlen,e];rfl)
    have row : ∀ (i : Nat) (y : List DV),ys[i]? = some y→∃ x,xs[i]? = some x∧x.length = y.length:=fun i y hy=>by
      obtain ⟨x,hx⟩:=Y4 hlen.symm hy
      exact ⟨x,hx,hrow i x y hx hy⟩
    have cell : ∀ (i : Nat) (y : List DV) (j : Nat) (d : DV),ys[i]? = some y→y[j]? = some d→∃ x c,xs[i]? = some x∧x[j]? = some c∧DLe c d:=fun i y j d hy hd=>by
      obtain ⟨x,hx,hl⟩:=row i y hy
      obtain ⟨c,hc⟩:=Y4 hl.symm hd
      exact ⟨x,c,hx,hc,hcell i x y j c d hx hy hc hd⟩
    cases h with
    | slnil=>rw [nils rfl];exact .slnil es
    | slemp _ a=>rw [nils rfl];exact .slemp es a
    | @sl _ _ b o cap h1 h2 h3 h4 h5=>
      rw [hlen]
      refine .sl q6 (fun hn=>h2 fun e=>hn (nils e)) (fun i y hy=>?_) (fun i y j d hy hd=>?_) fun i y j d c hy hd hc=>?_
      · obtain ⟨x,hx,hl⟩:=row i y hy
        rw [← hl];exact h3 i x hx
      · obtain ⟨x,c,hx,hc,hle⟩:=cell i y j d hy hd
        obtain ⟨g1,g2⟩:=h4 i x j c hx hc
        refine ⟨?_,g2⟩
        cases hle with
        | refl=>exact g1
        | nil=>rfl
        | tup=>exact absurd g1 (by simp [Y5])
        | agg=>exact absurd g1 (by simp [Y5])
        | sl=>rfl
      · obtain ⟨x,c',hx,hc',hle⟩:=cell i y j d hy hd
        exact ih i x y j c' d hx hy hc' hd (h5 i x j c' c hx hc' hc)
section
variable {w : World} {Z : Nat→Prop} {inj : Inj} {st st' : AS} {a : Act} {Ds : List Nat} {base : Nat} {ρ : Nat→Nat} {fz ph : List Nat}
def wkZ (Z : Nat→Prop) (inj : Inj) (st : AS) (fz : List Nat) (b : Nat) : Prop:=Z b∨∃ n∈fz,∃ es xs o,find st.hp n = some (.dat es xs)∧inj n = some (b,o)
def wkI (inj : Inj) (ρ : Nat→Nat) (ph : List Nat) : Inj:=fun n=>if n∈ph then none else inj (ρ n)
theorem qby (h : RelH w Z inj st.hp st.nx) {nx' : Nat} {v v' : V} (hv : Wv st ρ fz ph nx' v v') : ∀ {x : Value},RelV w Z inj st.nx v x→RelV w (wkZ Z inj st fz) (wkI inj ρ ph) nx' v' x:=by
  have hz : ∀ b,Z b→wkZ Z inj st fz b:=fun b hb=>.inl hb
  induction hv with
  | dead=>exact fun _=>.dead _
  | d hle=>intro x hx;cases hx with | d hx=>exact .d ((hx.le hle).mono (fun _ _=>rfl) hz)
  | nil hm hlt=>intro x hx;cases hx with | d hx=>cases hx;exact .hsnil hlt
  | dref cs j=>intro x hx;cases hx with | dref h1 h2 h3=>exact .dref (hz _ h1) h2 fun k d c hd hc=>(h3 k d c hd hc).mono (fun _ _=>rfl) hz
  | ref hr hp hlt=>intro x hx;cases hx with | ref h1 h2=>exact .ref hlt (by simp only [wkI,hp,hr,if_false];exact h2)
  | hs hr hp hlt=>
    intro x hx
    cases hx with
    | hsnil h1=>exact .hsnil hlt
    | hs h1 h2 h3 h4=>exact .hs hlt h2 h3 fun hc=>by obtain ⟨b,o,e1,e2,e3⟩:=h4 hc;exact ⟨b,o,by simp only [wkI,hp,hr,if_false];exact e1,e2,e3⟩
  | yld hr hp hlt=>intro x hx;cases hx with | yld h1 h2=>exact .yld hlt (by simp only [wkI,hp,hr,if_false];exact h2)
  | mp hr hp hlt=>intro x hx;cases hx with | mp h1 h2=>exact .mp hlt (by simp only [wkI,hp,hr,if_false];exact h2)
  | fn hl _ ih=>
    intro x hx
    cases hx with | @fn _ _ cs h1 h2=>
    refine .fn q6 fun i d c hd hc=>?_
    obtain ⟨y,hy⟩:=Y4 hl.symm hd
    exact ih i y d hy hd (h2 i y c hy hc)
  | agg hl _ ih=>
    intro x hx
    cases hx with | @agg _ cs h1 h2=>
    refine .agg q6 fun i d c hd hc=>?_
    obtain ⟨y,hy⟩:=Y4 hl.symm hd
    exact ih i y d hy hd (h2 i y c hy hc)
  | tup hl _ ih=>
    intro x hx
    cases hx with | @tup _ cs h1 h2=>
    refine .tup q6 fun i d c hd hc=>?_
    obtain ⟨y,hy⟩:=Y4 hl.symm hd
    exact ih i y d hy hd (h2 i y c hy hc)
  | dtup hl _ ih=>
    intro x hx
    cases hx with | d hx=>cases hx with | @tup _ cs h1 h2=>
    refine .tup q6 fun i d c hd hc=>?_
    obtain ⟨y,hy⟩:=Y4 hl.symm hd
    exact ih i y d hy hd (.d (h2 i y c hy hc))
  | dagg hl _ ih=>
    intro x hx
    cases hx with | d hx=>cases hx with | @agg _ cs h1 h2=>
    refine .agg q6 fun i d c hd hc=>?_
    obtain ⟨y,hy⟩:=Y4 hl.symm hd
    exact ih i y d hy hd (.d (h2 i y c hy hc))
  | @frz n es o l xs ys k hb hf hle hys hk=>
    intro x hx
    subst hk hys
    have hlen : ((xs.drop o).take l).length = l:=by simp;omega
    have hB:=(h.blk n _ hb).2
    obtain ⟨b1,b2,b3⟩:=hB
    cases hx with
    | hsnil h1=>
      have : (xs.drop o).take 0 = []:=by simp
      rw [this];exact .d (.slnil _)
    | @hs _ _ _ _ cap ad h1 h2 h3 h4=>
      obtain ⟨bb,oo,sp⟩:=ad
      simp only at h3;subst h3
      by_cases h0 : l = 0
      · subst h0
        have : (xs.drop o).take 0 = []:=by simp
        rw [this]
        exact .d (RelD.sl (es:=k) (xs:=[]) qd qd qd qd qd)
      · obtain ⟨b,o',e1,e2,e3⟩:=h4 q6
        rw [e2]
        rcases b3 with ⟨_,b4⟩ | ⟨b',o'',arr,ty,b4,b5,b6⟩
        · rw [e1] at b4;cases b4
        · rw [e1] at b4;cases b4
          have hget : ∀ (i : Nat) (x : List DV),((xs.drop o).take l)[i]? = some x→xs[o + i]? = some x:=by
            intro i x hx
            rw [List.getElem?_take] at hx
            split at hx
            · rwa [List.getElem?_drop] at hx
            · simp at hx
          have e9 : ∀ i j,o' + o * k + (i * k + j) = o' + ((o + i) * k + j):=by intro i j;rw [Nat.add_mul];omega
          have hcell : ∀ (i : Nat) (x : List DV) (j : Nat) (d : DV),((xs.drop o).take l)[i]? = some x→x[j]? = some d→Y5 d = true∧∃ c,w.cell? ⟨b,o' + o * k + (i * k + j),none⟩ = some c∧RelD w Z d c:=by
            intro i x j d hx hd
            obtain ⟨c1,c,c2,c3⟩:=b6 _ x j d (hget i x hx) hd
            exact ⟨c1,c,by rw [e9];simp only [World.cell?,b5];exact c2,c3⟩
          have:=RelD.sl (w:=w) (Z:=wkZ Z inj st fz) (es:=k) (xs:=(xs.drop o).take l) (b:=b) (o:=o' + o * k) (cap:=cap) (by rw [hlen];exact h2) (fun _=>.inr ⟨n,hf,_,_,o',hb,e1⟩) (fun i x hx=>b2 _ _ (hget i x hx))
            (fun i x j d hx hd=>by obtain ⟨c1,c,c2,_⟩:=hcell i x j d hx hd;exact ⟨c1,c,c2⟩)
            (fun i x j d c hx hd hc=>by obtain ⟨_,c',c2,c3⟩:=hcell i x j d hx hd;rw [c2] at hc;cases hc;exact c3.mono (fun _ _=>rfl) hz)
          rw [hlen] at this
          exact .d this
  | @frzB n es cs k hb hf hk=>
    intro x hx
    subst hk
    obtain ⟨b1,b2,b3⟩:=(h.blk n _ hb).2
    cases hx with | @ref _ _ _ _ b o h1 h2=>
    rcases b3 with ⟨b4,_⟩ | ⟨b',o'',arr,ty,b4,b5,b6⟩
    · simp at b4
    · rw [h2] at b4;cases b4
      have hcell : ∀ (j : Nat) (d : DV),cs[j]? = some d→∃ c,w.cell? ⟨b,o + (0 * k + 0) + j,none⟩ = some c∧RelD w Z d c:=by
        intro j d hd
        obtain ⟨c1,c,c2,c3⟩:=b6 0 cs j d rfl hd
        exact ⟨c,by simp only [World.cell?,b5];rw [← c2];simp,c3⟩
      exact .d (.box (.inr ⟨n,hf,_,_,o,hb,h2⟩) (fun j d hd=>by obtain ⟨c,c2,_⟩:=hcell j d hd;exact ⟨c,c2⟩)
        (fun j d c hd hc=>by obtain ⟨c',c2,c3⟩:=hcell j d hd;rw [c2] at hc;cases hc;exact c3.mono (fun _ _=>rfl) hz))
theorem qz4 (h : RelH w Z inj st.hp st.nx) {nx' n : Nat} {b b' : Blk} (hp : n ∉ ph) (hw : Wb st ρ fz ph nx' b b') (hb : RelB w Z inj st.nx (ρ n) b) : RelB w (wkZ Z inj st fz) (wkI inj ρ ph) nx' n b':=by
  have hz : ∀ b,Z b→wkZ Z inj st fz b:=fun b hb=>.inl hb
  have hi : wkI inj ρ ph n = inj (ρ n):=by simp [wkI,hp]
  cases hw with
  | dead=>trivial
  | dat es xs=>
    obtain ⟨h1,h2,h3⟩:=hb
    refine ⟨h1,h2,?_⟩
    rcases h3 with ⟨h3,h4⟩ | ⟨b,o,arr,ty,h3,h4,h5⟩
    · exact .inl ⟨h3,hi.trans h4⟩
    · exact .inr ⟨b,o,arr,ty,hi.trans h3,h4,fun i x j d hx hd=>by obtain ⟨c1,c,c2,c3⟩:=h5 i x j d hx hd;exact ⟨c1,c,c2,c3.mono (fun _ _=>rfl) hz⟩⟩
  | mp es=>
    obtain ⟨b,ents,cl,h1,h2,h3,h4⟩:=hb
    exact ⟨b,ents,cl,hi.trans h1,h2,h3,fun i e x he hx=>by obtain ⟨g1,g2,g3⟩:=h4 i e x he hx;exact ⟨g1.mono (fun _ _=>rfl) hz,g2.mono (fun _ _=>rfl) hz,g3⟩⟩
  | cel hl hc=>
    obtain ⟨h1,h2,h3⟩:=hb
    refine ⟨h1,?_,?_⟩
    · intro i y hy
      obtain ⟨x,hx⟩:=Y4 hl.symm hy
      rw [← (hc i x y hx hy).1];exact h2 i x hx
    · rcases h3 with ⟨h3,h4⟩ | ⟨b,o,arr,ty,h3,h4,h5⟩
      · exact .inl ⟨List.eq_nil_of_length_eq_zero (by rw [← hl,h3];rfl),hi.trans h4⟩
      · refine .inr ⟨b,o,arr,ty,hi.trans h3,h4,fun i y j d hy hd=>?_⟩
        obtain ⟨x,hx⟩:=Y4 hl.symm hy
        obtain ⟨l1,l2⟩:=hc i x y hx hy
        obtain ⟨c0,hc0⟩:=Y4 l1.symm hd
        obtain ⟨m1,m2⟩:=l2 j c0 d hc0 hd
        obtain ⟨c1,c,c2,c3⟩:=h5 i x j c0 hx hc0
        exact ⟨m2,c,c2,qby h m1 c3⟩
  | datcel hl hc=>
    obtain ⟨h1,h2,h3⟩:=hb
    refine ⟨h1,?_,?_⟩
    · intro i y hy
      obtain ⟨x,hx⟩:=Y4 hl.symm hy
      rw [← (hc i x y hx hy).1];exact h2 i x hx
    · rcases h3 with ⟨h3,h4⟩ | ⟨b,o,arr,ty,h3,h4,h5⟩
      · exact .inl ⟨List.eq_nil_of_length_eq_zero (by rw [← hl,h3];rfl),hi.trans h4⟩
      · refine .inr ⟨b,o,arr,ty,hi.trans h3,h4,fun i y j d hy hd=>?_⟩
        obtain ⟨x,hx⟩:=Y4 hl.symm hy
        obtain ⟨l1,l2⟩:=hc i x y hx hy
        obtain ⟨c0,hc0⟩:=Y4 l1.symm hd
        obtain ⟨m1,m2⟩:=l2 j c0 d hc0 hd
        obtain ⟨c1,c,c2,c3⟩:=h5 i x j c0 hx hc0
        exact ⟨m2,c,c2,qby h m1 (.d c3)⟩
  | loop hs=>
    obtain ⟨b,tmps,D,fn,h1,h2,h3,h4⟩:=hb
    refine ⟨b,tmps,D,fn,hi.trans h1,h2,h3,fun t v' ht=>?_⟩
    obtain ⟨v,hv,hw⟩:=hs t v' ht
    obtain ⟨x,hx,hr⟩:=h4 t v hv
    exact ⟨x,hx,qby h hw hr⟩
theorem qlf {nx' : Nat} {b b' : Blk} (hw : Wb st ρ fz ph nx' b b') (hl : live b' = true) : live b = true:=by
  cases hw <;> first | rfl | simp [live] at hl
theorem q16 (h : RelS w Z inj st a Ds) (hw : Wk base ρ fz ph st st') : RelS w (wkZ Z inj st fz) (wkI inj ρ ph) st' a Ds∧Ext w Z inj st.hp w (wkZ Z inj st fz) (wkI inj ρ ph) st'.hp base:=by
  have back : ∀ n b',st'.blk n = some b'→live b' = true→∀ p,wkI inj ρ ph n = some p→n ∉ ph∧∃ b,st.blk (ρ n) = some b∧live b = true∧inj (ρ n) = some p:=by
    intro n b' hb hl p hp
    have hnp : n ∉ ph:=by intro hc;simp [wkI,hc] at hp
    obtain ⟨_,h2⟩:=hw.blocks n b' hb
    rcases h2 with ⟨h2,_⟩ | ⟨_,b,h3,h4⟩
    · exact absurd h2 hnp
    · exact ⟨hnp,b,h3,qlf h4 hl,by simpa [wkI,hnp] using hp⟩
  refine ⟨⟨?_,⟨?_,?_,?_,?_,?_⟩,h.defs,h.nodup,h.marks⟩,?_⟩
  · intro t v' ht
    obtain ⟨v,hv,hwv⟩:=hw.slots t v' ht
    obtain ⟨x,hx,hr⟩:=h.slots t v hv
    exact ⟨x,hx,qby h.heap hwv hr⟩
  · intro n b' hb
    obtain ⟨h1,h2⟩:=hw.blocks n b' hb
    refine ⟨h1,?_⟩
    rcases h2 with ⟨h2,es,hes,rfl⟩ | ⟨h2,b,h3,h4⟩
    · exact ⟨hes,qd,.inl ⟨rfl,by simp [wkI,h2]⟩⟩
    · exact qz4 h.heap h2 h4 (h.heap.blk _ _ h3).2
  · intro n m b c p q hn hm hlb hlc hp hq hne
    obtain ⟨n1,b0,n2,n3,n4⟩:=back n b hn hlb p hp
    obtain ⟨m1,c0,m2,m3,m4⟩:=back m c hm hlc q hq
    exact h.heap.sep _ _ b0 c0 p q n2 m2 n3 m3 n4 m4 (fun e=>hne (hw.inj n m b c hn hm n1 m1 e))
  · intro n b p hn hl hp hz
    obtain ⟨n1,b0,n2,n3,n4⟩:=back n b hn hl p hp
    rcases hz with hz | ⟨m,hm,es,xs,o,k1,k3⟩
    · exact h.heap.out _ b0 p n2 n3 n4 hz
    · exact h.heap.sep _ _ b0 _ p (p.1,o) n2 k1 n3 rfl n4 k3 (fun e=>hw.free n b hn n1 (by rw [e];exact hm)) rfl
  · intro b hz
    rcases hz with hz | ⟨m,hm,es,xs,o,k1,k3⟩
    · exact h.heap.zs b hz
    · exact h.heap.im_lt ⟨m,_,o,k1,rfl,k3⟩
  · intro b hz
    rcases hz with hz | ⟨m,hm,es,xs,o,k1,k3⟩
    · exact h.heap.zc b hz
    · obtain ⟨_,_,b3⟩:=(h.heap.blk m _ k1).2
      rcases b3 with ⟨_,b4⟩ | ⟨b',o'',arr,ty,b4,b5,_⟩
      · rw [k3] at b4;cases b4
      · rw [k3] at b4;cases b4;exact ⟨_,_,_,b5⟩
  · refine ⟨Nat.le_refl _,fun _ _ _=>rfl,?_,fun _ c e f h=>⟨c,e,f,h,rfl⟩,fun _ r h=>⟨r,h,rfl⟩,fun _ h=>.inl h,?_,?_,rfl,rfl,rfl,fun _=>rfl⟩
    · rintro b ⟨n,blk,o,k1,k2,k3⟩
      obtain ⟨n1,b0,n2,n3,n4⟩:=back n blk k1 k2 _ k3
      exact .inl ⟨_,b0,o,n2,n3,n4⟩
    · intro b hz
      rcases hz with hz | ⟨m,hm,es,xs,o,k1,k3⟩
      · exact .inl hz
      · exact .inr (.inl ⟨m,_,o,k1,rfl,k3⟩)
    · intro n hn
      have hnp : n ∉ ph:=fun hc=>by have:=hw.phantom n hc;omega
      simp [wkI,hnp,hw.small n hn]
end
end Go.Am
namespace Go.Am
open Go
variable {P : Program} {T : Tab}
section
variable {w : World} {Z : Nat→Prop} {inj : Inj} {st : AS} {a : Act} {Ds : List Nat}
theorem qsw {r : ResultVar} {v : V} (hT : Yj P T) (h : RelH w Z inj st.hp st.nx) (hs : Yc w Z inj st.nx st.sl a.tmps) (hr : qej T st r = some v) :
    ∃ x,(match r with | .tmp t=>pure (a.tmps.getD t undef) | .cell p t=>(do loadVar t (← asAddr (a.tmps.getD p undef)) : Sem Value) : Sem Value).run P w = .ok x w∧RelV w Z inj st.nx v x:=by
  cases r with
  | tmp t=>
    obtain ⟨x,hx,hrel⟩:=hs t v hr
    exact ⟨x,by simp [Array.getD_eq_getD_getElem?,hx],hrel⟩
  | cell p t=>
    simp only [qej] at hr
    split at hr <;> try simp at hr
    rename_i pv i hp ht
    obtain ⟨x,hx,hrel⟩:=hs p pv hp
    obtain ⟨b,o,y,e,hrun,hy⟩:=qi6 (P:=P) h (hT _ _ ht) hrel hr
    refine ⟨y,?_,hy⟩
    rw [e] at hx hrun
    simp [Instr.loadAt,Instr.sureAddr] at hrun
    simp [Array.getD_eq_getD_getElem?,hx,asAddr,hrun]
theorem qju (hT : Yj P T) (h : RelH w Z inj st.hp st.nx) (hs : Yc w Z inj st.nx st.sl a.tmps) (g : ResultVar→Sem Value) (hg1 : ∀ t,g (.tmp t) = pure (a.tmps.getD t undef))
    (hg2 : ∀ p t,g (.cell p t) = (do loadVar t (← asAddr (a.tmps.getD p undef)))) : ∀ {l : List ResultVar} {vs : List V},resL T st l = some vs→
    ∃ xs : List Value,(l.mapM g).run P w = .ok xs w∧LRel w Z inj st.nx vs xs.toArray
  | [],vs,hr=>by simp [resL] at hr;subst hr;exact ⟨[],qd,qd,qd⟩
  | r::l,vs,hr=>by
    simp only [resL] at hr
    split at hr <;> try simp at hr
    rename_i v vs' h1 h2
    subst hr
    obtain ⟨x,hx,hrel⟩:=qsw hT h hs h1
    obtain ⟨xs,hxs,hl⟩:=qju hT h hs g hg1 hg2 h2
    have hx : (g r).run P w = .ok x w:=by
      rw [← hx];cases r
      · rw [hg1]
      · rw [hg2]
    refine ⟨x::xs,?_,?_,?_⟩
    · rw [List.mapM_cons]
      simp only [Sem.run_bind,hx,Result.andThen_ok,hxs,Sem.run_pure]
    · have:=hl.1;simp at this ⊢;omega
    · intro i d c hd hc
      cases i with
      | zero=>simp at hd hc;subst hd hc;exact hrel
      | succ i=>simp at hd hc;exact hl.2 i d c hd (by simpa using hc)
theorem qpp {nx : Nat} {cs : List V} {xs : Array Value} (h : LRel w Z inj nx cs xs) : RelV w Z inj nx (qdv cs) (.tuple xs):=by
  unfold qdv
  split
  · rename_i ds hd
    have:=q41 hd;subst this
    refine .d (.tup (by simpa using h.1) fun i d c h1 h2=>?_)
    have:=h.2 i (.d d) c (by simp [h1]) h2
    cases this with | d h=>exact h
  · exact .tup h.1 h.2
theorem qsx {fn : Func} {v : V} (hT : Yj P T) (h : RelH w Z inj st.hp st.nx) (hs : Yc w Z inj st.nx st.sl a.tmps) (hr : resV T st fn.results.toList = some v) : ∃ x,(results fn a.tmps).run P w = .ok x w∧RelV w Z inj st.nx v x:=by
  unfold resV at hr
  have key : ∀ vs,resL T st fn.results.toList = some vs→∃ xs : List Value,(results fn a.tmps).run P w = .ok (if h : xs.toArray.size = 1 then xs.toArray[0] else .tuple xs.toArray) w∧LRel w Z inj st.nx vs xs.toArray:=by
    intro vs hvs
    unfold results
    generalize hg : (fun x=>match x with | .tmp t=>pure (a.tmps.getD t undef) | .cell p t=>(do loadVar t (← asAddr (a.tmps.getD p undef)) : Sem Value) : ResultVar→Sem Value) = g
    rw [Sem.run_bind,Array.mapM_eq_mapM_toList,Sem.run_map]
    obtain ⟨xs,hxs,hl⟩:=qju hT h hs g (fun t=>by rw [← hg]) (fun p t=>by rw [← hg]) hvs
    refine ⟨xs,?_,hl⟩
    rw [hxs]
    rfl
  split at hr
  · rename_i v' hvs
    simp at hr;subst hr
    obtain ⟨xs,hx,hl⟩:=key _ hvs
    obtain ⟨y,hy,hrel⟩:=qdl hl
    have : xs = [y]:=by simpa using congrArg Array.toList hy
    subst this
    exact ⟨y,by simpa using hx,hrel⟩
  · rename_i vs hne hvs
    simp at hr;subst hr
    obtain ⟨xs,hx,hl⟩:=key _ hvs
    refine ⟨.tuple xs.toArray,?_,qpp hl⟩
    have : xs.toArray.size≠1:=by
      rw [← hl.1]
      intro hc
      match vs,hc with
      | [x],_=>exact hne x rfl
    rw [dif_neg this] at hx
    exact hx
  · simp at hr
end
end Go.Am
namespace Go.Am
open Go
variable {P : Program} {T : Tab}
section
variable {w : World} {Z : Nat→Prop} {inj : Inj} {hp : List (Nat × Blk)} {nx : Nat}
theorem q4e {α β : Type} {f : α→Option β} : ∀ {l : List α} {r : List β},Yv f l = some r→r.length = l.length∧∀ (i : Nat) (x : α),l[i]? = some x→∃ y,r[i]? = some y∧f x = some y
  | [],r,h=>by simp [Yv] at h;subst h;simp
  | x::l,r,h=>by
    simp only [Yv] at h
    split at h <;> try simp at h
    rename_i y hy
    split at h <;> simp at h
    rename_i r' hr'
    subst h
    obtain ⟨h1,h2⟩:=q4e hr'
    refine ⟨by simp [h1],fun i z hz=>?_⟩
    cases i with
    | zero=>simp at hz;subst hz;exact ⟨y,rfl,hy⟩
    | succ i=>simp at hz;obtain ⟨u,h3,h4⟩:=h2 i z hz;exact ⟨u,by simpa using h3,h4⟩
def zAll (w : World) (Z : Nat→Prop) (inj : Inj) (hp : List (Nat × Blk)) (b : Nat) : Prop:=Z b∨(im hp inj b∧∃ c e f,w.heap[b]? = some (.cells c e f))
theorem qyr {k : Nat} {v : V} {d : DV} (h : toD hp k v = some d) (hc : Kb v = true) : Y5 d = true:=by
  cases k with
  | zero=>cases v <;> simp [toD] at h;subst h;exact hc
  | succ k=>
    cases v with
    | d x=>simp [toD] at h;subst h;exact hc
    | agg cs=>simp [Kb] at hc
    | tup cs=>simp [Kb] at hc
    | dead=>simp [Kb] at hc
    | fn f cs=>simp only [toD,Option.map_eq_some_iff] at h;obtain ⟨_,_,rfl⟩:=h;rfl
    | yld n=>simp [toD] at h
    | mp n=>simp [toD] at h
    | dref cs j=>simp [toD] at h
    | hs n es o l=>
      simp only [toD] at h
      split at h
      · split at h <;> simp at h;subst h;rfl
      · split at h <;> simp at h;obtain ⟨_,_,rfl⟩:=h;rfl
      · simp at h
    | ref n es i j=>
      simp only [toD] at h
      split at h
      · split at h <;> simp at h;subst h;rfl
      · split at h <;> simp at h;obtain ⟨_,_,rfl⟩:=h;rfl
      · simp at h
theorem q9r (h : RelH w Z inj hp nx) : ∀ (k : Nat) {v : V} {x : Value} {d : DV},toD hp k v = some d→RelV w Z inj nx v x→RelD w (zAll w Z inj hp) d x
  | 0,v,x,d,hd,hv=>by
    cases v <;> simp [toD] at hd
    subst hd
    cases hv with | d hv=>exact hv.mono (fun _ _=>rfl) (fun _ hz=>.inl hz)
  | k + 1,v,x,d,hd,hv=>by
    have hz : ∀ b,Z b→zAll w Z inj hp b:=fun _ hz=>.inl hz
    have ih:=fun {v : V} {x : Value} {d : DV}=>q9r h k (v:=v) (x:=x) (d:=d)
    have list : ∀ {cs : List V} {ds : List DV} {xs : Array Value},Yv (toD hp k) cs = some ds→cs.length = xs.size→(∀ (i : Nat) (d : V) (c : Value),cs[i]? = some d→xs[i]? = some c→RelV w Z inj nx d c)→
        ds.length = xs.size∧∀ (i : Nat) (d : DV) (c : Value),ds[i]? = some d→xs[i]? = some c→RelD w (zAll w Z inj hp) d c:=by
      intro cs ds xs hm hl hr
      obtain ⟨h1,h2⟩:=q4e hm
      refine ⟨q6,fun i d c hd hc=>?_⟩
      obtain ⟨y,hy⟩:=Y4 h1 hd
      obtain ⟨d',hd',hf⟩:=h2 i y hy
      rw [hd] at hd';cases hd'
      exact ih hf (hr i y c hy hc)
    cases v with
    | d y=>simp [toD] at hd;subst hd;cases hv with | d hv=>exact hv.mono (fun _ _=>rfl) hz
    | agg cs=>
      simp only [toD,Option.map_eq_some_iff] at hd
      obtain ⟨ds,hm,rfl⟩:=hd
      cases hv with | agg h1 h2=>obtain ⟨a,b⟩:=list hm h1 h2;exact .agg a b
    | tup cs=>
      simp only [toD,Option.map_eq_some_iff] at hd
      obtain ⟨ds,hm,rfl⟩:=hd
      cases hv with | tup h1 h2=>obtain ⟨a,b⟩:=list hm h1 h2;exact .tup a b
    | fn f cs=>
      simp only [toD,Option.map_eq_some_iff] at hd
      obtain ⟨ds,hm,rfl⟩:=hd
      cases hv with | fn h1 h2=>obtain ⟨a,b⟩:=list hm h1 h2;exact .fn a b
    | dead=>simp [toD] at hd
    | yld n=>simp [toD] at hd
    | mp n=>simp [toD] at hd
    | dref cs j=>simp [toD] at hd
    | hs n es o l=>
      have key : ∀ (rows : List (List DV)) (blk : Blk),rows.length = l→find hp n = some blk→live blk = true→(∀ (i : Nat) (x : List DV),rows[i]? = some x→x.length = es)→
          (∀ b o',inj n = some (b,o')→∃ arr ty,w.heap[b]? = some (.cells arr ty (0,0))∧∀ (i : Nat) (x : List DV) (j : Nat) (d : DV),rows[i]? = some x→x[j]? = some d→Y5 d = true∧∃ c,arr[o' + ((o + i) * es + j)]? = some c∧RelD w (zAll w Z inj hp) d c)→
          RelD w (zAll w Z inj hp) (.sl es rows) x:=by
        intro rows blk hlen hb hlive hrow hcell
        cases hv with
        | hsnil h1=>
          have : rows = []:=List.length_eq_zero_iff.1 hlen
          subst this;exact .slnil es
        | @hs _ _ _ _ cap ad h1 h2 h3 h4=>
          obtain ⟨bb,oo,sp⟩:=ad
          simp only at h3;subst h3
          by_cases h0 : l = 0
          · have : rows = []:=List.length_eq_zero_iff.1 q6
            subst this;subst h0
            exact RelD.sl (es:=es) (xs:=[]) qd qd qd qd qd
          · obtain ⟨b,o',e1,e2,e3⟩:=h4 q6
            rw [e2]
            obtain ⟨arr,ty,b5,b6⟩:=hcell b o' e1
            have e9 : ∀ i j,o' + o * es + (i * es + j) = o' + ((o + i) * es + j):=by intro i j;rw [Nat.add_mul];omega
            have hc : ∀ (i : Nat) (x : List DV) (j : Nat) (d : DV),rows[i]? = some x→x[j]? = some d→Y5 d = true∧∃ c,w.cell? ⟨b,o' + o * es + (i * es + j),none⟩ = some c∧RelD w (zAll w Z inj hp) d c:=by
              intro i x j d hx hd
              obtain ⟨c1,c,c2,c3⟩:=b6 _ x j d hx hd
              exact ⟨c1,c,by rw [e9];simp only [World.cell?,b5];exact c2,c3⟩
            have:=RelD.sl (w:=w) (Z:=zAll w Z inj hp) (es:=es) (xs:=rows) (b:=b) (o:=o' + o * es) (cap:=cap) (by rw [hlen];exact h2) (fun _=>.inr ⟨⟨n,blk,o',hb,hlive,e1⟩,_,_,_,b5⟩) hrow
              (fun i x j d hx hd=>by obtain ⟨c1,c,c2,_⟩:=hc i x j d hx hd;exact ⟨c1,c,c2⟩)
              (fun i x j d c hx hd hcc=>by obtain ⟨_,c',c2,c3⟩:=hc i x j d hx hd;rw [c2] at hcc;cases hcc;exact c3)
            rw [hlen] at this
            exact this
      simp only [toD] at hd
      split at hd
      · rename_i m xs hb
        split at hd <;> simp at hd
        rename_i hle
        obtain ⟨hle,rfl⟩:=hle
        subst hd
        obtain ⟨b1,b2,b3⟩:=(h.blk n _ hb).2
        have hget : ∀ (i : Nat) (x : List DV),((xs.drop o).take l)[i]? = some x→xs[o + i]? = some x:=by
          intro i x hx
          rw [List.getElem?_take] at hx
          split at hx
          · rwa [List.getElem?_drop] at hx
          · simp at hx
        refine key _ _ (by simp;omega) hb rfl (fun i x hx=>b2 _ _ (hget i x hx)) ?_
        intro b o' hi
        rcases b3 with ⟨_,b4⟩ | ⟨b',o'',arr,ty,b4,b5,b6⟩
        · rw [hi] at b4;cases b4
        · rw [hi] at b4;cases b4
          refine ⟨arr,ty,b5,fun i x j d hx hd=>?_⟩
          obtain ⟨c1,c,c2,c3⟩:=b6 _ x j d (hget i x hx) hd
          exact ⟨c1,c,c2,c3.mono (fun _ _=>rfl) hz⟩
      · rename_i m xs hb
        split at hd <;> simp at hd
        rename_i hle
        obtain ⟨hle,rfl⟩:=hle
        obtain ⟨rows,hm,rfl⟩:=hd
        obtain ⟨m1,m2⟩:=q4e hm
        obtain ⟨b1,b2,b3⟩:=(h.blk n _ hb).2
        have hget : ∀ (i : Nat) (x : List V),((xs.drop o).take l)[i]? = some x→xs[o + i]? = some x:=by
          intro i x hx
          rw [List.getElem?_take] at hx
          split at hx
          · rwa [List.getElem?_drop] at hx
          · simp at hx
        have hrow : ∀ (i : Nat) (x : List DV),rows[i]? = some x→∃ y,xs[o + i]? = some y∧Yv (toD hp k) y = some x:=by
          intro i x hx
          obtain ⟨y,hy⟩:=Y4 m1 hx
          obtain ⟨x',hx',hf⟩:=m2 i y hy
          rw [hx] at hx';cases hx'
          exact ⟨y,hget _ _ hy,hf⟩
        refine key rows _ (by simp at m1;omega) hb rfl (fun i x hx=>by obtain ⟨y,hy,hf⟩:=hrow i x hx;rw [(q4e hf).1];exact b2 _ _ hy) ?_
        intro b o' hi
        rcases b3 with ⟨_,b4⟩ | ⟨b',o'',arr,ty,b4,b5,b6⟩
        · rw [hi] at b4;cases b4
        · rw [hi] at b4;cases b4
          refine ⟨arr,ty,b5,fun i x j d hx hd=>?_⟩
          obtain ⟨y,hy,hf⟩:=hrow i x hx
          obtain ⟨f1,f2⟩:=q4e hf
          obtain ⟨u,hu⟩:=Y4 f1 hd
          obtain ⟨d',hd',hfd⟩:=f2 j u hu
          rw [hd] at hd';cases hd'
          obtain ⟨c1,c,c2,c3⟩:=b6 _ y j u hy hu
          exact ⟨qyr hfd c1,c,c2,ih hfd c3⟩
      · simp at hd
    | ref n es i j=>
      have key : ∀ (row : List DV) (blk : Blk),i = 0→j = 0→find hp n = some blk→live blk = true→
          (∀ b o',inj n = some (b,o')→∃ arr ty,w.heap[b]? = some (.cells arr ty (0,0))∧∀ (j : Nat) (d : DV),row[j]? = some d→∃ c,arr[o' + j]? = some c∧RelD w (zAll w Z inj hp) d c)→
          RelD w (zAll w Z inj hp) (.box row) x:=by
        intro row blk hi hj hb hlive hcell
        subst hi hj
        cases hv with | @ref _ _ _ _ b o h1 h2=>
        obtain ⟨arr,ty,b5,b6⟩:=hcell b o h2
        have hc : ∀ (j : Nat) (d : DV),row[j]? = some d→∃ c,w.cell? ⟨b,o + (0 * es + 0) + j,none⟩ = some c∧RelD w (zAll w Z inj hp) d c:=by
          intro j d hd
          obtain ⟨c,c2,c3⟩:=b6 j d hd
          exact ⟨c,by simp only [World.cell?,b5];rw [← c2];simp,c3⟩
        exact .box (.inr ⟨⟨n,blk,o,hb,hlive,h2⟩,_,_,_,b5⟩) (fun j d hd=>by obtain ⟨c,c2,_⟩:=hc j d hd;exact ⟨c,c2⟩)
          (fun j d c hd hcc=>by obtain ⟨c',c2,c3⟩:=hc j d hd;rw [c2] at hcc;cases hcc;exact c3)
      simp only [toD] at hd
      split at hd
      · rename_i m xs hb
        split at hd <;> simp at hd
        subst hd
        obtain ⟨b1,b2,b3⟩:=(h.blk n _ hb).2
        refine key _ _ rfl rfl hb rfl ?_
        intro b o' hi
        rcases b3 with ⟨b4,_⟩ | ⟨b',o'',arr,ty,b4,b5,b6⟩
        · simp at b4
        · rw [hi] at b4;cases b4
          refine ⟨arr,ty,b5,fun j d hd=>?_⟩
          obtain ⟨_,c,c2,c3⟩:=b6 0 _ j d rfl hd
          exact ⟨c,by rw [← c2];simp,c3.mono (fun _ _=>rfl) hz⟩
      · rename_i m xs hb
        split at hd <;> simp at hd
        obtain ⟨row,hm,rfl⟩:=hd
        obtain ⟨b1,b2,b3⟩:=(h.blk n _ hb).2
        refine key _ _ rfl rfl hb rfl ?_
        intro b o' hi
        rcases b3 with ⟨b4,_⟩ | ⟨b',o'',arr,ty,b4,b5,b6⟩
        · simp at b4
        · rw [hi] at b4;cases b4
          refine ⟨arr,ty,b5,fun j d hd=>?_⟩
          obtain ⟨f1,f2⟩:=q4e hm
          obtain ⟨u,hu⟩:=Y4 f1 hd
          obtain ⟨d',hd',hfd⟩:=f2 j u hu
          rw [hd] at hd';cases hd'
          obtain ⟨_,c,c2,c3⟩:=b6 0 _ j u rfl hu
          exact ⟨c,by rw [← c2];simp,ih hfd c3⟩
      · simp at hd
theorem qfe (h : RelH w Z inj hp nx) : ∀ {vs : List V} {ds : List DV},Ke hp vs = some ds→ds.length = vs.length∧∀ (i : Nat) (v : V),vs[i]? = some v→∃ d,ds[i]? = some d∧toD hp 8 v = some d
  | [],ds,hd=>by simp [Ke] at hd;subst hd;simp
  | v::r,ds,hd=>by
    simp only [Ke] at hd
    split at hd <;> simp at hd
    rename_i x l h1 h2
    subst hd
    obtain ⟨a,b⟩:=qfe h h2
    refine ⟨by simp [a],fun i u hu=>?_⟩
    cases i with
    | zero=>simp at hu;subst hu;exact ⟨x,rfl,h1⟩
    | succ i=>simp at hu;obtain ⟨d,h3,h4⟩:=b i u hu;exact ⟨d,by simpa using h3,h4⟩
theorem qpf (h : RelH w Z inj hp nx) {vs : List V} {ds : List DV} {xs : Array Value} (hd : Ke hp vs = some ds) (hl : LRel w Z inj nx vs xs) (inj' : Inj) : LRel w (zAll w Z inj hp) inj' 0 (ds.map .d) xs:=by
  obtain ⟨a,b⟩:=qfe h hd
  refine ⟨by simpa [a] using hl.1,fun i d c h1 h2=>?_⟩
  simp only [List.getElem?_map,Option.map_eq_some_iff] at h1
  obtain ⟨d',h1,rfl⟩:=h1
  obtain ⟨v,hv⟩:=Y4 a h1
  obtain ⟨d2,h3,h4⟩:=b i v hv
  rw [h1] at h3;cases h3
  exact .d (q9r h 8 h4 (hl.2 i v c hv h2))
theorem qpe {vs : List V} {ds : List DV} {xs : Array Value} (hd : Ke hp vs = some ds) (hv : vs.all V.isD = true) (hl : LRel w Z inj nx vs xs) (inj' : Inj) : LRel w Z inj' 0 (ds.map .d) xs:=by
  have e : ∀ {vs : List V} {ds : List DV},Ke hp vs = some ds→vs.all V.isD = true→ds.map .d = vs:=by
    intro vs
    induction vs with
    | nil=>intro ds hd _;simp [Ke] at hd;subst hd;rfl
    | cons v r ih=>
      intro ds hd hv
      simp only [Ke] at hd
      split at hd <;> simp at hd
      rename_i x l h1 h2
      subst hd
      simp only [List.all_cons,Bool.and_eq_true] at hv
      obtain ⟨hv1,hv2⟩:=hv
      cases v <;> simp [V.isD] at hv1
      simp [toD] at h1;subst h1
      rw [List.map_cons,ih h2 hv2]
  refine ⟨by rw [e hd hv];exact hl.1,fun i d c h1 h2=>?_⟩
  rw [e hd hv] at h1
  have hx : V.isD d = true:=(List.all_eq_true.1 hv) d (List.mem_of_getElem? h1)
  have:=hl.2 i d c h1 h2
  cases this <;> simp [V.isD] at hx
  exact .d ‹_›
theorem qt4 {Z Z' : Nat→Prop} {d : DV} {x : Value} (h : RelD w Z d x) (hs : d.scalar = true) : RelD w Z' d x:=by
  have go : ∀ {ds : List DV},DV.scalar.go ds = true→∀ (i : Nat) (d : DV),ds[i]? = some d→(∀ {x : Value},RelD w Z d x→RelD w Z' d x):=by
    intro ds
    induction ds with
    | nil=>intro _ i d h;simp at h
    | cons y r ih=>
      intro hg i d hd
      cases i with
      | zero=>
        simp at hd;subst hd
        intro x hx
        cases y <;> simp [DV.scalar.go] at hg <;> cases hx <;> constructor
      | succ i=>
        simp at hd
        refine ih ?_ i d hd
        cases y <;> simp [DV.scalar.go] at hg <;> exact hg
  cases d <;> simp [DV.scalar] at hs
  case tup ds=>cases h with | tup h1 h2=>exact .tup h1 fun i d c hd hc=>go hs i d hd (h2 i d c hd hc)
  case agg ds=>cases h with | agg h1 h2=>exact .agg h1 fun i d c hd hc=>go hs i d hd (h2 i d c hd hc)
  all_goals (cases h <;> constructor)
end
end Go.Am
namespace Go.Am
open Go
variable {P : Program} {T : Tab}
def Fw (ro : Option Nat) : Fence:={fn:=fun _=>True,depth:=none,alive:=false,round:=ro}
def toE : Ex→Exit
  | .nor=>.normal
  | .exit id=>.exit id
  | .ret=>.ret
def Y3 (ro : Option Nat) (w : World) : Prop:=∀ l,ro = some l→∃ r,w.heap[l]? = some (.loop r)
def Ki (base : Nat) (w : World) (Z : Nat→Prop) (inj : Inj) (st : AS) (a : Act) (Ds : List Nat) (st' : AS) (a' : Act) (w' : World) : Prop:=
  ∃ Z' inj' Ds',RelS w' Z' inj' st' a' Ds'∧Ext w Z inj st.hp w' Z' inj' st'.hp base∧a'.tmps.size = a.tmps.size∧base≤st'.nx∧∀ D∈Ds',D∈Ds∨w.heap.size≤D
section
variable {base : Nat} {w : World} {Z : Nat→Prop} {inj : Inj} {st st' st'' : AS} {a a' a'' : Act} {Ds : List Nat} {w' w'' : World}
theorem Ki.refl (h : RelS w Z inj st a Ds) (hb : base≤st.nx) : Ki base w Z inj st a Ds st a w:=⟨Z,inj,Ds,h,.refl,rfl,hb,fun _ h=>.inl h⟩
theorem Y3.ext {ro : Option Nat} {Z' : Nat→Prop} {inj' : Inj} {hp hp' : List (Nat × Blk)} {pin : Nat} (h : Y3 ro w) (e : Ext w Z inj hp w' Z' inj' hp' pin) : Y3 ro w':=
  fun l hl=>let ⟨r,hr⟩:=h l hl;let ⟨r',h',_⟩:=e.loops l r hr;⟨r',h'⟩
theorem Ki.bind {Q : Prop} (p : Ki base w Z inj st a Ds st' a' w') (h : ∀ Z' inj' Ds',RelS w' Z' inj' st' a' Ds'→a'.tmps.size = a.tmps.size→base≤st'.nx→(∀ ro,Y3 ro w→Y3 ro w')→
    (∀ st'' a'' w'',Ki base w' Z' inj' st' a' Ds' st'' a'' w''→Ki base w Z inj st a Ds st'' a'' w'')→Q) : Q:=by
  obtain ⟨Z',inj',Ds',h1,h2,h3,h4,h5⟩:=p
  refine h Z' inj' Ds' h1 h3 h4 (fun ro hr=>hr.ext h2) ?_
  rintro st'' a'' w'' ⟨Z2,i2,D2,k1,k2,k3,k4,k5⟩
  refine ⟨Z2,i2,D2,k1,h2.trans k2 (Nat.le_refl _),k3.trans h3,k4,fun D hD=>?_⟩
  rcases k5 D hD with h | h
  · exact h5 D h
  · exact .inr (Nat.le_trans h2.size h)
theorem qgi {n : Nat} {t : Tmp} (h : Zl n (some t) = true) : t < n:=by simpa [Zl,Nat.blt_eq] using h
theorem qj5 (a : Act) (d : Option Tmp) (v : Value) : (a.put d v).tmps.size = a.tmps.size:=by cases d <;> simp [Act.put]
theorem Yc.put {nx : Nat} {s : List (Nat × V)} {tmps : Array Value} {v : V} {x : Value} {t : Tmp} (h : Yc w Z inj nx s tmps) (hv : RelV w Z inj nx v x) (ht : t < tmps.size) : Yc w Z inj nx ((t,v)::s) (tmps.setIfInBounds t x):=by
  intro u y hy
  rw [Kh] at hy
  split at hy
  · rename_i e;subst e;cases hy
    exact ⟨x,by simp [ht],hv⟩
  · rename_i e
    obtain ⟨z,hz,hr⟩:=h u y hy
    exact ⟨z,by rw [Array.getElem?_setIfInBounds_ne e];exact hz,hr⟩
theorem qss {Z' : Nat→Prop} {inj' : Inj} {hp' : List (Nat × Blk)} {nx' : Nat} {v : V} {x : Value} {dst : Option Tmp} (h : RelS w Z inj st a Ds) (e : Ext w Z inj st.hp w' Z' inj' hp' st.nx) (hh : RelH w' Z' inj' hp' nx') (hn : st.nx≤nx')
    (hv : RelV w' Z' inj' nx' v x) (hd : Zl a.tmps.size dst = true) : RelS w' Z' inj' ({sl:=st.sl,hp:=hp',nx:=nx' : AS}.putD dst v) (a.put dst x) Ds:=by
  have hs : Yc w' Z' inj' nx' st.sl a.tmps:=h.slots.mono (e.zkeep h.heap) e.zin e.big e.pinj hn
  cases dst with
  | none=>exact ⟨hs,hh,h.defs,h.nodup,fun D hD=>e.marks h.heap (h.marks D hD)⟩
  | some t=>exact ⟨hs.put hv (qgi hd),hh,h.defs,h.nodup,fun D hD=>e.marks h.heap (h.marks D hD)⟩
theorem Y7 (st : AS) (d : Option Tmp) (v : V) : (st.putD d v).hp = st.hp:=by cases d <;> rfl
theorem Y8 (st : AS) (d : Option Tmp) (v : V) : (st.putD d v).nx = st.nx:=by cases d <;> rfl
theorem q2r {Z' : Nat→Prop} {inj' : Inj} {hp' : List (Nat × Blk)} {nx' : Nat} {v : V} {x : Value} {dst : Option Tmp} (h : RelS w Z inj st a Ds) (hb : base≤st.nx) (e : Ext w Z inj st.hp w' Z' inj' hp' st.nx) (hh : RelH w' Z' inj' hp' nx') (hn : st.nx≤nx')
    (hv : RelV w' Z' inj' nx' v x) (hd : Zl a.tmps.size dst = true) : Ki base w Z inj st a Ds ({sl:=st.sl,hp:=hp',nx:=nx' : AS}.putD dst v) (a.put dst x) w':=
  ⟨Z',inj',Ds,qss h e hh hn hv hd,by rw [Y7];exact e.pin_le hb,qj5 _ _ _,by rw [Y8];exact Nat.le_trans hb hn,fun _ h=>.inl h⟩
def Jp (P : Program) (F : Fence) (ops : Array Oper) (Q : Exit→Act→World→Prop) (o : Oper) (K : Act→World→Prop) (a : Act) (w : World) : Prop:=
  if Region.wanted o (yielded ops a.tmps) then o.wpIn F 0 P a w K Q else (∀ f,o.about P w a.eval = some f→F.fn f)∧K (a.put o.dst undef) w
theorem qev {F : Fence} {ops : Array Oper} {Q : Exit→Act→World→Prop} {o : Oper} {K : Act→World→Prop} {i : Nat} (hi : ops[i]? = some o) (h : Jp P F ops Q o K a w) : wpOpIn F 0 P ops Q i K a w:=by
  unfold wpOpIn;rw [hi];exact h
def J0 (P : Program) (base : Nat) (ops : Array Oper) (o : Oper) (st st' : AS) : Prop:=
  ∀ (ro : Option Nat) (Q : Exit→Act→World→Prop) (w : World) (Z : Nat→Prop) (inj : Inj) (a : Act) (Ds : List Nat) (K : Act→World→Prop),RelS w Z inj st a Ds→Zl a.tmps.size o.dst = true→base≤st.nx→Y3 ro w→
    (∀ a' w',Ki base w Z inj st a Ds st' a' w'→K a' w')→Jp P (Fw ro) ops Q o K a w
theorem q2o {ops : Array Oper} {o : Oper} {b : Bool} (h : RelS w Z inj st a Ds) (hg : Qi ops st o = some b) : Region.wanted o (yielded ops a.tmps) = b:=by
  unfold Qi at hg
  unfold Region.wanted
  cases hgo : o.guard with
  | none=>rw [hgo] at hg;simp at hg;simp [hg]
  | some jw=>
    obtain ⟨j,want⟩:=jw
    rw [hgo] at hg
    simp only at hg ⊢
    cases hd : (ops[j]?).bind (·.dst) with
    | none=>rw [hd] at hg;simp at hg
    | some t=>
      rw [hd] at hg
      simp only at hg
      unfold yielded
      rw [hd]
      split at hg
      · rename_i bb hv
        obtain ⟨x,hx,hr⟩:=h.slots t _ hv
        cases hr with | d hr=>
        cases hr
        simp at hg
        simp [hx,hg]
      · rename_i hv
        obtain ⟨x,hx,hr⟩:=h.slots t _ hv
        cases hr with | d hr=>
        cases hr
        simp at hg
        simp [hx,← hg]
      · simp at hg
theorem qsu {nx : Nat} : RelV w Z inj nx (.d (.tup [])) undef:=.d (.tup qd qd)
theorem qhj {ops : Array Oper} {o : Oper} (hg : Qi ops st o = some false) : J0 P base ops o st (st.putD o.dst (.d (.tup []))):=by
  intro ro Q w Z inj a Ds K h hd hb _ hK
  unfold Jp
  rw [q2o h hg]
  simp only [Bool.false_eq_true,if_false]
  exact ⟨fun _ _=>trivial,hK _ _ (q2r h hb .refl h.heap (Nat.le_refl _) qsu hd)⟩
theorem qiv {op : Op} {v : V} {st1 : AS} (ho : opFn T st op = some (v,st1)) : ∀ c,op≠.defer c:=by
  rintro c rfl;simp [opFn] at ho
theorem qd8 {ops : Array Oper} {o : Oper} {v : V} {st1 : AS} (hT : Yj P T) (hg : Qi ops st o = some true) (ho : opFn T st o.op = some (v,st1)) : J0 P base ops o st (st1.putD o.dst v):=by
  intro ro Q w Z inj a Ds K h hd hb _ hK
  unfold Jp
  rw [q2o h hg]
  simp only [if_true]
  refine ⟨fun _ _=>trivial,?_⟩
  rw [show (Fw ro).round = ro from rfl,Oper.semAt_eq ro _ o (qiv ho)]
  obtain ⟨x,w',inj',hr,hv,hh,he,hsl,hn⟩:=qiw hT h ho
  obtain ⟨sl1,hp1,nx1⟩:=st1
  simp only at hsl hn hv hh he;subst hsl
  have hpost:=q2r h hb he hh hn hv hd
  rcases hr with hr | ⟨hr,rfl⟩
  · rw [hr];exact hK _ _ hpost
  · rw [hr];exact hK _ _ hpost
def Zy (P : Program) (f : FuncId) (vs : List V) (hp : List (Nat × Blk)) (nx : Nat) (v : V) (hp' : List (Nat × Blk)) (nx' : Nat) : Prop:=
  (∀ (args : Array Value) (w : World),(callFunc f args).run P w = .ok (.enter f args) w)∧
  ∀ (w : World) (Z : Nat→Prop) (inj : Inj) (xs : Array Value),RelH w Z inj hp nx→LRel w Z inj nx vs xs→
    CallsIn (Fw none) 0 P f xs w (fun e w'=>∃ x Z' inj',e = .returned x∧RelH w' Z' inj' hp' nx'∧Ext w Z inj hp w' Z' inj' hp' nx∧RelV w' Z' inj' nx' v x∧nx≤nx')
theorem qch {c : Call} {o : Oper} {f : FuncId} {vs : List V} (h : RelS w Z inj st a Ds) (ho : o.op = .call c) (hc : callee st c = some (f,vs)) (hcall : ∀ (args : Array Value) (w : World),(callFunc f args).run P w = .ok (.enter f args) w) :
    ∃ xs,(execOp a.eval o).run P w = .ok (.enter f xs) w∧LRel w Z inj st.nx vs xs:=by
  obtain ⟨dst,op,type,pos,after,guard⟩:=o
  simp only at ho;subst ho
  obtain ⟨cal,args,argTypes⟩:=c
  unfold callee at hc
  simp only at hc
  cases cal <;> simp only [reduceCtorEq] at hc
  rename_i g
  have app : ∀ {as caps : List V} {xs ys : Array Value},LRel w Z inj st.nx as xs→LRel w Z inj st.nx caps ys→LRel w Z inj st.nx (as ++ caps) (xs ++ ys):=by
    intro as caps xs ys h1 h2
    refine ⟨by simp [h1.1,h2.1],fun i d c hd hc=>?_⟩
    by_cases hi : i < as.length
    · rw [List.getElem?_append_left hi] at hd
      rw [Array.getElem?_append_left (by rw [← h1.1];exact hi)] at hc
      exact h1.2 i d c hd hc
    · rw [List.getElem?_append_right q6] at hd
      rw [Array.getElem?_append_right (by rw [← h1.1];omega),← h1.1] at hc
      exact h2.2 _ d c hd hc
  have e2 : (args.toList.map a.eval).toArray = args.map a.eval:=by apply Array.ext';simp
  split at hc <;> simp at hc
  · rename_i f' caps vs' hf hv
    obtain ⟨rfl,rfl⟩:=hc
    have hr:=K3 h hf
    generalize hge : a.eval g = gv at hr
    cases hr with | d hr=>
    cases hr with | @fn _ _ cs h1 h2=>
    have hl:=q7a h hv
    rw [e2] at hl
    refine ⟨args.map a.eval ++ cs,?_,app hl ⟨by simpa using h1,fun i d c hd hc=>?_⟩⟩
    · simp [execOp,resolve,hge,Deferred.ofValue,invoke,hcall]
    · simp only [List.getElem?_map,Option.map_eq_some_iff] at hd
      obtain ⟨d',hd,rfl⟩:=hd
      exact .d (h2 i d' c hd hc)
  · rename_i f' caps vs' hf hv
    obtain ⟨rfl,rfl⟩:=hc
    have hr:=K3 h hf
    generalize hge : a.eval g = gv at hr
    cases hr with | @fn _ _ cs h1 h2=>
    have hl:=q7a h hv
    rw [e2] at hl
    refine ⟨args.map a.eval ++ cs,?_,app hl ⟨h1,h2⟩⟩
    simp [execOp,resolve,hge,Deferred.ofValue,invoke,hcall]
theorem qoj {ops : Array Oper} {o : Oper} {c : Call} {f : FuncId} {vs : List V} {v : V} {hp' : List (Nat × Blk)} {nx' : Nat} (hg : Qi ops st o = some true) (ho : o.op = .call c) (hc : callee st c = some (f,vs))
    (hgood : Zy P f vs st.hp st.nx v hp' nx') : J0 P base ops o st ({sl:=st.sl,hp:=hp',nx:=nx' : AS}.putD o.dst v):=by
  intro ro Q w Z inj a Ds K h hd hb _ hK
  unfold Jp
  rw [q2o h hg]
  simp only [if_true]
  refine ⟨fun _ _=>trivial,?_⟩
  obtain ⟨xs,hr,hl⟩:=qch h ho hc hgood.1
  rw [show (Fw ro).round = ro from rfl,Oper.semAt_eq ro _ o (by rintro c' h';rw [ho] at h';cases h'),hr,Oper.uponIn_enter]
  refine ⟨fun h=>by simp [Fw] at h,?_⟩
  refine CallsIn.mono (hgood.2 w Z inj xs h.heap hl) ?_
  rintro e w' ⟨x,Z',inj',rfl,hh,he,hv,hn⟩
  exact hK _ _ (q2r h hb he hh hn hv hd)
theorem qhi {ops : Array Oper} {o : Oper} {c : Call} {f : FuncId} {vs : List V} {ds : List DV} {v : V} {hp' : List (Nat × Blk)} {nx' : Nat} {r' r : DV} (hg : Qi ops st o = some true) (ho : o.op = .call c) (hc : callee st c = some (f,vs))
    (hfz : Ke st.hp vs = some ds) (hgood : Zy P f (ds.map .d) [] 0 v hp' nx') (hto : toD hp' 8 v = some r') (hle : DLe r' r) (hs : vs.all V.isD = true∨r.scalar = true) : J0 P base ops o st (st.putD o.dst (.d r)):=by
  intro ro Q w Z inj a Ds K h hd hb _ hK
  unfold Jp
  rw [q2o h hg]
  simp only [if_true]
  refine ⟨fun _ _=>trivial,?_⟩
  obtain ⟨xs,hr,hl⟩:=qch h ho hc hgood.1
  rw [show (Fw ro).round = ro from rfl,Oper.semAt_eq ro _ o (by rintro c' h';rw [ho] at h';cases h'),hr,Oper.uponIn_enter]
  refine ⟨fun h=>by simp [Fw] at h,?_⟩
  have noim : ∀ (i : Inj) b,¬ im ([] : List (Nat × Blk)) i b:=by rintro i b ⟨n,blk,o,h1,_⟩;simp [find] at h1
  have keep : ∀ {Z0 : Nat→Prop} {w' : World} {Z' : Nat→Prop} {inj' : Inj},Ext w Z0 inj [] w' Z' inj' hp' 0→∀ b,b < w.heap.size→w'.heap[b]? = w.heap[b]?:=fun e b hb=>e.keep b hb (noim _ b)
  have back : ∀ {Z0 : Nat→Prop} {w' : World} {Z' : Nat→Prop} {inj' : Inj} (Z2 : Nat→Prop),Ext w Z0 inj [] w' Z' inj' hp' 0→(∀ b,Z b→Z2 b)→(∀ b,Z2 b→Z b∨w.heap.size≤b)→(∀ b,Z2 b→∃ c e f,w'.heap[b]? = some (.cells c e f))→
      RelH w' Z2 inj st.hp st.nx∧Ext w Z inj st.hp w' Z2 inj st.hp st.nx:=by
    intro Z0 w' Z' inj' Z2 e hz1 hz2 hz3
    have hk:=keep e
    have hE : Ext w Z inj st.hp w' Z2 inj st.hp st.nx:=⟨e.size,fun b hb _=>hk b hb,fun _ h=>.inl h,e.big,e.loops,hz1,fun b hb=>(hz2 b hb).elim .inl (fun h=>.inr (.inr h)),fun _ _=>rfl,e.tape,e.os,e.output,e.frz⟩
    refine ⟨⟨fun n b hn=>?_,h.heap.sep,?_,?_,hz3⟩,hE⟩
    · obtain ⟨h1,h2⟩:=h.heap.blk n b hn
      refine ⟨h1,h2.mono (hE.zkeep h.heap) hz1 e.big (fun _ _=>rfl) (Nat.le_refl _) h1 fun p hp hlv=>hk _ (h.heap.im_lt ⟨n,b,p.2,hn,hlv,hp⟩)⟩
    · intro n b p h1 h2 h3 hz
      rcases hz2 _ hz with h4 | h4
      · exact h.heap.out n b p h1 h2 h3 h4
      · have:=h.heap.im_lt (b:=p.1) ⟨n,b,p.2,h1,h2,h3⟩;omega
    · intro b hb
      obtain ⟨c,e',f',hc⟩:=hz3 b hb
      exact Zk hc
  rcases hs with hs | hs
  ·
    have h0 : RelH w Z inj [] 0:=⟨fun _ _ h=>by simp [find] at h,fun _ _ _ _ _ _ h=>by simp [find] at h,fun _ _ _ h=>by simp [find] at h,h.heap.zs,h.heap.zc⟩
    refine CallsIn.mono (hgood.2 w Z inj xs h0 (qpe hfz hs hl inj)) ?_
    rintro e w' ⟨x,Z',inj',rfl,hh,he,hv,hn⟩
    have hD:=(q9r hh 8 hto hv).le hle
    obtain ⟨hh2,he2⟩:=back (zAll w' Z' inj' hp') he (fun b hb=>.inl (he.zin b hb))
      (fun b hb=>by
        rcases hb with hb | ⟨hb,_⟩
        · rcases he.zout b hb with h | h | h
          · exact .inl h
          · exact absurd h (noim _ _)
          · exact .inr h
        · rcases he.imm b hb with h | h
          · exact absurd h (noim _ _)
          · exact .inr h)
      (fun b hb=>by
        rcases hb with hb | ⟨_,hb⟩
        · exact hh.zc b hb
        · exact hb)
    exact hK _ _ (q2r h hb he2 hh2 (Nat.le_refl _) (.d hD) hd)
  ·
    have h0 : RelH w (zAll w Z inj st.hp) inj [] 0:=⟨fun _ _ h=>by simp [find] at h,fun _ _ _ _ _ _ h=>by simp [find] at h,fun _ _ _ h=>by simp [find] at h,
      fun b hb=>by
        rcases hb with hb | ⟨hb,_⟩
        · exact h.heap.zs b hb
        · exact h.heap.im_lt hb,
      fun b hb=>by
        rcases hb with hb | ⟨_,hb⟩
        · exact h.heap.zc b hb
        · exact hb⟩
    refine CallsIn.mono (hgood.2 w _ inj xs h0 (qpf h.heap hfz hl inj)) ?_
    rintro e w' ⟨x,Z',inj',rfl,hh,he,hv,hn⟩
    have hD:=(q9r hh 8 hto hv).le hle
    obtain ⟨hh2,he2⟩:=back Z he (fun _ h=>h) (fun _ h=>.inl h) (fun b hb=>by rw [keep he b (h.heap.zs b hb)];exact h.heap.zc b hb)
    exact hK _ _ (q2r h hb he2 hh2 (Nat.le_refl _) (.d (qt4 hD hs)) hd)
end
end Go.Am
