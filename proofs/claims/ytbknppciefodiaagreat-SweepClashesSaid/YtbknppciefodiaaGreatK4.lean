/- Am16m Am17 Am18 Am19 Am20 Am21 -/
import Derived.Test.YtbknppciefodiaaGreatK3
import Derived.RangeFuncRecord
import Derived.RangeFuncNested
import Derived.OrdersIn
import Derived.RangeFuncCalls
namespace Go.Am
open Go
variable {P : Program} {T : Tab}
def Zj (P : Program) (em : Bool) (k : Nat) (t : TypeId) (desc : TypeDesc) (n : Nat) : Prop:=
  ∀ w,(K4 desc = true→∀ X : Array Value,X.size = n→(Instr.checkKey em k t (.agg X)).run P w = .ok () w)∧(K4 desc = false→n = 1∧∀ x,(Instr.checkKey em k t x).run P w = .ok () w)
theorem qi2 {f : Bool} {k : Nat} {t : TypeId} {desc : TypeDesc} {b : TypeInfo} {n : Nat} (h : Zj P f k t desc n) (d : P.underlying t = some desc) (hi : P.info? t = some b) (hs : b.size = n) {X : Array Value} {o : Nat} (l : o + n≤X.size) (w : World) :
    ∃ v,(part t X o).run P w = .ok v w∧(Instr.checkKey f k t v).run P w = .ok () w:=by
  obtain ⟨g,c⟩:=h w
  cases a : K4 desc with
  | true=>exact ⟨.agg (X.extract o (o + n)),by simp [part,q2a d,a,Z5 hi,hs],g a _ (by simp;omega)⟩
  | false=>
    obtain ⟨m,c⟩:=c a
    obtain ⟨x,j⟩:=Kt (xs:=X) (i:=o) q0
    exact ⟨x,by simp [part,q2a d,a,j],c x⟩
def qe7 (em : Bool) (k : Nat) (X : Array Value) (f : Field) (_s : PUnit) : Sem (ForInStep PUnit):=
  if f.name ≠ "_" then do
    let __do_lift ← part f.type X f.offset
    Instr.checkKey em k f.type __do_lift
    pure (ForInStep.yield PUnit.unit)
  else pure (ForInStep.yield PUnit.unit)
theorem qo5 {d : Nat} {t : TypeId} {ks : List (Option IntKind)} (h : K8 P d t = some ks) : ∃ a,P.underlying t = some a:=by
  cases b : P.underlying t with
  | none=>cases d <;> simp [K8,b] at h
  | some a=>exact ⟨a,rfl⟩
theorem qi0 (j : Bool) (d k : Nat) (m : ∀ t desc ks,P.underlying t = some desc→K8 P d t = some ks→Zj P j k t desc ks.length) (X : Array Value) (w : World) : ∀ (l : List Field) (o : Nat) (ks : List (Option IntKind)),
    tile P (K8 P d) o l = some ks→o + ks.length≤X.size→(forIn l PUnit.unit (qe7 j k X) : Sem PUnit).run P w = .ok PUnit.unit w
  | [],_,_,_,_=>by simp
  | f::l,o,ks,ht,hl=>by
    simp only [tile] at ht
    cases a : K8 P d f.type with
    | none=>simp [a] at ht
    | some ka=>
      simp only [a] at ht
      split at ht <;> try simp at ht
      rename_i b
      obtain ⟨rfl,r,p⟩:=b
      cases c : tile P (K8 P d) (f.offset + ka.length) l with
      | none=>simp [c] at ht
      | some kb=>
        simp only [c,Option.some.injEq] at ht;subst ht
        simp only [List.length_append] at hl
        obtain ⟨q,g⟩:=qo5 a
        obtain ⟨x,h,n⟩:=qdc g
        obtain ⟨v,u,s⟩:=qi2 (m f.type q ka g a) g h q0 (X:=X) (o:=f.offset) q0 w
        have:=qi0 j d k m X w l (f.offset + ka.length) kb c q0
        rw [List.forIn_cons]
        simp only [qe7,if_pos r,Sem.run_bind,u,s,Result.andThen_ok]
        simpa using this
def qe8 (em : Bool) (k : Nat) (e : TypeId) (X : Array Value) (i : Nat) (_s : PUnit) : Sem (ForInStep PUnit):=do
  let __do_lift ← sizeOf e
  let __do_lift ← part e X (i * __do_lift)
  Instr.checkKey em k e __do_lift
  pure (ForInStep.yield PUnit.unit)
theorem qi1 {c : Bool} {k : Nat} {e : TypeId} {desc : TypeDesc} {a : TypeInfo} {n : Nat} (d : Zj P c k e desc n) (b : P.underlying e = some desc) (hi : P.info? e = some a) (hs : a.size = n) {X : Array Value} (w : World) :
    ∀ (m s : Nat),(s + m) * n≤X.size→(forIn (List.range' s m) PUnit.unit (qe8 c k e X) : Sem PUnit).run P w = .ok PUnit.unit w
  | 0,s,_=>by simp
  | m + 1,s,hl=>by
    have h : s * n + n = (s + 1) * n:=by rw [Nat.add_mul];simp
    have j : (s + (m + 1)) * n = (s + 1) * n + m * n:=by rw [← Nat.add_mul];congr 1;omega
    obtain ⟨v,f,g⟩:=qi2 d b hi hs (X:=X) (o:=s * n) q0 w
    have:=qi1 d b hi hs w m (s + 1) (X:=X) (by rw [Nat.add_mul (s + 1)];omega)
    rw [List.range'_succ,List.forIn_cons]
    simp only [qe8,Sem.run_bind,Z5 hi,hs,f,g,Result.andThen_ok]
    simpa using this
theorem qe9 (f : Bool) : ∀ (d : Nat) (t : TypeId) (desc : TypeDesc) (ks : List (Option IntKind)),P.underlying t = some desc→K8 P d t = some ks→∀ k,d≤k→Zj P f k t desc ks.length
  | 0,t,desc,ks,hu,hp,k,hk=>by simp [K8] at hp
  | d + 1,t,desc,ks,hu,hp,k,hk=>by
    obtain ⟨k,rfl⟩ : ∃ q,k = q + 1:=⟨k - 1,q0⟩
    intro w
    simp only [K8,hu] at hp
    cases desc <;> simp only [reduceCtorEq,Option.some.injEq] at hp
    case bool=>subst hp;exact ⟨by simp [K4],fun _=>⟨rfl,fun x=>by unfold Instr.checkKey;simp [run_underlying hu]⟩⟩
    case int k0=>subst hp;exact ⟨by simp [K4],fun _=>⟨rfl,fun x=>by unfold Instr.checkKey;simp [run_underlying hu]⟩⟩
    case struct fs=>
      refine ⟨fun _ X l=>?_,by simp [K4]⟩
      split at hp
      · simp at hp
      · have:=qi0 (P:=P) f d k (fun t desc ks r p=>qe9 f d t desc ks r p k q0) X w fs.toList 0 ks hp q0
        rw [Array.forIn_toList] at this
        unfold qe7 at this
        unfold Instr.checkKey
        simp only [Sem.run_bind,run_underlying hu,Result.andThen_ok]
        rw [this]
        simp
    case array n e=>
      refine ⟨fun _ X l=>?_,by simp [K4]⟩
      cases b : K8 P d e with
      | none=>simp [b] at hp
      | some a=>
        simp only [b] at hp
        split at hp
        · rename_i m
          simp only [Option.some.injEq] at hp;subst hp
          obtain ⟨o,c⟩:=qo5 b
          obtain ⟨s,g,h⟩:=qdc c
          have j : (List.replicate n a).flatten.length = n * a.length:=by simp
          have:=qi1 (qe9 f d e o a c b k q0) c g q0 w n 0 (X:=X) (by rw [Nat.zero_add];omega)
          unfold Instr.checkKey
          simp only [Sem.run_bind,run_underlying hu,Result.andThen_ok,Std.Legacy.Range.forIn_eq_forIn_range',Std.Legacy.Range.size,Nat.sub_zero,Nat.add_sub_cancel,Nat.div_one]
          unfold qe8 at this
          rw [this]
          simp
        · simp at hp
section
variable {w w' : World} {Z : Nat→Prop} {inj : Inj}
theorem qbk {d : DV} {v : Value} (h : RelD w Z d v) : DRel w Z [d] #[v]:=⟨rfl,fun i x y a b=>by
  cases i with
  | zero=>simp at a b;subst a b;exact h
  | succ i=>simp at a⟩
theorem q8n {d : DV} {v : Value} (h : RelD w Z d v) (b : Zf d = true) : ∃ cs,v = .agg cs∧DRel w Z (cellsD d) cs:=by
  cases h <;> simp [Zf] at b
  rename_i ds cs a c
  exact ⟨cs,rfl,a,c⟩
theorem q53 {d : DV} (a : Zf d = false) : cellsD d = [d]:=by cases d <;> simp_all [Zf,cellsD]
theorem qk9 {d : TypeId} {desc : TypeDesc} {ks : List (Option IntKind)} (l : P.underlying d = some desc) (hp : K8 P 8 d = some ks) {a b : DV} {u v : Value} (h : RelD w Z a u) (hb : RelD w Z b v)
    (g : Zf a = K4 desc) (j : Zf b = K4 desc) {r : Bool} (f : K6 ks (cellsD a) (cellsD b) = some r) : (Op.equal d u v).run P w = .ok r w:=by
  have key:=qbn (P:=P) (w:=w) (Z:=Z) 8 d desc ks l hp Op.maxDepth (by unfold Op.maxDepth;omega)
  cases c : K4 desc with
  | true=>
    obtain ⟨X,rfl,k⟩:=q8n h (g.trans c)
    obtain ⟨Y,rfl,m⟩:=q8n hb (j.trans c)
    exact (key _ _ _ _ r k m f).1 c
  | false=>
    rw [q53 (g.trans c),q53 (j.trans c)] at f
    exact ((key _ _ _ _ r (qbk h) (qbk hb) f).2 c).2 u v rfl rfl
theorem qg6 {j : TypeId} {desc : TypeDesc} {ks : List (Option IntKind)} (l : P.underlying j = some desc) (hp : K8 P 8 j = some ks) {a b : DV} {u v : Value} (k : RelD w Z a u) (hb : RelD w Z b v) (d : K4 desc = false)
    {r : Bool} (c : K6 ks [a] [b] = some r) : Instr.sameNow desc u v = some r:=by
  simp only [K8,l] at hp
  cases desc <;> simp only [reduceCtorEq,Option.some.injEq] at hp <;> try (simp [K4] at d;done)
  case bool=>
    subst hp
    simp only [K6] at c
    cases a <;> cases b <;> simp only [q1x,reduceCtorEq] at c
    simp at c;subst c
    cases k;cases hb;rfl
  case int k0=>
    subst hp
    simp only [K6] at c
    cases a <;> cases b <;> simp only [q1x,reduceCtorEq] at c
    split at c <;> simp at c
    rename_i f h
    split at f <;> simp at f
    rename_i g
    obtain ⟨rfl,rfl⟩:=g
    subst f c
    simp at h;subst h
    cases k;cases hb;simp [Instr.sameNow]
def Ents (w : World) (Z : Nat→Prop) (es : List (DV × DV)) (ents : List MapEntry) : Prop:=
  ents.length = es.length∧∀ (i : Nat) (e : DV × DV) (x : MapEntry),es[i]? = some e→ents[i]? = some x→RelD w Z e.1 x.key∧RelD w Z e.2 x.val∧Y6 e.2 = true
theorem Ents.tail {e : DV × DV} {es : List (DV × DV)} {x : MapEntry} {a : List MapEntry} (h : Ents w Z (e::es) (x::a)) : RelD w Z e.1 x.key∧Ents w Z es a:=
  ⟨(h.2 0 e x rfl rfl).1,by simpa using h.1,fun i f b d c=>h.2 (i + 1) f b (by simpa using d) (by simpa using c)⟩
theorem qeo {o : TypeId} {desc : TypeDesc} {ks : List (Option IntKind)} (g : P.underlying o = some desc) (hp : K8 P 8 o = some ks) {a : DV} {u : Value} (j : RelD w Z a u) (f : K4 desc = false) :
    ∀ (es : List (DV × DV)) (d : List MapEntry) (s : Nat) (r : Option Nat),Ents w Z es d→Za false ks a es = some r→Instr.findNow desc u d s = some (r.bind fun i=>(d[i]?).map fun x=>(s + i,x.val))
  | [],[],s,r,_,hm=>by simp only [Za,Option.some.injEq] at hm;subst hm;rfl
  | [],x::d,_,_,h,_=>by have:=h.1;simp at this
  | e::es,[],_,_,h,_=>by have:=h.1;simp at this
  | (b,c)::es,x::d,s,r,h,hm=>by
    obtain ⟨l,m⟩:=h.tail
    simp only [Za] at hm
    split at hm <;> try simp at hm
    rename_i n
    rw [q53 n.1,q53 n.2] at hm
    split at hm <;> try simp at hm
    · rename_i k
      subst hm
      simp [Instr.findNow,qg6 g hp j l f k]
    · rename_i k
      split at hm <;> simp at hm
      · rename_i i hi
        subst hm
        have:=qeo g hp j f es d (s + 1) _ m hi
        simp only [Instr.findNow,qg6 g hp j l f k,this]
        simp [Nat.add_comm,Nat.add_left_comm]
      · rename_i hi
        subst hm
        have:=qeo g hp j f es d (s + 1) _ m hi
        simp only [Instr.findNow,qg6 g hp j l f k,this]
        rfl
theorem qen {m : TypeId} {desc : TypeDesc} {ks : List (Option IntKind)} (g : P.underlying m = some desc) (hp : K8 P 8 m = some ks) {a : DV} {u : Value} (k : RelD w Z a u) (f : K4 desc = true) :
    ∀ (es : List (DV × DV)) (d : List MapEntry) (s : Nat) (r : Option Nat),Ents w Z es d→Za true ks a es = some r→(Instr.findAsking m u d s).run P w = .ok (r.bind fun i=>(d[i]?).map fun x=>(s + i,x.val)) w
  | [],[],s,r,_,hm=>by simp only [Za,Option.some.injEq] at hm;subst hm;simp [Instr.findAsking]
  | [],x::d,_,_,h,_=>by have:=h.1;simp at this
  | e::es,[],_,_,h,_=>by have:=h.1;simp at this
  | (b,c)::es,x::d,s,r,h,hm=>by
    obtain ⟨o,n⟩:=h.tail
    simp only [Za] at hm
    split at hm <;> try simp at hm
    rename_i j
    split at hm <;> try simp at hm
    · rename_i l
      subst hm
      simp [Instr.findAsking,qk9 g hp k o (j.1.trans f.symm) (j.2.trans f.symm) l]
    · rename_i l
      have p:=qk9 g hp k o (j.1.trans f.symm) (j.2.trans f.symm) l
      split at hm <;> simp at hm
      · rename_i i hi
        subst hm
        have:=qen g hp k f es d (s + 1) _ n hi
        simp only [Instr.findAsking,Sem.run_bind,p,Result.andThen_ok,Bool.false_eq_true,if_false,this]
        simp [Nat.add_comm,Nat.add_left_comm]
      · rename_i hi
        subst hm
        have:=qen g hp k f es d (s + 1) _ n hi
        simp only [Instr.findAsking,Sem.run_bind,p,Result.andThen_ok,Bool.false_eq_true,if_false,this]
        rfl
theorem qr5 {g : TypeId} {desc : TypeDesc} {ks : List (Option IntKind)} (d : P.underlying g = some desc) (hp : K8 P 8 g = some ks) {a : DV} {u : Value} (j : RelD w Z a u) (l : Zf a = K4 desc)
    {es : List (DV × DV)} {b : List MapEntry} {r : Option Nat} (h : Ents w Z es b) (f : Za (K4 desc) ks a es = some r) : (Instr.findKey g u b).run P w = .ok (r.bind fun i=>(b[i]?).map fun x=>(i,x.val)) w:=by
  cases c : K4 desc with
  | false=>
    rw [c] at f
    have:=qeo d hp j c es b 0 r h f
    simp only [Nat.zero_add] at this
    simp only [Instr.findKey,Sem.run_bind,run_underlying d,Result.andThen_ok,this]
    simp
  | true=>
    rw [c] at f
    have:=qen d hp j c es b 0 r h f
    simp only [Nat.zero_add] at this
    cases b with
    | nil=>
      rw [← this]
      simp [Instr.findKey,run_underlying d,Instr.findNow,Instr.findAsking]
    | cons e es=>
      have k : Instr.findNow desc u (e::es) 0 = none:=by
        cases desc <;> simp [K4] at c <;> simp [Instr.findNow,Instr.sameNow]
      simp only [Instr.findKey,Sem.run_bind,run_underlying d,Result.andThen_ok,k]
      exact this
theorem qe2 : ∀ {ks : List (Option IntKind)} {xs ys : List DV} {X Y : List Value},K6 ks xs ys = some true→(X.length = xs.length)→(Y.length = ys.length)→
    (∀ (i : Nat) (d : DV) (c : Value),xs[i]? = some d→X[i]? = some c→RelD w Z d c)→(∀ (i : Nat) (d : DV) (c : Value),ys[i]? = some d→Y[i]? = some c→RelD w Z d c)→∀ n,X.length = Y.length∧(Y.zip X).all (fun (x,y)=>Instr.sameBits n x y) = true
  | [],[],[],[],[],_,_,_,_,_,n=>⟨rfl,rfl⟩
  | [],[],[],_::_,_,_,h,_,_,_,_=>by simp at h
  | [],[],[],[],_::_,_,_,h,_,_,_=>by simp at h
  | [],[],_::_,_,_,h,_,_,_,_,_=>by simp [K6] at h
  | [],_::_,_,_,_,h,_,_,_,_,_=>by simp [K6] at h
  | _::_,[],_,_,_,h,_,_,_,_,_=>by simp [K6] at h
  | _::_,_::_,[],_,_,h,_,_,_,_,_=>by simp [K6] at h
  | k::ks,a::xs,b::ys,[],_,_,h,_,_,_,_=>by simp at h
  | k::ks,a::xs,b::ys,_::_,[],_,_,h,_,_,_=>by simp at h
  | k::ks,a::xs,b::ys,x::X,y::Y,h,l1,l2,r1,r2,n=>by
    simp only [K6] at h
    split at h <;> simp at h
    rename_i p q hp o
    obtain ⟨rfl,rfl⟩:=h
    obtain ⟨m,r⟩:=qe2 o (by simpa using l1) (by simpa using l2) (fun i d c hd f=>r1 (i + 1) d c (by simpa using hd) (by simpa using f)) (fun i d c hd f=>r2 (i + 1) d c (by simpa using hd) (by simpa using f)) n
    have l:=r1 0 a x rfl rfl
    have j:=r2 0 b y rfl rfl
    refine ⟨by simp [m],?_⟩
    simp only [List.zip_cons_cons,List.all_cons,r,Bool.and_true]
    cases k with
    | none=>
      cases a <;> cases b <;> simp only [q1x,reduceCtorEq] at hp
      simp at hp;subst hp
      cases l;cases j;cases n <;> simp [Instr.sameBits]
    | some k=>
      cases a <;> cases b <;> simp only [q1x,reduceCtorEq] at hp
      split at hp <;> simp at hp
      rename_i g
      obtain ⟨rfl,rfl⟩:=g
      subst hp
      cases l;cases j;cases n <;> simp [Instr.sameBits]
theorem qsa {ks : List (Option IntKind)} {ag : Bool} {a b : DV} {u v : Value} (m : RelD w Z a u) (hb : RelD w Z b v) (l : Zf a = ag) (n : Zf b = ag) (h : K6 ks (cellsD a) (cellsD b) = some true) :
    (Instr.keyThatStays v u).run P w = .ok u w:=by
  have hs : Instr.sameBits 10000 v u = true:=by
    cases ag with
    | true=>
      obtain ⟨X,rfl,g,f⟩:=q8n m l
      obtain ⟨Y,rfl,p,o⟩:=q8n hb n
      obtain ⟨k,r⟩:=qe2 (X:=X.toList) (Y:=Y.toList) h (by simpa using g.symm) (by simpa using p.symm) (fun i d c hd j=>f i d c hd (by simpa using j)) (fun i d c hd j=>o i d c hd (by simpa using j)) 9999
      have q : (Y.size == X.size) = true:=by simp at k;simp [k]
      show (Y.size == X.size && (Y.toList.zip X.toList).all fun (x,y)=>Instr.sameBits 9999 x y) = true
      rw [q,r];rfl
    | false=>
      rw [q53 l,q53 n] at h
      have:=(qe2 (X:=[u]) (Y:=[v]) h rfl rfl (fun i d c g f=>(qbk m).2 i d c g (by simpa using f)) (fun i d c g f=>(qbk hb).2 i d c g (by simpa using f)) 10000).2
      simpa using this
  simp [Instr.keyThatStays,hs]
end
theorem qjg {w : World} {a : Addr} (h : ∀ c e f,w.heap[a.block]?≠some (.cells c e f)) : w.frozen? a = false:=by
  unfold World.frozen?
  split
  · rename_i b;exact absurd b (h _ _ _)
  · rfl
theorem qer {w : World} {b : Nat} {o : Obj} (h : ∀ c e f,w.heap[b]?≠some (.cells c e f)) (g : ∀ c e f,o≠.cells c e f) (a : Addr) : (w.putObj b o).frozen? a = w.frozen? a:=by
  by_cases hb : a.block = b
  · subst hb
    rw [qjg h,qjg]
    intro c e f
    by_cases d : a.block < w.heap.size
    · rw [World.putObj_heap_same d];intro j;exact g _ _ _ (Option.some.inj j)
    · have k : (w.putObj a.block o).heap[a.block]? = none:=by simp;omega
      rw [k];simp
  · simp only [World.frozen?,World.putObj_heap_other hb]
theorem q50 {w : World} {b : Nat} {es : Array MapEntry} {cl : Nat} (hb : w.heap[b]? = some (.map es cl)) : (getObj b).run P w = .ok (.map es cl) w:=by simp [getObj,Sem.run,hb]
theorem qcl {w : World} {b : Nat} {es : Array MapEntry} {cl : Nat} (o : Obj) (hb : w.heap[b]? = some (.map es cl)) : (setObj b o).run P w = .ok () (w.putObj b o):=by simp [setObj,Sem.run,hb,World.putObj]
section
variable {w : World} {Z : Nat→Prop} {inj : Inj} {hp : List (Nat × Blk)} {nx pin : Nat}
theorem qw6 {n : Nat} {es : List (DV × DV)} (h : RelB w Z inj nx n (.mp es)) : ∃ b a cl,inj n = some (b,0)∧w.heap[b]? = some (.map a cl)∧Ents w Z es a.toList:=by
  obtain ⟨b,a,cl,j,f,g,c⟩:=h
  exact ⟨b,a,cl,j,f,by simpa using g,fun i e x k d=>c i e x k (by simpa using d)⟩
theorem qm4 (h : RelH w Z inj hp nx) {n : Nat} {es r : List (DV × DV)} (u : find hp n = some (.mp es)) {b : Nat} (hi : inj n = some (b,0)) {af a : Array MapEntry} {cl cl' : Nat} (hb : w.heap[b]? = some (.map af cl))
    (hE : Ents w Z r a.toList) : RelH (w.putObj b (.map a cl')) Z inj (repl hp n (.mp r)) nx∧Ext w Z inj hp (w.putObj b (.map a cl')) Z inj (repl hp n (.mp r)) pin:=by
  have d : ∀ k,k≠b→(w.putObj b (.map a cl')).heap[k]? = w.heap[k]?:=fun k j=>World.putObj_heap_other j
  have aj : ¬ Z b:=fun hz=>by
    obtain ⟨c,e,f,hc⟩:=h.zc b hz
    rw [hb] at hc;cases hc
  have l : Zk w (w.putObj b (.map a cl')):=fun k c e f j=>by
    by_cases l : k = b
    · subst l;rw [hb] at j;cases j
    · exact ⟨c,e,f,(d k l).trans j,rfl⟩
  have hz : ∀ k,Z k→(w.putObj b (.map a cl')).heap[k]? = w.heap[k]?:=fun k j=>d k (fun e=>aj (e ▸ j))
  have g : ∀ m c,find (repl hp n (.mp r)) m = some c→(m = n∧c = .mp r)∨(m≠n∧find hp m = some c):=by
    intro m c v
    rw [Yt] at v
    split at v
    · rename_i e;subst e;rw [u] at v;simp at v;exact .inl ⟨rfl,v.symm⟩
    · rename_i e;exact .inr ⟨fun h=>e h.symm,v⟩
  have ab : ∀ k,im (repl hp n (.mp r)) inj k→im hp inj k:=by
    rintro k ⟨m,c,o,h1,h2,t⟩
    rcases g m c h1 with ⟨rfl,rfl⟩ | ⟨_,y⟩
    · exact ⟨m,_,o,u,rfl,t⟩
    · exact ⟨m,c,o,y,h2,t⟩
  have ae : RelB (w.putObj b (.map a cl')) Z inj nx n (.mp r):=by
    refine ⟨b,a,cl',hi,World.putObj_heap_same (Zw hb),by simpa using hE.1,fun i e x he hx=>?_⟩
    obtain ⟨g1,g2,g3⟩:=hE.2 i e x he (by simpa using hx)
    exact ⟨g1.mono hz (fun _ h=>h),g2.mono hz (fun _ h=>h),g3⟩
  refine ⟨⟨?_,?_,?_,?_,?_⟩,⟨qe,?_,fun k j=>.inl (ab k j),l,?_,fun _ h=>h,fun _ h=>.inl h,fun _ _=>rfl,rfl,rfl,rfl,qer (fun _ _ _=>by rw [hb];simp) (fun _ _ _=>qe)⟩⟩
  · intro m c v
    rcases g m c v with ⟨rfl,rfl⟩ | ⟨s,y⟩
    · exact ⟨(h.blk _ _ u).1,ae⟩
    · obtain ⟨z,h6⟩:=h.blk m c y
      exact ⟨z,h6.mono hz (fun _ h=>h) l (fun _ _=>rfl) (Nat.le_refl _) z fun p hp ak=>d _ fun e=>h.sep m n c _ p (b,0) y u ak rfl hp hi s e⟩
  · intro m m' c c' p q h1 h2 t y z h6 s
    rcases g m c h1 with ⟨rfl,rfl⟩ | ⟨e1,k1⟩ <;> rcases g m' c' h2 with ⟨rfl,rfl⟩ | ⟨e2,k2⟩
    · exact absurd rfl s
    · exact h.sep _ _ _ _ p q u k2 rfl y z h6 s
    · exact h.sep _ _ _ _ p q k1 u t rfl z h6 s
    · exact h.sep _ _ _ _ p q k1 k2 t y z h6 s
  · intro m c p h1 h2 t
    rcases g m c h1 with ⟨rfl,rfl⟩ | ⟨e1,k1⟩
    · exact h.out _ _ p u rfl t
    · exact h.out _ _ p k1 h2 t
  · intro k j;simpa using h.zs k j
  · intro k j
    obtain ⟨c,e,f,hc⟩:=h.zc k j
    exact ⟨c,e,f,(hz k j).trans hc⟩
  · intro k _ j
    exact d k fun e=>j ⟨n,_,0,u,rfl,e ▸ hi⟩
  · intro k x j
    by_cases l : k = b
    · subst l
      rw [hb] at j;cases j
    · exact ⟨x,(d k l).trans j,rfl⟩
end
section
variable {w : World} {Z : Nat→Prop} {inj : Inj} {st : AS} {a : Act} {Ds : List Nat}
theorem quc {t : TypeId} (h : RelS w Z inj st a Ds) : Ka st (st.new (.mp [])) (.mp st.nx) w Z inj ((do pure (Next.value (← Instr.makeMap t none)) : Sem Next).run P w):=by
  refine .new (o:=.map #[] 0) (x:=.map (some w.heap.size)) h ?_ ?_ (.mp q0 (Ks _ _ _))
  · simp [Instr.makeMap]
  · exact ⟨w.heap.size,#[],0,Ks _ _ _,Ji w _,rfl,qe⟩
theorem q5a {t : TypeId} {i : TI} {ks : List (Option IntKind)} {n : Nat} {es : List (DV × DV)} {m : DV} {mv q : Value} {r : Option Nat} (h : RelS w Z inj st a Ds) (ht : tiOf P t = some i) (hk : i.keys = some ks) (hm : RelV w Z inj st.nx (.mp n) mv)
    (hb : st.blk n = some (.mp es)) (o : RelD w Z m q) (g : U5 i.eagg ks m = true) (hf : Za i.eagg ks m es = some r) :
    ∃ l et b c cl,P.underlying t = some (.map l et)∧mv = .map (some b)∧inj n = some (b,0)∧w.heap[b]? = some (.map c cl)∧Ents w Z es c.toList∧(∀ y,(Instr.checkKey y 10000 l q).run P w = .ok () w)∧
      (Instr.findKey l q c.toList).run P w = .ok (r.bind fun i=>(c[i]?).map fun x=>(i,x.val)) w∧∃ u s,i.ezero = [u]∧(zeroValue et).run P w = .ok s w∧RelD w Z u s:=by
  obtain ⟨ak,d,z,k⟩:=Yh ht
  have j:=k.kind
  unfold Z7 at j
  rw [k.keys ks hk] at j
  obtain ⟨l,e,ie,s,u,aq,dk,rfl,g1,g2,g3,g4,g5,g6,g7,g8,_⟩:=j
  rw [hk] at g6;cases g6
  have f : Zf m = i.eagg∧(cellsD m).length = ks.length:=by
    simp only [U5,Bool.and_eq_true,beq_iff_eq] at g
    exact ⟨g.1,Nat.eq_of_beq_eq_true g.2⟩
  obtain ⟨f,p⟩:=f
  cases hm with
  | @mp _ b hn hi=>
  obtain ⟨b',c,cl,e1,e2,e3⟩:=qw6 (h.heap.blk n _ hb).2
  rw [hi] at e1;cases e1
  rw [g8] at f hf
  refine ⟨l,e,b,c,cl,k.und,rfl,hi,e2,e3,fun y=>?_,?_,u,s,g7,?_,(qeb g3).1⟩
  · have hc:=qe9 y 8 l dk ks g5 g4 10000 q0 w
    cases v : K4 dk with
    | true=>
      obtain ⟨X,rfl,hX⟩:=q8n o (f.trans v)
      exact (hc.1 v) X (hX.1.symm.trans p)
    | false=>exact (hc.2 v).2 q
  · have:=qr5 g5 g4 o f e3 hf
    simpa using this
  · simp [zeroValue,typeInfo,g1,g2]
theorem qeh {es : List (DV × DV)} {a : List MapEntry} (h : Ents w Z es a) {j : Nat} {e : DV × DV} (b : es[j]? = some e) : ∃ x,a[j]? = some x∧RelD w Z e.1 x.key∧RelD w Z e.2 x.val∧Y6 e.2 = true:=by
  obtain ⟨x,c⟩:=Z8 (xs:=a) (i:=j) (by rw [h.1];exact K3 b)
  exact ⟨x,c,h.2 j e x b c⟩
theorem qff {ag : Bool} {ks : List (Option IntKind)} {k : DV} : ∀ {es : List (DV × DV)} {j : Nat},Za ag ks k es = some (some j)→∃ e,es[j]? = some e∧Zf e.1 = ag∧K6 ks (cellsD k) (cellsD e.1) = some true
  | [],j,h=>by simp [Za] at h
  | (b,c)::es,j,h=>by
    simp only [Za] at h
    split at h <;> try simp at h
    rename_i f
    split at h <;> try simp at h
    · rename_i a;subst h;exact ⟨_,rfl,f.2,a⟩
    · split at h <;> simp at h
      rename_i i hi
      subst h
      obtain ⟨e,g,d⟩:=qff hi
      exact ⟨e,by simpa using g,d⟩
theorem qua {t : TypeId} {x y : Operand} {ok : Bool} {i : TI} {ks : List (Option IntKind)} {n : Nat} {es : List (DV × DV)} {kd z : DV} {e : DV × Bool} (h : RelS w Z inj st a Ds) (ht : tiOf P t = some i) (hk : i.keys = some ks) (hx : st.ev x = some (.mp n)) (hy : st.ev y = some (.d kd))
    (hb : st.blk n = some (.mp es)) (hz : i.ezero = [z]) (g : U5 i.eagg ks kd = true) (m : mget i.eagg ks z kd es = some e) :
    Ka st st (.d (bif ok then .tup [e.1,.bool e.2] else e.1)) w Z inj ((do pure (Next.value (← Instr.lookup t (a.eval x) (a.eval y) ok)) : Sem Next).run P w):=by
  have hm:=K2 h hx
  have f:=K2 h hy
  generalize a.eval x = mv at hm ⊢
  generalize a.eval y = kv at f ⊢
  cases f with | d f=>
  have fin : ∀ (u : Value) (o : Bool) (v : DV),RelD w Z v u→e = (v,o)→(Instr.lookup t mv kv ok).run P w = .ok (if ok then .tuple #[u,.bool o] else u) w→Ka st st (.d (bif ok then .tup [e.1,.bool e.2] else e.1)) w Z inj ((do pure (Next.value (← Instr.lookup t mv kv ok)) : Sem Next).run P w):=by
    rintro u o v hr rfl p
    refine .quiet h (K9 p) (.d ?_)
    cases ok with
    | false=>exact hr
    | true=>
      refine .tup rfl fun i d c hd l=>?_
      match i,hd,l with
      | 0,hd,l=>simp at hd l;subst hd l;exact hr
      | 1,hd,l=>simp at hd l;subst hd l;exact .bool _
      | i + 2,hd,_=>simp at hd
  unfold mget at m
  split at m <;> try simp at m
  · rename_i j hf
    obtain ⟨a1,b1,ag,rfl⟩:=m
    obtain ⟨kt,et,b,k,cl,g1,rfl,g3,g4,g5,g6,q,_⟩:=q5a h ht hk hm hb f g hf
    obtain ⟨u,hu,q1,q2,q3⟩:=qeh g5 ag
    refine fin u.val true _ q2 rfl ?_
    have r : k[j]? = some u:=by simpa using hu
    simp [Instr.lookup,run_underlying g1,q50 g4,g6,q,r]
  · rename_i hf
    subst m
    obtain ⟨kt,et,b,k,cl,g1,rfl,g3,g4,g5,g6,q,zd,ze,g8,g9,s⟩:=q5a h ht hk hm hb f g hf
    rw [hz] at g8;cases g8
    refine fin ze false _ s rfl ?_
    simp only [Option.bind_none] at q
    simp [Instr.lookup,run_underlying g1,q50 g4,g6,q,g9]
theorem qqu {es : List (DV × DV)} {a : List MapEntry} (h : Ents w Z es a) {f d : DV} {x : MapEntry} (l : RelD w Z f x.key) (j : RelD w Z d x.val) (k : Y6 d = true) : Ents w Z (es ++ [(f,d)]) (a ++ [x]):=by
  refine ⟨by simp [h.1],fun i e y b c=>?_⟩
  by_cases hi : i < es.length
  · rw [List.getElem?_append_left hi] at b
    rw [List.getElem?_append_left (by rw [h.1];exact hi)] at c
    exact h.2 i e y b c
  · rw [List.getElem?_append_right q0] at b
    rw [List.getElem?_append_right (by rw [h.1];omega),h.1] at c
    obtain ⟨m,g⟩ : ∃ m,m = i - es.length:=⟨_,rfl⟩
    rw [← g] at b c
    cases m with
    | zero=>simp at b c;subst b c;exact ⟨l,j,k⟩
    | succ m=>simp at b
theorem qqv {es : List (DV × DV)} {a : List MapEntry} (h : Ents w Z es a) {j : Nat} {g f : DV} {x : MapEntry} (n : RelD w Z g x.key) (l : RelD w Z f x.val) (m : Y6 f = true) : Ents w Z (es.set j (g,f)) (a.set j x):=by
  refine ⟨by simp [h.1],fun i e y c b=>?_⟩
  rw [List.getElem?_set] at c b
  by_cases d : j = i
  · subst d
    rw [if_pos rfl] at c b
    split at c <;> simp at c
    rename_i k
    rw [if_pos (by rw [h.1];exact k)] at b
    simp at b;subst c b;exact ⟨n,l,m⟩
  · rw [if_neg d] at c b;exact h.2 i e y c b
theorem qqt {es : List (DV × DV)} {a : List MapEntry} (h : Ents w Z es a) (j : Nat) : Ents w Z (es.eraseIdx j) (a.eraseIdx j):=by
  refine ⟨by simp [List.length_eraseIdx,h.1],fun i e y c b=>?_⟩
  rw [List.getElem?_eraseIdx] at c b
  split at c
  · rename_i hi;rw [if_pos hi] at b;exact h.2 i e y c b
  · rename_i hi;rw [if_neg hi] at b;exact h.2 (i + 1) e y c b
theorem que {t : TypeId} {m x y : Operand} {i : TI} {ks : List (Option IntKind)} {n : Nat} {es p : List (DV × DV)} {kd vd : DV} (h : RelS w Z inj st a Ds) (ht : tiOf P t = some i) (hk : i.keys = some ks) (z : st.ev m = some (.mp n)) (hx : st.ev x = some (.d kd)) (hy : st.ev y = some (.d vd))
    (hb : st.blk n = some (.mp es)) (l : U5 i.eagg ks kd = true) (hc : Y6 vd = true) (r : mput i.eagg ks kd vd es = some p) :
    Ka st (st.setBlk n (.mp p)) .dead w Z inj ((do Instr.mapUpdate t (a.eval m) (a.eval x) (a.eval y);pure Next.skip : Sem Next).run P w):=by
  have z:=K2 h z
  have f:=K2 h hx
  have o:=K2 h hy
  generalize a.eval m = mv at z ⊢
  generalize a.eval x = kv at f ⊢
  generalize a.eval y = vv at o ⊢
  cases f with | d f=>
  cases o with | d o=>
  have ac : Zf kd = i.eagg:=by simp only [U5,Bool.and_eq_true,beq_iff_eq] at l;exact l.1
  have fin : ∀ b c cl g cl',inj n = some (b,0)→w.heap[b]? = some (.map c cl)→Ents w Z p g.toList→(Instr.mapUpdate t mv kv vv).run P w = .ok () (w.putObj b (.map g cl'))→
      Ka st (st.setBlk n (.mp p)) .dead w Z inj ((do Instr.mapUpdate t mv kv vv;pure Next.skip : Sem Next).run P w):=by
    intro b c cl g cl' hi hh hE ab
    obtain ⟨v,g2⟩:=qm4 (pin:=st.nx) (cl':=cl') h.heap hb hi hh hE
    exact ⟨undef,_,inj,.inr ⟨by simp [ab],rfl⟩,.dead _,v,g2,rfl,Nat.le_refl _⟩
  unfold mput at r
  split at r <;> try simp at r
  · rename_i j hf
    subst r
    obtain ⟨kt,et,b,c,cl,v,rfl,g3,q,g5,g6,g7,_⟩:=q5a h ht hk z hb f l hf
    obtain ⟨e,he,e1,e2⟩:=qff hf
    obtain ⟨u,hu,q1,q2,q3⟩:=qeh g5 he
    have s : c[j]? = some u:=by simpa using hu
    have ah:=qsa (P:=P) f q1 ac e1 e2
    refine fin b c cl (c.modify j fun e=>{e with key:=kv,val:=vv}) cl g3 q ?_ ?_
    · have : (c.modify j fun e=>{e with key:=kv,val:=vv}).toList = c.toList.set j {u with key:=kv,val:=vv}:=by
        apply List.ext_getElem?
        intro k
        rw [List.getElem?_set]
        simp only [Array.getElem?_toList,Array.getElem?_modify]
        by_cases aa : j = k
        · subst aa;simp [s]
          have:=K3 hu;simpa using this
        · simp [aa]
      rw [this]
      exact qqv g5 f o hc
    · simp [Instr.mapUpdate,run_underlying v,q50 q,g6,g7,s,ah,qcl _ q]
  · rename_i hf
    subst r
    obtain ⟨kt,et,b,c,cl,v,rfl,g3,q,g5,g6,g7,_⟩:=q5a h ht hk z hb f l hf
    simp only [Option.bind_none] at g7
    refine fin b c cl (c.push {key:=kv,val:=vv,born:=cl}) (cl + 1) g3 q ?_ ?_
    · rw [Array.toList_push];exact qqu g5 f o hc
    · simp [Instr.mapUpdate,run_underlying v,q50 q,g6,g7,qcl _ q]
theorem qu3 {y : Array TypeId} {ty t : TypeId} {mv x : Value} {i : TI} {ks : List (Option IntKind)} {n : Nat} {es k : List (DV × DV)} {kd : DV} (h : RelS w Z inj st a Ds) (ht : tiOf P t = some i) (s : y[0]? = some t) (hk : i.keys = some ks) (hm : RelV w Z inj st.nx (.mp n) mv) (r : RelD w Z kd x)
    (hb : st.blk n = some (.mp es)) (l : U5 i.eagg ks kd = true) (o : mdel i.eagg ks kd es = some k) :
    Ka st (st.setBlk n (.mp k)) (.d (.tup [])) w Z inj ((do pure (Next.value (← Builtin.delete_ y ty #[mv,x])) : Sem Next).run P w):=by
  have fin : ∀ b f cl g cl',inj n = some (b,0)→w.heap[b]? = some (.map f cl)→Ents w Z k g.toList→(Builtin.delete_ y ty #[mv,x]).run P w = .ok (.tuple #[]) (w.putObj b (.map g cl'))→
      Ka st (st.setBlk n (.mp k)) (.d (.tup [])) w Z inj ((do pure (Next.value (← Builtin.delete_ y ty #[mv,x])) : Sem Next).run P w):=by
    intro b f cl g cl' hi hh hE q
    obtain ⟨p,g2⟩:=qm4 (pin:=st.nx) (cl':=cl') h.heap hb hi hh hE
    exact ⟨.tuple #[],_,inj,.inl (K9 q),.d (.tup rfl fun i d c hd _=>by simp at hd),p,g2,rfl,Nat.le_refl _⟩
  unfold mdel at o
  split at o <;> try simp at o
  · rename_i j hf
    subst o
    obtain ⟨kt,et,b,f,cl,p,rfl,g3,m,v,g6,z,_⟩:=q5a h ht hk hm hb r l hf
    obtain ⟨e,he,e1,e2⟩:=qff hf
    obtain ⟨u,hu,q1,q2,q3⟩:=qeh v he
    have ab : f[j]? = some u:=by simpa using hu
    refine fin b f cl (f.eraseIdxIfInBounds j) cl g3 m ?_ ?_
    · rw [Array.toList_eraseIdxIfInBounds];exact qqt v j
    · simp [Builtin.delete_,s,run_underlying p,q50 m,g6,z,ab,qcl _ m]
  · rename_i hf
    subst o
    obtain ⟨kt,et,b,f,cl,p,rfl,g3,m,v,g6,z,_⟩:=q5a h ht hk hm hb r l hf
    simp only [Option.bind_none] at z
    refine fin b f cl f cl g3 m v ?_
    simp [Builtin.delete_,s,run_underlying p,q50 m,g6,z,qcl _ m]
end
end Go.Am
namespace Go.Am
open Go
variable {P : Program} {T : Tab}
section
variable {w : World} {Z : Nat→Prop} {inj : Inj} {st : AS} {a : Act} {Ds : List Nat}
theorem qsv {c : Bool} {v b : V} {r : List V} {u : V} (h : minI c v (b::r) = some u) : ∃ k n f m,v = .d (.int k n)∧b = .d (.int f m)∧minI c (.d (.int k (bif c then (if m > n then m else n) else (if m < n then m else n)))) r = some u:=by
  unfold minI at h
  split at h
  · rename_i a;cases a
  · rename_i a;cases a;exact ⟨_,_,_,_,rfl,rfl,h⟩
  · simp at h
theorem qfi {a : Bool} {nx : Nat} : ∀ (r : List V) (v u : V) (x : Value) (xs : List Value),minI a v r = some u→RelV w Z inj nx v x→r.length = xs.length→(∀ (i : Nat) (d : V) (c : Value),r[i]? = some d→xs[i]? = some c→RelV w Z inj nx d c)→
    ∃ y,(xs.foldlM (if a then Builtin.max2 else Builtin.min2) x).run P w = .ok y w∧RelV w Z inj nx u y
  | [],v,u,x,xs,h,hv,hl,_=>by
    simp [minI] at h;subst h
    have : xs = []:=by cases xs <;> simp_all
    subst this
    exact ⟨x,qe,hv⟩
  | b::r,v,u,x,xs,h,hv,hl,hr=>by
    match xs,hl,hr with
    | c::xs,hl,hr=>
      have hb:=hr 0 b c rfl rfl
      obtain ⟨k,n,l,m,rfl,rfl,h⟩:=qsv h
      cases hv with | d hv=>
      cases hv
      cases hb with | d hb=>
      cases hb
      obtain ⟨y,f,j⟩:=qfi r _ u (.int k (bif a then (if m > n then m else n) else (if m < n then m else n))) xs h (.d (.int _ _)) (by simpa using hl) (fun i d c hd g=>hr (i + 1) d c (by simpa using hd) (by simpa using g))
      refine ⟨y,?_,j⟩
      cases a
      · simp only [Bool.false_eq_true,if_false,List.foldlM_cons,Builtin.min2,Sem.run_bind,Sem.run_pure,Result.andThen_ok,cond_false] at f ⊢;exact f
      · simp only [if_true,List.foldlM_cons,Builtin.max2,Sem.run_bind,Sem.run_pure,Result.andThen_ok,cond_true] at f ⊢;exact f
theorem qf8 {nx : Nat} {x y : V} {xs : Array Value} (h : LRel w Z inj nx [x,y] xs) : ∃ a b,xs = #[a,b]∧RelV w Z inj nx x a∧RelV w Z inj nx y b:=by
  obtain ⟨d,c⟩:=h
  obtain ⟨l⟩:=xs
  match l,d with
  | [a,b],_=>exact ⟨a,b,rfl,c 0 _ _ rfl rfl,c 1 _ _ rfl rfl⟩
theorem qf7 {nx : Nat} {x : V} {xs : Array Value} (h : LRel w Z inj nx [x] xs) : ∃ a,xs = #[a]∧RelV w Z inj nx x a:=by
  obtain ⟨b,c⟩:=h
  obtain ⟨l⟩:=xs
  match l,b with
  | [a],_=>exact ⟨a,rfl,c 0 _ _ rfl rfl⟩
theorem qp8 {b : Builtin} {ts : Array TypeId} {ty : TypeId} {cs : Array Bool} {vs : List V} {xs : Array Value} {v : V} {st1 : AS} (hT : Yr P T) (h : RelS w Z inj st a Ds) (p : LRel w Z inj st.nx vs xs) (hb : Kw T st b ts vs = some (v,st1)) :
    Ka st st1 v w Z inj ((builtin b ts ty cs xs).run P w):=by
  unfold Kw at hb
  split at hb
  ·
    rename_i x
    obtain ⟨s,rfl,g⟩:=qf7 p
    split at hb <;> try simp at hb
    rename_i t f
    split at hb <;> try simp at hb
    rename_i i o
    obtain ⟨az,d,z,k⟩:=Yh (hT _ _ o)
    have q:=k.kind
    unfold Z7 at q
    have fin : ∀ n : Int,(Builtin.len_ ts ty #[s]).run P w = .ok (.int .i64 n) w→Ka st st (.d (.int .i64 n)) w Z inj ((builtin .len ts ty cs #[s]).run P w):=fun n hr=>
      .quiet h (by simp [builtin,hr]) (.d (.int _ _))
    split at hb <;> try simp at hb
    · rename_i hk
      simp only [hk] at q
      obtain ⟨e,ie,de,rfl,_⟩:=q
      obtain ⟨rfl,rfl⟩:=hb
      refine fin _ ?_
      simp only [Builtin.len_,f]
      simp [run_underlying k.und,goInt]
    · rename_i hk
      simp only [hk] at q
      obtain ⟨e,ie,de,ze,rfl,_⟩:=q
      have m : ∀ ad n cap,s = .slice ad n cap→(Builtin.len_ ts ty #[s]).run P w = .ok (.int .i64 n) w:=by
        rintro ad n cap rfl
        simp only [Builtin.len_,f]
        simp [run_underlying k.und,goInt]
      split at hb <;> try simp at hb
      · obtain ⟨rfl,rfl⟩:=hb
        cases g with | d g=>
        cases g
        exact fin 0 (m _ _ _ rfl)
      · obtain ⟨rfl,rfl⟩:=hb
        cases g with | d g=>
        cases g with
        | slnil=>exact fin _ (m _ _ _ rfl)
        | slemp=>exact fin _ (m _ _ _ rfl)
        | sl=>exact fin _ (m _ _ _ rfl)
      · obtain ⟨rfl,rfl⟩:=hb
        cases g with
        | hsnil=>exact fin _ (m _ _ _ rfl)
        | hs=>exact fin _ (m _ _ _ rfl)
    · rename_i hk
      simp only [hk] at q
      obtain ⟨rfl,_⟩:=q
      split at hb <;> try simp at hb
      obtain ⟨rfl,rfl⟩:=hb
      cases g with | d g=>
      cases g
      refine fin _ ?_
      simp only [Builtin.len_,f]
      simp [run_underlying k.und,goInt]
  ·
    obtain ⟨sv,s,rfl,hs,g⟩:=qf8 p
    split at hb <;> try simp at hb
    rename_i t u f ak
    split at hb <;> try simp at hb
    rename_i i j o ah
    obtain ⟨⟨h1,h2,h3⟩,hb⟩:=hb
    have key : (Builtin.append_ ts ty #[sv,s]).run P w = (Builtin.append_ #[t,u] ty #[sv,s]).run P w:=by
      unfold Builtin.append_;simp only [f,ak];rfl
    obtain ⟨x,w',inj',hr,r1,r2,r3,r4,r5⟩:=qtu (ty:=ty) h (hT _ _ o) (hT _ _ ah) h1 h2 h3 hs g hb
    exact ⟨x,w',inj',.inl (by simp [builtin,key,hr]),r1,r2,r3,r4,r5⟩
  ·
    obtain ⟨sv,s,rfl,hs,g⟩:=qf8 p
    split at hb <;> try simp at hb
    rename_i t u f ak
    split at hb <;> try simp at hb
    rename_i i j o ah
    obtain ⟨⟨h1,h2,h3,h4⟩,hb⟩:=hb
    have key : (Builtin.copy_ ts ty #[sv,s]).run P w = (Builtin.copy_ #[t,u] ty #[sv,s]).run P w:=by
      unfold Builtin.copy_;simp only [f];rfl
    obtain ⟨x,w',inj',hr,r1,r2,r3,r4,r5⟩:=qu2 (ty:=ty) h (hT _ _ o) (hT _ _ ah) h1 h2 h3 h4 hs g hb
    exact ⟨x,w',inj',.inl (by simp [builtin,key,hr]),r1,r2,r3,r4,r5⟩
  ·
    rename_i x
    obtain ⟨s,rfl,g⟩:=qf7 p
    split at hb <;> try simp at hb
    rename_i t f
    split at hb <;> try simp at hb
    rename_i i o
    obtain ⟨⟨h1,h2⟩,hb⟩:=hb
    have key : (Builtin.clear_ ts ty #[s]).run P w = (Builtin.clear_ #[t] ty #[s]).run P w:=by
      unfold Builtin.clear_;simp only [f];rfl
    obtain ⟨x,w',inj',hr,r1,r2,r3,r4,r5⟩:=qu0 (ty:=ty) h (hT _ _ o) h1 h2 g hb
    exact ⟨x,w',inj',.inl (by simp [builtin,key,hr]),r1,r2,r3,r4,r5⟩
  ·
    rename_i m0 k0
    obtain ⟨mv,kv,rfl,hs,g⟩:=qf8 p
    split at hb <;> try simp at hb
    rename_i t n kd f
    split at hb <;> try simp at hb
    rename_i i es o aw
    split at hb <;> try simp at hb
    rename_i ks ax
    obtain ⟨an,bc,hd,rfl,rfl⟩:=hb
    cases g with | d g=>
    exact qu3 h (hT _ _ o) f ax hs g aw an hd
  ·
    rename_i v0 r
    cases hm : minI false v0 r with
    | none=>simp [hm] at hb
    | some u=>
      simp [hm] at hb;obtain ⟨rfl,rfl⟩:=hb
      obtain ⟨l⟩:=xs
      match l,p with
      | [],p=>simp [LRel] at p
      | x::xs,p=>
        obtain ⟨y,h1,h2⟩:=qfi (P:=P) r v0 u x xs hm (p.2 0 _ _ rfl rfl) (by simpa using p.1) (fun i d c hd hc=>p.2 (i + 1) d c (by simpa using hd) (by simpa using hc))
        refine .quiet h ?_ h2
        simp only [Bool.false_eq_true,if_false] at h1
        simp [builtin,Builtin.min_,h1]
  · rename_i v0 r
    cases hm : minI true v0 r with
    | none=>simp [hm] at hb
    | some u=>
      simp [hm] at hb;obtain ⟨rfl,rfl⟩:=hb
      obtain ⟨l⟩:=xs
      match l,p with
      | [],p=>simp [LRel] at p
      | x::xs,p=>
        obtain ⟨y,h1,h2⟩:=qfi (P:=P) r v0 u x xs hm (p.2 0 _ _ rfl rfl) (by simpa using p.1) (fun i d c hd hc=>p.2 (i + 1) d c (by simpa using hd) (by simpa using hc))
        refine .quiet h ?_ h2
        simp only [if_true] at h1
        simp [builtin,Builtin.max_,h1]
  · simp at hb
theorem ql8 {o : Oper} {v : V} {st1 : AS} (hT : Yr P T) (h : RelS w Z inj st a Ds) (g : opFn T st o.op = some (v,st1)) : Ka st st1 v w Z inj ((execOp a.eval o).run P w):=by
  obtain ⟨dst,op,type,pos,after,guard⟩:=o
  simp only at g
  cases op <;> simp only [opFn,reduceCtorEq] at g
  case move x=>
    cases hx : st.ev x with
    | none=>simp [hx] at g
    | some u=>simp [hx] at g;obtain ⟨rfl,rfl⟩:=g;exact ql6 h hx rfl
  case assign x=>
    cases hx : st.ev x with
    | none=>simp [hx] at g
    | some u=>simp [hx] at g;obtain ⟨rfl,rfl⟩:=g;exact ql6 h hx rfl
  case pick c x y=>
    split at g <;> try simp at g
    · rename_i hc
      obtain ⟨u,hx,rfl,rfl⟩:=g
      have ae:=K2 h hc
      generalize ao : a.eval c = cv at ae
      cases ae with | d ae=>
      cases ae
      exact .quiet h (by simp [execOp,ao,asBool]) (K2 h hx)
    · rename_i hc
      obtain ⟨u,hx,rfl,rfl⟩:=g
      have ae:=K2 h hc
      generalize ao : a.eval c = cv at ae
      cases ae with | d ae=>
      cases ae
      exact .quiet h (by simp [execOp,ao,asBool]) (K2 h hx)
  case alloc t=>
    cases ht : T t with
    | none=>simp [ht] at g
    | some i=>simp [ht] at g;obtain ⟨rfl,rfl⟩:=g;exact qtt h (hT _ _ ht)
  case box t x=>
    split at g <;> try simp at g
    rename_i i u ht hx
    obtain ⟨⟨h1,h2⟩,rfl,rfl⟩:=g
    exact qtx h (hT _ _ ht) hx h1 (by simpa using h2)
  case build t ps=>
    split at g <;> try simp at g
    rename_i i vs ht hv
    obtain ⟨h1,g⟩:=g
    split at g <;> try simp at g
    rename_i l hl
    obtain ⟨cs,hc,rfl,rfl⟩:=g
    exact qty h (hT _ _ ht) hv h1 hl hc
  case buildSlice t len ps=>
    split at g <;> try simp at g
    rename_i i vs ht hv
    split at g <;> try simp at g
    rename_i l hl
    obtain ⟨⟨h1,h2⟩,xs,hc,rfl,rfl⟩:=g
    exact qtz h (hT _ _ ht) hv hl h1 h2 hc
  case load t p=>
    split at g <;> try simp at g
    rename_i i u ht hp
    obtain ⟨x,hx,rfl,rfl⟩:=g
    exact qu9 h (hT _ _ ht) hp hx
  case store t p x=>
    split at g <;> try simp at g
    rename_i i u y ht hp hx
    obtain ⟨hs,rfl⟩:=g
    exact qug h (hT _ _ ht) hp hx hs
  case binOp op t x y u=>
    split at g
    · rename_i p q hx hy
      split at g <;> try simp at g
      rename_i i ht
      split at g <;> try simp at g
      rename_i ks ai
      split at g <;> simp at g
      · rename_i r hc;obtain ⟨rfl,rfl⟩:=g;exact ql4 h (hT _ _ ht) hx hy ai hc (.inl ⟨rfl,rfl⟩)
      · rename_i r hc;obtain ⟨rfl,rfl⟩:=g;exact ql4 h (hT _ _ ht) hx hy ai hc (.inr ⟨rfl,rfl⟩)
    · rename_i hx hy
      simp at g
      obtain ⟨r,hr,rfl,rfl⟩:=g
      exact qtw h hx hy hr
    · rename_i hx hy
      split at g <;> try simp at g
      rename_i i ht
      obtain ⟨r,hr,rfl,rfl⟩:=g
      exact qtv h (hT _ _ ht) hx hy hr
    · simp at g
  case unOp op t x=>
    split at g <;> try simp at g
    rename_i p hx
    obtain ⟨r,hr,rfl,rfl⟩:=g
    exact quh h hx hr
  case convert src dst x=>
    split at g <;> try simp at g
    rename_i i j k n hi hj hx
    split at g <;> simp at g
    rename_i k0 k1 aw ax
    obtain ⟨rfl,rfl⟩:=g
    exact qu1 h (hT _ _ hi) (hT _ _ hj) aw ax hx
  case makeFunc fn first caps=>
    cases fn <;> simp only [reduceCtorEq] at g
    rename_i f
    split at g <;> simp at g
    rename_i hf
    obtain ⟨vs,hv,rfl,rfl⟩:=g
    exact qub h hf hv
  case makeSlice t l c=>
    split at g <;> try simp at g
    rename_i i k1 n k2 m ht hl hc
    obtain ⟨⟨h1,h2,h3,h4⟩,rfl,rfl⟩:=g
    exact qud h (hT _ _ ht) h1 hl hc h2 h3 h4
  case slice t x lo hi mx=>
    split at g <;> try simp at g
    rename_i i u ht hx
    obtain ⟨⟨h1,h2⟩,g⟩:=g
    split at g <;> try simp at g
    rename_i n hn
    split at g <;> try simp at g
    rename_i p q hp hq
    obtain ⟨r,hr,rfl,rfl⟩:=g
    subst h2
    exact quf h (hT _ _ ht) h1 hx hn hp hq hr
  case fieldAddr s p f=>
    split at g <;> try simp at g
    rename_i i u ht hp
    split at g <;> try simp at g
    rename_i off size ag hk hf
    obtain ⟨r,hr,rfl,rfl⟩:=g
    exact qu5 h (hT _ _ ht) hp hk hf hr
  case field s x f=>
    split at g <;> try simp at g
    rename_i i u ht hx
    split at g <;> try simp at g
    rename_i off size ag cs hk hf ha
    split at g <;> try simp at g
    rename_i r hr
    obtain ⟨y,hy,rfl,rfl⟩:=g
    exact qu4 h (hT _ _ ht) hx hk hf ha hr hy
  case indexAddr t x ix=>
    split at g <;> try simp at g
    rename_i i u k n ht hx hn
    obtain ⟨y,hy,rfl,rfl⟩:=g
    exact qu7 h (hT _ _ ht) hx hn hy
  case index t x ix=>
    split at g <;> try simp at g
    rename_i i u k n ht hx hn
    split at g <;> try simp only [reduceCtorEq] at g
    · rename_i cs hk ha
      split at g <;> try simp at g
      rename_i h0
      split at g <;> try simp at g
      rename_i r hr
      obtain ⟨y,hy,rfl,rfl⟩:=g
      exact qu6 h (hT _ _ ht) hx hn hk ha h0 hr hy
    · rename_i hk
      split at g <;> try simp only [reduceCtorEq] at g
      rename_i s
      rw [Option.map_eq_some_iff] at g
      obtain ⟨b,hb,e⟩:=g
      cases e
      exact qu8 h (hT _ _ ht) hx hn hk hb
  case extract x k=>
    split at g <;> try simp at g
    · rename_i vs hx
      obtain ⟨y,hy,rfl,rfl⟩:=g
      exact ql5 h (.inl ⟨vs,y,hx,hy,rfl⟩)
    · rename_i vs hx
      obtain ⟨y,hy,rfl,rfl⟩:=g
      exact ql5 h (.inr ⟨vs,hx,hy⟩)
  case nilCheck x=>
    have key : ∀ u,st.ev x = some u→(match a.eval x with | .pointer none | .nilIface | .nilFunc | .func (.method _) _ _=>False | _=>True)→Ka st st u w Z inj ((execOp a.eval {dst:=dst,op:=.nilCheck x,type:=type,pos:=pos,after:=after,guard:=guard}).run P w):=by
      intro u hx bl
      have hr:=K2 h hx
      refine .quiet (x:=a.eval x) h ?_ hr
      simp only [execOp]
      split <;> simp_all
    split at g <;> simp at g
    all_goals
      rename_i hx
      obtain ⟨rfl,rfl⟩:=g
      refine key _ hx ?_
      have hr:=K2 h hx
      generalize a.eval x = xv at hr ⊢
      first
        | (cases hr with | d hr=>cases hr <;> trivial)
        | (cases hr <;> trivial)
  case makeMap t r=>
    split at g <;> try simp at g
    obtain ⟨hk,rfl,rfl⟩:=g
    exact quc h
  case lookup t x k ok=>
    split at g <;> try simp at g
    rename_i i n kd ht hx hk
    split at g <;> try simp only [reduceCtorEq] at g
    rename_i ks es z ai hb hz
    split at g <;> try simp only [reduceCtorEq] at g
    rename_i ak
    cases hg : mget i.eagg ks z kd es with
    | none=>rw [hg] at g;simp at g
    | some e=>
      rw [hg] at g
      simp only [Option.map_some,Option.some.injEq,Prod.mk.injEq] at g
      obtain ⟨rfl,rfl⟩:=g
      exact qua h (hT _ _ ht) ai hx hk hb hz ak hg
  case mapUpdate t m k v=>
    split at g <;> try simp at g
    rename_i i n kd vd ht hm hk hv
    split at g <;> try simp at g
    rename_i ks es ai hb
    obtain ⟨⟨ak,hc⟩,bh,hg,rfl,rfl⟩:=g
    exact que h (hT _ _ ht) ai hm hk hv hb ak hc hg
  case call c=>
    obtain ⟨ay,args,argTypes⟩:=c
    cases ay <;> simp only [reduceCtorEq] at g
    rename_i b
    split at g <;> try simp at g
    rename_i vs hv
    have hl:=q8j h hv
    have e2 : (args.toList.map a.eval).toArray = args.map a.eval:=by apply Array.ext';simp
    rw [e2] at hl
    have:=qp8 (ty:=type) (cs:=args.map fun | .const _=>true | _=>false) hT h hl g
    simp only [execOp,resolve,Sem.run_bind,Sem.run_pure,Result.andThen_ok,invoke]
    exact this
end
end Go.Am
namespace Go.Am
open Go
variable {P : Program} {T : Tab}
theorem RelD.le {w : World} {Z : Nat→Prop} {x y : DV} {v : Value} (h : RelD w Z x v) (n : DLe x y) : RelD w Z y v:=by
  induction n generalizing v with
  | refl=>exact h
  | nil es=>cases h;exact .slnil es
  | tup hlen _ ih=>
    cases h with | @tup _ cs h1 h2=>
    refine .tup q0 fun i d c hd l=>?_
    obtain ⟨x,f⟩:=Yc hlen.symm hd
    exact ih i x d f hd (h2 i x c f l)
  | agg hlen _ ih=>
    cases h with | @agg _ cs h1 h2=>
    refine .agg q0 fun i d c hd l=>?_
    obtain ⟨x,f⟩:=Yc hlen.symm hd
    exact ih i x d f hd (h2 i x c f l)
  | @sl es xs ys hlen hrow hcell ih=>
    have k : xs = []→ys = []:=fun e=>List.length_eq_zero_iff.1 (by rw [← hlen,e];rfl)
    have row : ∀ (i : Nat) (y : List DV),ys[i]? = some y→∃ x,xs[i]? = some x∧x.length = y.length:=fun i y g=>by
      obtain ⟨x,f⟩:=Yc hlen.symm g
      exact ⟨x,f,hrow i x y f g⟩
    have cell : ∀ (i : Nat) (y : List DV) (j : Nat) (d : DV),ys[i]? = some y→y[j]? = some d→∃ x c,xs[i]? = some x∧x[j]? = some c∧DLe c d:=fun i y j d g hd=>by
      obtain ⟨x,f,n⟩:=row i y g
      obtain ⟨c,l⟩:=Yc n.symm hd
      exact ⟨x,c,f,l,hcell i x y j c d f g l hd⟩
    cases h with
    | slnil=>rw [k rfl];exact .slnil es
    | slemp _ a=>rw [k rfl];exact .slemp es a
    | @sl _ _ b o cap h1 h2 h3 h4 h5=>
      rw [hlen]
      refine .sl q0 (fun t=>h2 fun e=>t (k e)) (fun i y g=>?_) (fun i y j d g hd=>?_) fun i y j d c g hd l=>?_
      · obtain ⟨x,f,n⟩:=row i y g
        rw [← n];exact h3 i x f
      · obtain ⟨x,c,f,l,m⟩:=cell i y j d g hd
        obtain ⟨q,s⟩:=h4 i x j c f l
        refine ⟨?_,s⟩
        cases m with
        | refl=>exact q
        | nil=>rfl
        | tup=>exact absurd q (by simp [Y6])
        | agg=>exact absurd q (by simp [Y6])
        | sl=>rfl
      · obtain ⟨x,r,f,p,m⟩:=cell i y j d g hd
        exact ih i x y j r d f g p hd (h5 i x j r c f p l)
section
variable {w : World} {Z : Nat→Prop} {inj : Inj} {st st' : AS} {a : Act} {Ds : List Nat} {base : Nat} {ρ : Nat→Nat} {fz ph : List Nat}
def wkZ (Z : Nat→Prop) (inj : Inj) (st : AS) (fz : List Nat) (b : Nat) : Prop:=Z b∨∃ n∈fz,∃ es xs o,find st.hp n = some (.dat es xs)∧inj n = some (b,o)
def wkI (inj : Inj) (ρ : Nat→Nat) (ph : List Nat) : Inj:=fun n=>if n∈ph then none else inj (ρ n)
theorem qdg (h : RelH w Z inj st.hp st.nx) {nx' : Nat} {v v' : V} (hv : Wv st ρ fz ph nx' v v') : ∀ {x : Value},RelV w Z inj st.nx v x→RelV w (wkZ Z inj st fz) (wkI inj ρ ph) nx' v' x:=by
  have s : ∀ b,Z b→wkZ Z inj st fz b:=fun b hb=>.inl hb
  induction hv with
  | dead=>exact fun _=>.dead _
  | d hle=>intro x a;cases a with | d a=>exact .d ((a.le hle).mono (fun _ _=>rfl) s)
  | nil hm hlt=>intro x a;cases a with | d a=>cases a;exact .hsnil hlt
  | dref cs j=>intro x a;cases a with | dref h1 h2 h3=>exact .dref (s _ h1) h2 fun k d c hd g=>(h3 k d c hd g).mono (fun _ _=>rfl) s
  | ref hr hp hlt=>intro x a;cases a with | ref h1 h2=>exact .ref hlt (by simp only [wkI,hp,hr,if_false];exact h2)
  | hs hr hp hlt=>
    intro x a
    cases a with
    | hsnil h1=>exact .hsnil hlt
    | hs h1 h2 h3 h4=>exact .hs hlt h2 h3 fun g=>by obtain ⟨b,o,u,z,e3⟩:=h4 g;exact ⟨b,o,by simp only [wkI,hp,hr,if_false];exact u,z,e3⟩
  | yld hr hp hlt=>intro x a;cases a with | yld h1 h2=>exact .yld hlt (by simp only [wkI,hp,hr,if_false];exact h2)
  | mp hr hp hlt=>intro x a;cases a with | mp h1 h2=>exact .mp hlt (by simp only [wkI,hp,hr,if_false];exact h2)
  | fn hl _ ih=>
    intro x a
    cases a with | @fn _ _ cs h1 h2=>
    refine .fn q0 fun i d c hd g=>?_
    obtain ⟨y,m⟩:=Yc hl.symm hd
    exact ih i y d m hd (h2 i y c m g)
  | agg hl _ ih=>
    intro x a
    cases a with | @agg _ cs h1 h2=>
    refine .agg q0 fun i d c hd g=>?_
    obtain ⟨y,m⟩:=Yc hl.symm hd
    exact ih i y d m hd (h2 i y c m g)
  | tup hl _ ih=>
    intro x a
    cases a with | @tup _ cs h1 h2=>
    refine .tup q0 fun i d c hd g=>?_
    obtain ⟨y,m⟩:=Yc hl.symm hd
    exact ih i y d m hd (h2 i y c m g)
  | dtup hl _ ih=>
    intro x a
    cases a with | d a=>cases a with | @tup _ cs h1 h2=>
    refine .tup q0 fun i d c hd g=>?_
    obtain ⟨y,m⟩:=Yc hl.symm hd
    exact ih i y d m hd (.d (h2 i y c m g))
  | dagg hl _ ih=>
    intro x a
    cases a with | d a=>cases a with | @agg _ cs h1 h2=>
    refine .agg q0 fun i d c hd g=>?_
    obtain ⟨y,m⟩:=Yc hl.symm hd
    exact ih i y d m hd (.d (h2 i y c m g))
  | @frz n es o l xs ys k hb hf hle hys hk=>
    intro x a
    subst hk hys
    have r : ((xs.drop o).take l).length = l:=by simp;omega
    have hB:=(h.blk n _ hb).2
    obtain ⟨b1,b2,b3⟩:=hB
    cases a with
    | hsnil h1=>
      have : (xs.drop o).take 0 = []:=by simp
      rw [this];exact .d (.slnil _)
    | @hs _ _ _ _ cap ad h1 h2 h3 h4=>
      obtain ⟨bb,oo,sp⟩:=ad
      simp only at h3;subst h3
      by_cases h0 : l = 0
      · subst h0
        have : (xs.drop o).take 0 = []:=by simp
        rw [this]
        exact .d (RelD.sl (es:=k) (xs:=[]) qe qe qe qe qe)
      · obtain ⟨b,t,u,z,e3⟩:=h4 q0
        rw [z]
        rcases b3 with ⟨_,p⟩ | ⟨b',ab,arr,ty,p,b5,b6⟩
        · rw [u] at p;cases p
        · rw [u] at p;cases p
          have q : ∀ (i : Nat) (x : List DV),((xs.drop o).take l)[i]? = some x→xs[o + i]? = some x:=by
            intro i x a
            rw [List.getElem?_take] at a
            split at a
            · rwa [List.getElem?_drop] at a
            · simp at a
          have e9 : ∀ i j,t + o * k + (i * k + j) = t + ((o + i) * k + j):=by intro i j;rw [Nat.add_mul];omega
          have f : ∀ (i : Nat) (x : List DV) (j : Nat) (d : DV),((xs.drop o).take l)[i]? = some x→x[j]? = some d→Y6 d = true∧∃ c,w.cell? ⟨b,t + o * k + (i * k + j),none⟩ = some c∧RelD w Z d c:=by
            intro i x j d a hd
            obtain ⟨c1,c,c2,c3⟩:=b6 _ x j d (q i x a) hd
            exact ⟨c1,c,by rw [e9];simp only [World.cell?,b5];exact c2,c3⟩
          have:=RelD.sl (w:=w) (Z:=wkZ Z inj st fz) (es:=k) (xs:=(xs.drop o).take l) (b:=b) (o:=t + o * k) (cap:=cap) (by rw [r];exact h2) (fun _=>.inr ⟨n,hf,_,_,t,hb,u⟩) (fun i x a=>b2 _ _ (q i x a))
            (fun i x j d a hd=>by obtain ⟨c1,c,c2,_⟩:=f i x j d a hd;exact ⟨c1,c,c2⟩)
            (fun i x j d c a hd g=>by obtain ⟨_,c',c2,c3⟩:=f i x j d a hd;rw [c2] at g;cases g;exact c3.mono (fun _ _=>rfl) s)
          rw [r] at this
          exact .d this
  | @frzB n es cs k hb hf hk=>
    intro x a
    subst hk
    obtain ⟨b1,b2,b3⟩:=(h.blk n _ hb).2
    cases a with | @ref _ _ _ _ b o h1 h2=>
    rcases b3 with ⟨p,_⟩ | ⟨b',ab,arr,ty,p,b5,b6⟩
    · simp at p
    · rw [h2] at p;cases p
      have f : ∀ (j : Nat) (d : DV),cs[j]? = some d→∃ c,w.cell? ⟨b,o + (0 * k + 0) + j,none⟩ = some c∧RelD w Z d c:=by
        intro j d hd
        obtain ⟨c1,c,c2,c3⟩:=b6 0 cs j d rfl hd
        exact ⟨c,by simp only [World.cell?,b5];rw [← c2];simp,c3⟩
      exact .d (.box (.inr ⟨n,hf,_,_,o,hb,h2⟩) (fun j d hd=>by obtain ⟨c,c2,_⟩:=f j d hd;exact ⟨c,c2⟩)
        (fun j d c hd g=>by obtain ⟨c',c2,c3⟩:=f j d hd;rw [c2] at g;cases g;exact c3.mono (fun _ _=>rfl) s))
theorem q139 (h : RelH w Z inj st.hp st.nx) {nx' n : Nat} {b b' : Blk} (hp : n ∉ ph) (hw : Wb st ρ fz ph nx' b b') (hb : RelB w Z inj st.nx (ρ n) b) : RelB w (wkZ Z inj st fz) (wkI inj ρ ph) nx' n b':=by
  have s : ∀ b,Z b→wkZ Z inj st fz b:=fun b hb=>.inl hb
  have hi : wkI inj ρ ph n = inj (ρ n):=by simp [wkI,hp]
  cases hw with
  | dead=>trivial
  | dat es xs=>
    obtain ⟨p,m,a⟩:=hb
    refine ⟨p,m,?_⟩
    rcases a with ⟨a,g⟩ | ⟨b,o,arr,ty,a,g,q⟩
    · exact .inl ⟨a,hi.trans g⟩
    · exact .inr ⟨b,o,arr,ty,hi.trans a,g,fun i x j d f hd=>by obtain ⟨c1,c,c2,c3⟩:=q i x j d f hd;exact ⟨c1,c,c2,c3.mono (fun _ _=>rfl) s⟩⟩
  | mp es=>
    obtain ⟨b,r,cl,p,m,a,g⟩:=hb
    exact ⟨b,r,cl,hi.trans p,m,a,fun i e x he f=>by obtain ⟨g1,g2,g3⟩:=g i e x he f;exact ⟨g1.mono (fun _ _=>rfl) s,g2.mono (fun _ _=>rfl) s,g3⟩⟩
  | cel hl hc=>
    obtain ⟨p,m,a⟩:=hb
    refine ⟨p,?_,?_⟩
    · intro i y l
      obtain ⟨x,f⟩:=Yc hl.symm l
      rw [← (hc i x y f l).1];exact m i x f
    · rcases a with ⟨a,g⟩ | ⟨b,o,arr,ty,a,g,q⟩
      · exact .inl ⟨List.eq_nil_of_length_eq_zero (by rw [← hl,a];rfl),hi.trans g⟩
      · refine .inr ⟨b,o,arr,ty,hi.trans a,g,fun i y j d l hd=>?_⟩
        obtain ⟨x,f⟩:=Yc hl.symm l
        obtain ⟨z,l2⟩:=hc i x y f l
        obtain ⟨c0,k⟩:=Yc z.symm hd
        obtain ⟨m1,u⟩:=l2 j c0 d k hd
        obtain ⟨c1,c,c2,c3⟩:=q i x j c0 f k
        exact ⟨u,c,c2,qdg h m1 c3⟩
  | datcel hl hc=>
    obtain ⟨p,m,a⟩:=hb
    refine ⟨p,?_,?_⟩
    · intro i y l
      obtain ⟨x,f⟩:=Yc hl.symm l
      rw [← (hc i x y f l).1];exact m i x f
    · rcases a with ⟨a,g⟩ | ⟨b,o,arr,ty,a,g,q⟩
      · exact .inl ⟨List.eq_nil_of_length_eq_zero (by rw [← hl,a];rfl),hi.trans g⟩
      · refine .inr ⟨b,o,arr,ty,hi.trans a,g,fun i y j d l hd=>?_⟩
        obtain ⟨x,f⟩:=Yc hl.symm l
        obtain ⟨z,l2⟩:=hc i x y f l
        obtain ⟨c0,k⟩:=Yc z.symm hd
        obtain ⟨m1,u⟩:=l2 j c0 d k hd
        obtain ⟨c1,c,c2,c3⟩:=q i x j c0 f k
        exact ⟨u,c,c2,qdg h m1 (.d c3)⟩
  | loop hs=>
    obtain ⟨b,tmps,D,fn,p,m,a,g⟩:=hb
    refine ⟨b,tmps,D,fn,hi.trans p,m,a,fun t v' ht=>?_⟩
    obtain ⟨v,hv,hw⟩:=hs t v' ht
    obtain ⟨x,f,hr⟩:=g t v hv
    exact ⟨x,f,qdg h hw hr⟩
theorem qob {nx' : Nat} {b a : Blk} (d : Wb st ρ fz ph nx' b a) (c : live a = true) : live b = true:=by
  cases d <;> first | rfl | simp [live] at c
theorem q1s (h : RelS w Z inj st a Ds) (y : Wk base ρ fz ph st st') : RelS w (wkZ Z inj st fz) (wkI inj ρ ph) st' a Ds∧Ext w Z inj st.hp w (wkZ Z inj st fz) (wkI inj ρ ph) st'.hp base:=by
  have back : ∀ n z,st'.blk n = some z→live z = true→∀ p,wkI inj ρ ph n = some p→n ∉ ph∧∃ b,st.blk (ρ n) = some b∧live b = true∧inj (ρ n) = some p:=by
    intro n z hb hl p hp
    have g : n ∉ ph:=by intro hc;simp [wkI,hc] at hp
    obtain ⟨_,k⟩:=y.blocks n z hb
    rcases k with ⟨k,_⟩ | ⟨_,b,h3,h4⟩
    · exact absurd k g
    · exact ⟨g,b,h3,qob h4 hl,by simpa [wkI,g] using hp⟩
  refine ⟨⟨?_,⟨?_,?_,?_,?_,?_⟩,h.defs,h.nodup,h.marks⟩,?_⟩
  · intro t v' ht
    obtain ⟨v,hv,af⟩:=y.slots t v' ht
    obtain ⟨x,hx,hr⟩:=h.slots t v hv
    exact ⟨x,hx,qdg h.heap af hr⟩
  · intro n z hb
    obtain ⟨h1,k⟩:=y.blocks n z hb
    refine ⟨h1,?_⟩
    rcases k with ⟨k,es,ai,rfl⟩ | ⟨k,b,h3,h4⟩
    · exact ⟨ai,qe,.inl ⟨rfl,by simp [wkI,k]⟩⟩
    · exact q139 h.heap k h4 (h.heap.blk _ _ h3).2
  · intro n m b c p q s u an aj hp hq ah
    obtain ⟨n1,b0,n2,n3,n4⟩:=back n b s an p hp
    obtain ⟨m1,c0,m2,m3,m4⟩:=back m c u aj q hq
    exact h.heap.sep _ _ b0 c0 p q n2 m2 n3 m3 n4 m4 (fun e=>ah (y.inj n m b c s u n1 m1 e))
  · intro n b p s hl hp d
    obtain ⟨n1,b0,n2,n3,n4⟩:=back n b s hl p hp
    rcases d with d | ⟨m,u,es,xs,o,l,j⟩
    · exact h.heap.out _ b0 p n2 n3 n4 d
    · exact h.heap.sep _ _ b0 _ p (p.1,o) n2 l n3 rfl n4 j (fun e=>y.free n b s n1 (by rw [e];exact u)) rfl
  · intro b d
    rcases d with d | ⟨m,u,es,xs,o,l,j⟩
    · exact h.heap.zs b d
    · exact h.heap.im_lt ⟨m,_,o,l,rfl,j⟩
  · intro b d
    rcases d with d | ⟨m,u,es,xs,o,l,j⟩
    · exact h.heap.zc b d
    · obtain ⟨_,_,b3⟩:=(h.heap.blk m _ l).2
      rcases b3 with ⟨_,b4⟩ | ⟨z,aw,arr,ty,b4,b5,_⟩
      · rw [j] at b4;cases b4
      · rw [j] at b4;cases b4;exact ⟨_,_,_,b5⟩
  · refine ⟨Nat.le_refl _,fun _ _ _=>rfl,?_,fun _ c e f h=>⟨c,e,f,h,rfl⟩,fun _ r h=>⟨r,h,rfl⟩,fun _ h=>.inl h,?_,?_,rfl,rfl,rfl,fun _=>rfl⟩
    · rintro b ⟨n,blk,o,l,k2,j⟩
      obtain ⟨n1,b0,n2,n3,n4⟩:=back n blk l k2 _ j
      exact .inl ⟨_,b0,o,n2,n3,n4⟩
    · intro b d
      rcases d with d | ⟨m,u,es,xs,o,l,j⟩
      · exact .inl d
      · exact .inr (.inl ⟨m,_,o,l,rfl,j⟩)
    · intro n s
      have g : n ∉ ph:=fun hc=>by have:=y.phantom n hc;omega
      simp [wkI,g,y.small n s]
end
end Go.Am
namespace Go.Am
open Go
variable {P : Program} {T : Tab}
section
variable {w : World} {Z : Nat→Prop} {inj : Inj} {st : AS} {a : Act} {Ds : List Nat}
theorem qwf {r : ResultVar} {v : V} (j : Yr P T) (h : RelH w Z inj st.hp st.nx) (hs : Ym w Z inj st.nx st.sl a.tmps) (f : qg2 T st r = some v) :
    ∃ x,(match r with | .tmp t=>pure (a.tmps.getD t undef) | .cell p t=>(do loadVar t (← asAddr (a.tmps.getD p undef)) : Sem Value) : Sem Value).run P w = .ok x w∧RelV w Z inj st.nx v x:=by
  cases r with
  | tmp t=>
    obtain ⟨x,g,c⟩:=hs t v f
    exact ⟨x,by simp [Array.getD_eq_getD_getElem?,g],c⟩
  | cell p t=>
    simp only [qg2] at f
    split at f <;> try simp at f
    rename_i pv i hp l
    obtain ⟨x,g,c⟩:=hs p pv hp
    obtain ⟨b,o,y,e,d,k⟩:=qkg (P:=P) h (j _ _ l) c f
    refine ⟨y,?_,k⟩
    rw [e] at g d
    simp [Instr.loadAt,Instr.sureAddr] at d
    simp [Array.getD_eq_getD_getElem?,g,asAddr,d]
theorem qm8 (q : Yr P T) (h : RelH w Z inj st.hp st.nx) (hs : Ym w Z inj st.nx st.sl a.tmps) (g : ResultVar→Sem Value) (j : ∀ t,g (.tmp t) = pure (a.tmps.getD t undef))
    (f : ∀ p t,g (.cell p t) = (do loadVar t (← asAddr (a.tmps.getD p undef)))) : ∀ {l : List ResultVar} {m : List V},resL T st l = some m→
    ∃ xs : List Value,(l.mapM g).run P w = .ok xs w∧LRel w Z inj st.nx m xs.toArray
  | [],m,hr=>by simp [resL] at hr;subst hr;exact ⟨[],qe,qe,qe⟩
  | r::l,m,hr=>by
    simp only [resL] at hr
    split at hr <;> try simp at hr
    rename_i v u z y
    subst hr
    obtain ⟨x,o,b⟩:=qwf q h hs z
    obtain ⟨xs,n,s⟩:=qm8 q h hs g j f y
    have o : (g r).run P w = .ok x w:=by
      rw [← o];cases r
      · rw [j]
      · rw [f]
    refine ⟨x::xs,?_,?_,?_⟩
    · rw [List.mapM_cons]
      simp only [Sem.run_bind,o,Result.andThen_ok,n,Sem.run_pure]
    · have:=s.1;simp at this ⊢;omega
    · intro i d c hd k
      cases i with
      | zero=>simp at hd k;subst hd k;exact b
      | succ i=>simp at hd k;exact s.2 i d c hd (by simpa using k)
theorem qsx {nx : Nat} {cs : List V} {xs : Array Value} (h : LRel w Z inj nx cs xs) : RelV w Z inj nx (qfk cs) (.tuple xs):=by
  unfold qfk
  split
  · rename_i ds hd
    have:=q4q hd;subst this
    refine .d (.tup (by simpa using h.1) fun i d c b a=>?_)
    have:=h.2 i (.d d) c (by simp [b]) a
    cases this with | d h=>exact h
  · exact .tup h.1 h.2
theorem qwg {fn : Func} {v : V} (o : Yr P T) (h : RelH w Z inj st.hp st.nx) (hs : Ym w Z inj st.nx st.sl a.tmps) (c : resV T st fn.results.toList = some v) : ∃ x,(results fn a.tmps).run P w = .ok x w∧RelV w Z inj st.nx v x:=by
  unfold resV at c
  have key : ∀ j,resL T st fn.results.toList = some j→∃ xs : List Value,(results fn a.tmps).run P w = .ok (if h : xs.toArray.size = 1 then xs.toArray[0] else .tuple xs.toArray) w∧LRel w Z inj st.nx j xs.toArray:=by
    intro j b
    unfold results
    generalize n : (fun x=>match x with | .tmp t=>pure (a.tmps.getD t undef) | .cell p t=>(do loadVar t (← asAddr (a.tmps.getD p undef)) : Sem Value) : ResultVar→Sem Value) = g
    rw [Sem.run_bind,Array.mapM_eq_mapM_toList,Sem.run_map]
    obtain ⟨xs,l,d⟩:=qm8 o h hs g (fun t=>by rw [← n]) (fun p t=>by rw [← n]) b
    refine ⟨xs,?_,d⟩
    rw [l]
    rfl
  split at c
  · rename_i s b
    simp at c;subst c
    obtain ⟨xs,k,d⟩:=key _ b
    obtain ⟨y,r,f⟩:=qf7 d
    have : xs = [y]:=by simpa using congrArg Array.toList r
    subst this
    exact ⟨y,by simpa using k,f⟩
  · rename_i j m b
    simp at c;subst c
    obtain ⟨xs,k,d⟩:=key _ b
    refine ⟨.tuple xs.toArray,?_,qsx d⟩
    have : xs.toArray.size≠1:=by
      rw [← d.1]
      intro q
      match j,q with
      | [x],_=>exact m x rfl
    rw [dif_neg this] at k
    exact k
  · simp at c
end
end Go.Am
namespace Go.Am
open Go
variable {P : Program} {T : Tab}
section
variable {w : World} {Z : Nat→Prop} {inj : Inj} {hp : List (Nat × Blk)} {nx : Nat}
theorem q59 {α β : Type} {f : α→Option β} : ∀ {l : List α} {r : List β},Yz f l = some r→r.length = l.length∧∀ (i : Nat) (x : α),l[i]? = some x→∃ y,r[i]? = some y∧f x = some y
  | [],r,h=>by simp [Yz] at h;subst h;simp
  | x::l,r,h=>by
    simp only [Yz] at h
    split at h <;> try simp at h
    rename_i y c
    split at h <;> simp at h
    rename_i m b
    subst h
    obtain ⟨k,g⟩:=q59 b
    refine ⟨by simp [k],fun i z a=>?_⟩
    cases i with
    | zero=>simp at a;subst a;exact ⟨y,rfl,c⟩
    | succ i=>simp at a;obtain ⟨u,j,d⟩:=g i z a;exact ⟨u,by simpa using j,d⟩
def zAll (w : World) (Z : Nat→Prop) (inj : Inj) (hp : List (Nat × Blk)) (b : Nat) : Prop:=Z b∨(im hp inj b∧∃ c e f,w.heap[b]? = some (.cells c e f))
theorem q12o {k : Nat} {v : V} {d : DV} (h : toD hp k v = some d) (a : Kc v = true) : Y6 d = true:=by
  cases k with
  | zero=>cases v <;> simp [toD] at h;subst h;exact a
  | succ k=>
    cases v with
    | d x=>simp [toD] at h;subst h;exact a
    | agg cs=>simp [Kc] at a
    | tup cs=>simp [Kc] at a
    | dead=>simp [Kc] at a
    | fn f cs=>simp only [toD,Option.map_eq_some_iff] at h;obtain ⟨_,_,rfl⟩:=h;rfl
    | yld n=>simp [toD] at h
    | mp n=>simp [toD] at h
    | dref cs j=>simp [toD] at h
    | hs n es o l=>
      simp only [toD] at h
      split at h
      · split at h <;> simp at h;subst h;rfl
      · split at h <;> simp at h;obtain ⟨_,_,rfl⟩:=h;rfl
      · simp at h
    | ref n es i j=>
      simp only [toD] at h
      split at h
      · split at h <;> simp at h;subst h;rfl
      · split at h <;> simp at h;obtain ⟨_,_,rfl⟩:=h;rfl
      · simp at h
theorem qb0 (h : RelH w Z inj hp nx) : ∀ (k : Nat) {v : V} {x : Value} {d : DV},toD hp k v = some d→RelV w Z inj nx v x→RelD w (zAll w Z inj hp) d x
  | 0,v,x,d,hd,hv=>by
    cases v <;> simp [toD] at hd
    subst hd
    cases hv with | d hv=>exact hv.mono (fun _ _=>rfl) (fun _ hz=>.inl hz)
  | k + 1,v,x,d,hd,hv=>by
    have hz : ∀ b,Z b→zAll w Z inj hp b:=fun _ hz=>.inl hz
    have ih:=fun {v : V} {x : Value} {d : DV}=>qb0 h k (v:=v) (x:=x) (d:=d)
    have list : ∀ {cs : List V} {ds : List DV} {xs : Array Value},Yz (toD hp k) cs = some ds→cs.length = xs.size→(∀ (i : Nat) (d : V) (c : Value),cs[i]? = some d→xs[i]? = some c→RelV w Z inj nx d c)→
        ds.length = xs.size∧∀ (i : Nat) (d : DV) (c : Value),ds[i]? = some d→xs[i]? = some c→RelD w (zAll w Z inj hp) d c:=by
      intro cs ds xs hm hl hr
      obtain ⟨h1,h2⟩:=q59 hm
      refine ⟨q0,fun i d c hd hc=>?_⟩
      obtain ⟨y,hy⟩:=Yc h1 hd
      obtain ⟨d',q,hf⟩:=h2 i y hy
      rw [hd] at q;cases q
      exact ih hf (hr i y c hy hc)
    cases v with
    | d y=>simp [toD] at hd;subst hd;cases hv with | d hv=>exact hv.mono (fun _ _=>rfl) hz
    | agg cs=>
      simp only [toD,Option.map_eq_some_iff] at hd
      obtain ⟨ds,hm,rfl⟩:=hd
      cases hv with | agg h1 h2=>obtain ⟨a,b⟩:=list hm h1 h2;exact .agg a b
    | tup cs=>
      simp only [toD,Option.map_eq_some_iff] at hd
      obtain ⟨ds,hm,rfl⟩:=hd
      cases hv with | tup h1 h2=>obtain ⟨a,b⟩:=list hm h1 h2;exact .tup a b
    | fn f cs=>
      simp only [toD,Option.map_eq_some_iff] at hd
      obtain ⟨ds,hm,rfl⟩:=hd
      cases hv with | fn h1 h2=>obtain ⟨a,b⟩:=list hm h1 h2;exact .fn a b
    | dead=>simp [toD] at hd
    | yld n=>simp [toD] at hd
    | mp n=>simp [toD] at hd
    | dref cs j=>simp [toD] at hd
    | hs n es o l=>
      have key : ∀ (rows : List (List DV)) (blk : Blk),rows.length = l→find hp n = some blk→live blk = true→(∀ (i : Nat) (x : List DV),rows[i]? = some x→x.length = es)→
          (∀ b r,inj n = some (b,r)→∃ arr ty,w.heap[b]? = some (.cells arr ty (0,0))∧∀ (i : Nat) (x : List DV) (j : Nat) (d : DV),rows[i]? = some x→x[j]? = some d→Y6 d = true∧∃ c,arr[r + ((o + i) * es + j)]? = some c∧RelD w (zAll w Z inj hp) d c)→
          RelD w (zAll w Z inj hp) (.sl es rows) x:=by
        intro rows blk ai hb s aa t
        cases hv with
        | hsnil h1=>
          have : rows = []:=List.length_eq_zero_iff.1 ai
          subst this;exact .slnil es
        | @hs _ _ _ _ cap ad h1 h2 h3 h4=>
          obtain ⟨bb,oo,sp⟩:=ad
          simp only at h3;subst h3
          by_cases h0 : l = 0
          · have : rows = []:=List.length_eq_zero_iff.1 q0
            subst this;subst h0
            exact RelD.sl (es:=es) (xs:=[]) qe qe qe qe qe
          · obtain ⟨b,r,e1,e2,e3⟩:=h4 q0
            rw [e2]
            obtain ⟨arr,ty,b5,b6⟩:=t b r e1
            have e9 : ∀ i j,r + o * es + (i * es + j) = r + ((o + i) * es + j):=by intro i j;rw [Nat.add_mul];omega
            have hc : ∀ (i : Nat) (x : List DV) (j : Nat) (d : DV),rows[i]? = some x→x[j]? = some d→Y6 d = true∧∃ c,w.cell? ⟨b,r + o * es + (i * es + j),none⟩ = some c∧RelD w (zAll w Z inj hp) d c:=by
              intro i x j d g hd
              obtain ⟨c1,c,c2,c3⟩:=b6 _ x j d g hd
              exact ⟨c1,c,by rw [e9];simp only [World.cell?,b5];exact c2,c3⟩
            have:=RelD.sl (w:=w) (Z:=zAll w Z inj hp) (es:=es) (xs:=rows) (b:=b) (o:=r + o * es) (cap:=cap) (by rw [ai];exact h2) (fun _=>.inr ⟨⟨n,blk,r,hb,s,e1⟩,_,_,_,b5⟩) aa
              (fun i x j d g hd=>by obtain ⟨c1,c,c2,_⟩:=hc i x j d g hd;exact ⟨c1,c,c2⟩)
              (fun i x j d c g hd af=>by obtain ⟨_,c',c2,c3⟩:=hc i x j d g hd;rw [c2] at af;cases af;exact c3)
            rw [ai] at this
            exact this
      simp only [toD] at hd
      split at hd
      · rename_i m xs hb
        split at hd <;> simp at hd
        rename_i ae
        obtain ⟨ae,rfl⟩:=ae
        subst hd
        obtain ⟨b1,b2,b3⟩:=(h.blk n _ hb).2
        have z : ∀ (i : Nat) (x : List DV),((xs.drop o).take l)[i]? = some x→xs[o + i]? = some x:=by
          intro i x g
          rw [List.getElem?_take] at g
          split at g
          · rwa [List.getElem?_drop] at g
          · simp at g
        refine key _ _ (by simp;omega) hb rfl (fun i x g=>b2 _ _ (z i x g)) ?_
        intro b r hi
        rcases b3 with ⟨_,p⟩ | ⟨b',aq,arr,ty,p,b5,b6⟩
        · rw [hi] at p;cases p
        · rw [hi] at p;cases p
          refine ⟨arr,ty,b5,fun i x j d g hd=>?_⟩
          obtain ⟨c1,c,c2,c3⟩:=b6 _ x j d (z i x g) hd
          exact ⟨c1,c,c2,c3.mono (fun _ _=>rfl) hz⟩
      · rename_i m xs hb
        split at hd <;> simp at hd
        rename_i ae
        obtain ⟨ae,rfl⟩:=ae
        obtain ⟨rows,hm,rfl⟩:=hd
        obtain ⟨m1,m2⟩:=q59 hm
        obtain ⟨b1,b2,b3⟩:=(h.blk n _ hb).2
        have z : ∀ (i : Nat) (x : List V),((xs.drop o).take l)[i]? = some x→xs[o + i]? = some x:=by
          intro i x g
          rw [List.getElem?_take] at g
          split at g
          · rwa [List.getElem?_drop] at g
          · simp at g
        have aa : ∀ (i : Nat) (x : List DV),rows[i]? = some x→∃ y,xs[o + i]? = some y∧Yz (toD hp k) y = some x:=by
          intro i x g
          obtain ⟨y,hy⟩:=Yc m1 g
          obtain ⟨x',ar,hf⟩:=m2 i y hy
          rw [g] at ar;cases ar
          exact ⟨y,z _ _ hy,hf⟩
        refine key rows _ (by simp at m1;omega) hb rfl (fun i x g=>by obtain ⟨y,hy,hf⟩:=aa i x g;rw [(q59 hf).1];exact b2 _ _ hy) ?_
        intro b r hi
        rcases b3 with ⟨_,p⟩ | ⟨b',aq,arr,ty,p,b5,b6⟩
        · rw [hi] at p;cases p
        · rw [hi] at p;cases p
          refine ⟨arr,ty,b5,fun i x j d g hd=>?_⟩
          obtain ⟨y,hy,hf⟩:=aa i x g
          obtain ⟨f1,f2⟩:=q59 hf
          obtain ⟨u,hu⟩:=Yc f1 hd
          obtain ⟨d',q,ak⟩:=f2 j u hu
          rw [hd] at q;cases q
          obtain ⟨c1,c,c2,c3⟩:=b6 _ y j u hy hu
          exact ⟨q12o ak c1,c,c2,ih ak c3⟩
      · simp at hd
    | ref n es i j=>
      have key : ∀ (row : List DV) (blk : Blk),i = 0→j = 0→find hp n = some blk→live blk = true→
          (∀ b r,inj n = some (b,r)→∃ arr ty,w.heap[b]? = some (.cells arr ty (0,0))∧∀ (j : Nat) (d : DV),row[j]? = some d→∃ c,arr[r + j]? = some c∧RelD w (zAll w Z inj hp) d c)→
          RelD w (zAll w Z inj hp) (.box row) x:=by
        intro row blk hi hj hb s t
        subst hi hj
        cases hv with | @ref _ _ _ _ b o h1 h2=>
        obtain ⟨arr,ty,b5,b6⟩:=t b o h2
        have hc : ∀ (j : Nat) (d : DV),row[j]? = some d→∃ c,w.cell? ⟨b,o + (0 * es + 0) + j,none⟩ = some c∧RelD w (zAll w Z inj hp) d c:=by
          intro j d hd
          obtain ⟨c,c2,c3⟩:=b6 j d hd
          exact ⟨c,by simp only [World.cell?,b5];rw [← c2];simp,c3⟩
        exact .box (.inr ⟨⟨n,blk,o,hb,s,h2⟩,_,_,_,b5⟩) (fun j d hd=>by obtain ⟨c,c2,_⟩:=hc j d hd;exact ⟨c,c2⟩)
          (fun j d c hd af=>by obtain ⟨c',c2,c3⟩:=hc j d hd;rw [c2] at af;cases af;exact c3)
      simp only [toD] at hd
      split at hd
      · rename_i m xs hb
        split at hd <;> simp at hd
        subst hd
        obtain ⟨b1,b2,b3⟩:=(h.blk n _ hb).2
        refine key _ _ rfl rfl hb rfl ?_
        intro b r hi
        rcases b3 with ⟨p,_⟩ | ⟨b',aq,arr,ty,p,b5,b6⟩
        · simp at p
        · rw [hi] at p;cases p
          refine ⟨arr,ty,b5,fun j d hd=>?_⟩
          obtain ⟨_,c,c2,c3⟩:=b6 0 _ j d rfl hd
          exact ⟨c,by rw [← c2];simp,c3.mono (fun _ _=>rfl) hz⟩
      · rename_i m xs hb
        split at hd <;> simp at hd
        obtain ⟨row,hm,rfl⟩:=hd
        obtain ⟨b1,b2,b3⟩:=(h.blk n _ hb).2
        refine key _ _ rfl rfl hb rfl ?_
        intro b r hi
        rcases b3 with ⟨p,_⟩ | ⟨b',aq,arr,ty,p,b5,b6⟩
        · simp at p
        · rw [hi] at p;cases p
          refine ⟨arr,ty,b5,fun j d hd=>?_⟩
          obtain ⟨f1,f2⟩:=q59 hm
          obtain ⟨u,hu⟩:=Yc f1 hd
          obtain ⟨d',q,ak⟩:=f2 j u hu
          rw [hd] at q;cases q
          obtain ⟨_,c,c2,c3⟩:=b6 0 _ j u rfl hu
          exact ⟨c,by rw [← c2];simp,ih ak c3⟩
      · simp at hd
theorem qha (h : RelH w Z inj hp nx) : ∀ {f : List V} {ds : List DV},Kg hp f = some ds→ds.length = f.length∧∀ (i : Nat) (v : V),f[i]? = some v→∃ d,ds[i]? = some d∧toD hp 8 v = some d
  | [],ds,hd=>by simp [Kg] at hd;subst hd;simp
  | v::r,ds,hd=>by
    simp only [Kg] at hd
    split at hd <;> simp at hd
    rename_i x l m j
    subst hd
    obtain ⟨a,b⟩:=qha h j
    refine ⟨by simp [a],fun i u c=>?_⟩
    cases i with
    | zero=>simp at c;subst c;exact ⟨x,rfl,m⟩
    | succ i=>simp at c;obtain ⟨d,k,g⟩:=b i u c;exact ⟨d,by simpa using k,g⟩
theorem qsm (h : RelH w Z inj hp nx) {g : List V} {ds : List DV} {xs : Array Value} (hd : Kg hp g = some ds) (j : LRel w Z inj nx g xs) (inj' : Inj) : LRel w (zAll w Z inj hp) inj' 0 (ds.map .d) xs:=by
  obtain ⟨a,b⟩:=qha h hd
  refine ⟨by simpa [a] using j.1,fun i d c f n=>?_⟩
  simp only [List.getElem?_map,Option.map_eq_some_iff] at f
  obtain ⟨o,f,rfl⟩:=f
  obtain ⟨v,l⟩:=Yc a f
  obtain ⟨p,k,m⟩:=b i v l
  rw [f] at k;cases k
  exact .d (qb0 h 8 m (j.2 i v c l n))
theorem qsl {a : List V} {ds : List DV} {xs : Array Value} (hd : Kg hp a = some ds) (b : a.all V.isD = true) (k : LRel w Z inj nx a xs) (inj' : Inj) : LRel w Z inj' 0 (ds.map .d) xs:=by
  have e : ∀ {a : List V} {ds : List DV},Kg hp a = some ds→a.all V.isD = true→ds.map .d = a:=by
    intro a
    induction a with
    | nil=>intro ds hd _;simp [Kg] at hd;subst hd;rfl
    | cons v r ih=>
      intro ds hd b
      simp only [Kg] at hd
      split at hd <;> simp at hd
      rename_i x l f j
      subst hd
      simp only [List.all_cons,Bool.and_eq_true] at b
      obtain ⟨h,g⟩:=b
      cases v <;> simp [V.isD] at h
      simp [toD] at f;subst f
      rw [List.map_cons,ih j g]
  refine ⟨by rw [e hd b];exact k.1,fun i d c f j=>?_⟩
  rw [e hd b] at f
  have m : V.isD d = true:=(List.all_eq_true.1 b) d (List.mem_of_getElem? f)
  have:=k.2 i d c f j
  cases this <;> simp [V.isD] at m
  exact .d ‹_›
theorem qwp {Z Z' : Nat→Prop} {d : DV} {x : Value} (h : RelD w Z d x) (hs : d.scalar = true) : RelD w Z' d x:=by
  have go : ∀ {ds : List DV},DV.scalar.go ds = true→∀ (i : Nat) (d : DV),ds[i]? = some d→(∀ {x : Value},RelD w Z d x→RelD w Z' d x):=by
    intro ds
    induction ds with
    | nil=>intro _ i d h;simp at h
    | cons y r ih=>
      intro b i d hd
      cases i with
      | zero=>
        simp at hd;subst hd
        intro x f
        cases y <;> simp [DV.scalar.go] at b <;> cases f <;> constructor
      | succ i=>
        simp at hd
        refine ih ?_ i d hd
        cases y <;> simp [DV.scalar.go] at b <;> exact b
  cases d <;> simp [DV.scalar] at hs
  case tup ds=>cases h with | tup h1 h2=>exact .tup h1 fun i d c hd a=>go hs i d hd (h2 i d c hd a)
  case agg ds=>cases h with | agg h1 h2=>exact .agg h1 fun i d c hd a=>go hs i d hd (h2 i d c hd a)
  all_goals (cases h <;> constructor)
end
end Go.Am
namespace Go.Am
open Go
variable {P : Program} {T : Tab}
def Fw (ro : Option Nat) : Fence:={fn:=fun _=>True,depth:=none,alive:=false,round:=ro}
def toE : Ex→Exit
  | .nor=>.normal
  | .exit id=>.exit id
  | .ret=>.ret
def Y8 (ro : Option Nat) (w : World) : Prop:=∀ l,ro = some l→∃ r,w.heap[l]? = some (.loop r)
def Kl (base : Nat) (w : World) (Z : Nat→Prop) (inj : Inj) (st : AS) (a : Act) (Ds : List Nat) (st' : AS) (a' : Act) (w' : World) : Prop:=
  ∃ Z' inj' Ds',RelS w' Z' inj' st' a' Ds'∧Ext w Z inj st.hp w' Z' inj' st'.hp base∧a'.tmps.size = a.tmps.size∧base≤st'.nx∧∀ D∈Ds',D∈Ds∨w.heap.size≤D
section
variable {base : Nat} {w : World} {Z : Nat→Prop} {inj : Inj} {st st' st'' : AS} {a a' a'' : Act} {Ds : List Nat} {w' w'' : World}
theorem Kl.refl (h : RelS w Z inj st a Ds) (hb : base≤st.nx) : Kl base w Z inj st a Ds st a w:=⟨Z,inj,Ds,h,.refl,rfl,hb,fun _ h=>.inl h⟩
theorem Y8.ext {ro : Option Nat} {Z' : Nat→Prop} {inj' : Inj} {hp hp' : List (Nat × Blk)} {pin : Nat} (h : Y8 ro w) (e : Ext w Z inj hp w' Z' inj' hp' pin) : Y8 ro w':=
  fun l a=>let ⟨r,hr⟩:=h l a;let ⟨r',h',_⟩:=e.loops l r hr;⟨r',h'⟩
theorem Kl.bind {Q : Prop} (p : Kl base w Z inj st a Ds st' a' w') (h : ∀ Z' inj' b,RelS w' Z' inj' st' a' b→a'.tmps.size = a.tmps.size→base≤st'.nx→(∀ ro,Y8 ro w→Y8 ro w')→
    (∀ st'' a'' w'',Kl base w' Z' inj' st' a' b st'' a'' w''→Kl base w Z inj st a Ds st'' a'' w'')→Q) : Q:=by
  obtain ⟨Z',inj',b,r,c,d,o,l⟩:=p
  refine h Z' inj' b r d o (fun ro f=>f.ext c) ?_
  rintro st'' a'' w'' ⟨q,g,j,k,n,m,s,t⟩
  refine ⟨q,g,j,k,c.trans n (Nat.le_refl _),m.trans d,s,fun D u=>?_⟩
  rcases t D u with h | h
  · exact l D h
  · exact .inr (Nat.le_trans c.size h)
theorem qil {n : Nat} {t : Tmp} (h : Zx n (some t) = true) : t < n:=by simpa [Zx,Nat.blt_eq] using h
theorem qlj (a : Act) (d : Option Tmp) (v : Value) : (a.put d v).tmps.size = a.tmps.size:=by cases d <;> simp [Act.put]
theorem Ym.put {nx : Nat} {s : List (Nat × V)} {tmps : Array Value} {v : V} {x : Value} {t : Tmp} (h : Ym w Z inj nx s tmps) (f : RelV w Z inj nx v x) (c : t < tmps.size) : Ym w Z inj nx ((t,v)::s) (tmps.setIfInBounds t x):=by
  intro u y a
  rw [Kk] at a
  split at a
  · rename_i e;subst e;cases a
    exact ⟨x,by simp [c],f⟩
  · rename_i e
    obtain ⟨z,d,b⟩:=h u y a
    exact ⟨z,by rw [Array.getElem?_setIfInBounds_ne e];exact d,b⟩
theorem qwb {Z' : Nat→Prop} {inj' : Inj} {hp' : List (Nat × Blk)} {nx' : Nat} {v : V} {x : Value} {dst : Option Tmp} (h : RelS w Z inj st a Ds) (e : Ext w Z inj st.hp w' Z' inj' hp' st.nx) (c : RelH w' Z' inj' hp' nx') (f : st.nx≤nx')
    (d : RelV w' Z' inj' nx' v x) (hd : Zx a.tmps.size dst = true) : RelS w' Z' inj' ({sl:=st.sl,hp:=hp',nx:=nx' : AS}.putD dst v) (a.put dst x) Ds:=by
  have hs : Ym w' Z' inj' nx' st.sl a.tmps:=h.slots.mono (e.zkeep h.heap) e.zin e.big e.pinj f
  cases dst with
  | none=>exact ⟨hs,c,h.defs,h.nodup,fun D b=>e.marks h.heap (h.marks D b)⟩
  | some t=>exact ⟨hs.put d (qil hd),c,h.defs,h.nodup,fun D b=>e.marks h.heap (h.marks D b)⟩
theorem Ye (st : AS) (d : Option Tmp) (v : V) : (st.putD d v).hp = st.hp:=by cases d <;> rfl
theorem Yf (st : AS) (d : Option Tmp) (v : V) : (st.putD d v).nx = st.nx:=by cases d <;> rfl
theorem q3i {Z' : Nat→Prop} {inj' : Inj} {hp' : List (Nat × Blk)} {nx' : Nat} {v : V} {x : Value} {dst : Option Tmp} (h : RelS w Z inj st a Ds) (hb : base≤st.nx) (e : Ext w Z inj st.hp w' Z' inj' hp' st.nx) (c : RelH w' Z' inj' hp' nx') (b : st.nx≤nx')
    (d : RelV w' Z' inj' nx' v x) (hd : Zx a.tmps.size dst = true) : Kl base w Z inj st a Ds ({sl:=st.sl,hp:=hp',nx:=nx' : AS}.putD dst v) (a.put dst x) w':=
  ⟨Z',inj',Ds,qwb h e c b d hd,by rw [Ye];exact e.pin_le hb,qlj _ _ _,by rw [Yf];exact Nat.le_trans hb b,fun _ h=>.inl h⟩
def Ub (P : Program) (F : Fence) (ops : Array Oper) (Q : Exit→Act→World→Prop) (o : Oper) (K : Act→World→Prop) (a : Act) (w : World) : Prop:=
  if Region.wanted o (yielded ops a.tmps) then o.wpIn F 0 P a w K Q else (∀ f,o.about P w a.eval = some f→F.fn f)∧K (a.put o.dst undef) w
theorem qgj {F : Fence} {ops : Array Oper} {Q : Exit→Act→World→Prop} {o : Oper} {K : Act→World→Prop} {i : Nat} (hi : ops[i]? = some o) (h : Ub P F ops Q o K a w) : wpOpIn F 0 P ops Q i K a w:=by
  unfold wpOpIn;rw [hi];exact h
def Jd (P : Program) (base : Nat) (ops : Array Oper) (o : Oper) (st st' : AS) : Prop:=
  ∀ (ro : Option Nat) (Q : Exit→Act→World→Prop) (w : World) (Z : Nat→Prop) (inj : Inj) (a : Act) (Ds : List Nat) (K : Act→World→Prop),RelS w Z inj st a Ds→Zx a.tmps.size o.dst = true→base≤st.nx→Y8 ro w→
    (∀ a' w',Kl base w Z inj st a Ds st' a' w'→K a' w')→Ub P (Fw ro) ops Q o K a w
theorem q39 {ops : Array Oper} {o : Oper} {b : Bool} (h : RelS w Z inj st a Ds) (c : Qo ops st o = some b) : Region.wanted o (yielded ops a.tmps) = b:=by
  unfold Qo at c
  unfold Region.wanted
  cases g : o.guard with
  | none=>rw [g] at c;simp at c;simp [c]
  | some jw=>
    obtain ⟨j,m⟩:=jw
    rw [g] at c
    simp only at c ⊢
    cases hd : (ops[j]?).bind (·.dst) with
    | none=>rw [hd] at c;simp at c
    | some t=>
      rw [hd] at c
      simp only at c
      unfold yielded
      rw [hd]
      split at c
      · rename_i n l
        obtain ⟨x,k,f⟩:=h.slots t _ l
        cases f with | d f=>
        cases f
        simp at c
        simp [k,c]
      · rename_i l
        obtain ⟨x,k,f⟩:=h.slots t _ l
        cases f with | d f=>
        cases f
        simp at c
        simp [k,← c]
      · simp at c
theorem qwd {nx : Nat} : RelV w Z inj nx (.d (.tup [])) undef:=.d (.tup qe qe)
theorem qjn {ops : Array Oper} {o : Oper} (b : Qo ops st o = some false) : Jd P base ops o st (st.putD o.dst (.d (.tup []))):=by
  intro ro Q w Z inj a Ds K h hd hb _ c
  unfold Ub
  rw [q39 h b]
  simp only [Bool.false_eq_true,if_false]
  exact ⟨fun _ _=>trivial,c _ _ (q3i h hb .refl h.heap (Nat.le_refl _) qwd hd)⟩
theorem ql7 {op : Op} {v : V} {st1 : AS} (a : opFn T st op = some (v,st1)) : ∀ c,op≠.defer c:=by
  rintro c rfl;simp [opFn] at a
theorem qeu {ops : Array Oper} {o : Oper} {v : V} {st1 : AS} (n : Yr P T) (p : Qo ops st o = some true) (f : opFn T st o.op = some (v,st1)) : Jd P base ops o st (st1.putD o.dst v):=by
  intro ro Q w Z inj a Ds K h hd hb _ l
  unfold Ub
  rw [q39 h p]
  simp only [if_true]
  refine ⟨fun _ _=>trivial,?_⟩
  rw [show (Fw ro).round = ro from rfl,Oper.semAt_eq ro _ o (ql7 f)]
  obtain ⟨x,w',inj',c,j,g,k,d,m⟩:=ql8 n h f
  obtain ⟨sl1,hp1,nx1⟩:=st1
  simp only at d m j g k;subst d
  have b:=q3i h hb k g m j hd
  rcases c with c | ⟨c,rfl⟩
  · rw [c];exact l _ _ b
  · rw [c];exact l _ _ b
def Jb (P : Program) (f : FuncId) (vs : List V) (hp : List (Nat × Blk)) (nx : Nat) (v : V) (hp' : List (Nat × Blk)) (nx' : Nat) : Prop:=
  (∀ (args : Array Value) (w : World),(callFunc f args).run P w = .ok (.enter f args) w)∧
  ∀ (w : World) (Z : Nat→Prop) (inj : Inj) (xs : Array Value),RelH w Z inj hp nx→LRel w Z inj nx vs xs→
    CallsIn (Fw none) 0 P f xs w (fun e w'=>∃ x Z' inj',e = .returned x∧RelH w' Z' inj' hp' nx'∧Ext w Z inj hp w' Z' inj' hp' nx∧RelV w' Z' inj' nx' v x∧nx≤nx')
theorem qdx {c : Call} {o : Oper} {f : FuncId} {x : List V} (h : RelS w Z inj st a Ds) (y : o.op = .call c) (j : callee st c = some (f,x)) (k : ∀ (args : Array Value) (w : World),(callFunc f args).run P w = .ok (.enter f args) w) :
    ∃ xs,(execOp a.eval o).run P w = .ok (.enter f xs) w∧LRel w Z inj st.nx x xs:=by
  obtain ⟨dst,op,type,pos,after,guard⟩:=o
  simp only at y;subst y
  obtain ⟨r,args,argTypes⟩:=c
  unfold callee at j
  simp only at j
  cases r <;> simp only [reduceCtorEq] at j
  rename_i g
  have app : ∀ {as b : List V} {xs ys : Array Value},LRel w Z inj st.nx as xs→LRel w Z inj st.nx b ys→LRel w Z inj st.nx (as ++ b) (xs ++ ys):=by
    intro as b xs ys l p
    refine ⟨by simp [l.1,p.1],fun i d c hd j=>?_⟩
    by_cases hi : i < as.length
    · rw [List.getElem?_append_left hi] at hd
      rw [Array.getElem?_append_left (by rw [← l.1];exact hi)] at j
      exact l.2 i d c hd j
    · rw [List.getElem?_append_right q0] at hd
      rw [Array.getElem?_append_right (by rw [← l.1];omega),← l.1] at j
      exact p.2 _ d c hd j
  have v : (args.toList.map a.eval).toArray = args.map a.eval:=by apply Array.ext';simp
  split at j <;> simp at j
  · rename_i f' b s t u
    obtain ⟨rfl,rfl⟩:=j
    have m:=K2 h t
    generalize n : a.eval g = gv at m
    cases m with | d m=>
    cases m with | @fn _ _ cs l p=>
    have q:=q8j h u
    rw [v] at q
    refine ⟨args.map a.eval ++ cs,?_,app q ⟨by simpa using l,fun i d c hd j=>?_⟩⟩
    · simp [execOp,resolve,n,Deferred.ofValue,invoke,k]
    · simp only [List.getElem?_map,Option.map_eq_some_iff] at hd
      obtain ⟨z,hd,rfl⟩:=hd
      exact .d (p i z c hd j)
  · rename_i f' b s t u
    obtain ⟨rfl,rfl⟩:=j
    have m:=K2 h t
    generalize n : a.eval g = gv at m
    cases m with | @fn _ _ cs l p=>
    have q:=q8j h u
    rw [v] at q
    refine ⟨args.map a.eval ++ cs,?_,app q ⟨l,p⟩⟩
    simp [execOp,resolve,n,Deferred.ofValue,invoke,k]
theorem qrm {ops : Array Oper} {o : Oper} {c : Call} {f : FuncId} {g : List V} {v : V} {hp' : List (Nat × Blk)} {nx' : Nat} (k : Qo ops st o = some true) (j : o.op = .call c) (q : callee st c = some (f,g))
    (b : Jb P f g st.hp st.nx v hp' nx') : Jd P base ops o st ({sl:=st.sl,hp:=hp',nx:=nx' : AS}.putD o.dst v):=by
  intro ro Q w Z inj a Ds K h hd hb _ m
  unfold Ub
  rw [q39 h k]
  simp only [if_true]
  refine ⟨fun _ _=>trivial,?_⟩
  obtain ⟨xs,p,r⟩:=qdx h j q b.1
  rw [show (Fw ro).round = ro from rfl,Oper.semAt_eq ro _ o (by rintro u d;rw [j] at d;cases d),p,Oper.uponIn_enter]
  refine ⟨fun h=>by simp [Fw] at h,?_⟩
  refine CallsIn.mono (b.2 w Z inj xs h.heap r) ?_
  rintro e w' ⟨x,Z',inj',rfl,s,l,t,n⟩
  exact m _ _ (q3i h hb l s n t hd)
theorem qjm {ops : Array Oper} {o : Oper} {c : Call} {f : FuncId} {vs : List V} {ds : List DV} {v : V} {hp' : List (Nat × Blk)} {nx' : Nat} {r' r : DV} (hg : Qo ops st o = some true) (ho : o.op = .call c) (hc : callee st c = some (f,vs))
    (ab : Kg st.hp vs = some ds) (g : Jb P f (ds.map .d) [] 0 v hp' nx') (u : toD hp' 8 v = some r') (y : DLe r' r) (hs : vs.all V.isD = true∨r.scalar = true) : Jd P base ops o st (st.putD o.dst (.d r)):=by
  intro ro Q w Z inj a Ds K h hd hb _ hK
  unfold Ub
  rw [q39 h hg]
  simp only [if_true]
  refine ⟨fun _ _=>trivial,?_⟩
  obtain ⟨xs,hr,hl⟩:=qdx h ho hc g.1
  rw [show (Fw ro).round = ro from rfl,Oper.semAt_eq ro _ o (by rintro c' h';rw [ho] at h';cases h'),hr,Oper.uponIn_enter]
  refine ⟨fun h=>by simp [Fw] at h,?_⟩
  have j : ∀ (i : Inj) b,¬ im ([] : List (Nat × Blk)) i b:=by rintro i b ⟨n,blk,o,k,_⟩;simp [find] at k
  have keep : ∀ {Z0 : Nat→Prop} {w' : World} {Z' : Nat→Prop} {inj' : Inj},Ext w Z0 inj [] w' Z' inj' hp' 0→∀ b,b < w.heap.size→w'.heap[b]? = w.heap[b]?:=fun e b hb=>e.keep b hb (j _ b)
  have back : ∀ {Z0 : Nat→Prop} {w' : World} {Z' : Nat→Prop} {inj' : Inj} (q : Nat→Prop),Ext w Z0 inj [] w' Z' inj' hp' 0→(∀ b,Z b→q b)→(∀ b,q b→Z b∨w.heap.size≤b)→(∀ b,q b→∃ c e f,w'.heap[b]? = some (.cells c e f))→
      RelH w' q inj st.hp st.nx∧Ext w Z inj st.hp w' q inj st.hp st.nx:=by
    intro Z0 w' Z' inj' q e aa z t
    have hk:=keep e
    have hE : Ext w Z inj st.hp w' q inj st.hp st.nx:=⟨e.size,fun b hb _=>hk b hb,fun _ h=>.inl h,e.big,e.loops,aa,fun b hb=>(z b hb).elim .inl (fun h=>.inr (.inr h)),fun _ _=>rfl,e.tape,e.os,e.output,e.frz⟩
    refine ⟨⟨fun n b hn=>?_,h.heap.sep,?_,?_,t⟩,hE⟩
    · obtain ⟨k,h2⟩:=h.heap.blk n b hn
      refine ⟨k,h2.mono (hE.zkeep h.heap) aa e.big (fun _ _=>rfl) (Nat.le_refl _) k fun p hp ak=>hk _ (h.heap.im_lt ⟨n,b,p.2,hn,ak,hp⟩)⟩
    · intro n b p k h2 h3 hz
      rcases z _ hz with h4 | h4
      · exact h.heap.out n b p k h2 h3 h4
      · have:=h.heap.im_lt (b:=p.1) ⟨n,b,p.2,k,h2,h3⟩;omega
    · intro b hb
      obtain ⟨c,e',f',hc⟩:=t b hb
      exact Zw hc
  rcases hs with hs | hs
  ·
    have h0 : RelH w Z inj [] 0:=⟨fun _ _ h=>by simp [find] at h,fun _ _ _ _ _ _ h=>by simp [find] at h,fun _ _ _ h=>by simp [find] at h,h.heap.zs,h.heap.zc⟩
    refine CallsIn.mono (g.2 w Z inj xs h0 (qsl ab hs hl inj)) ?_
    rintro e w' ⟨x,Z',inj',rfl,hh,l,hv,hn⟩
    have hD:=(qb0 hh 8 u hv).le y
    obtain ⟨s,m⟩:=back (zAll w' Z' inj' hp') l (fun b hb=>.inl (l.zin b hb))
      (fun b hb=>by
        rcases hb with hb | ⟨hb,_⟩
        · rcases l.zout b hb with h | h | h
          · exact .inl h
          · exact absurd h (j _ _)
          · exact .inr h
        · rcases l.imm b hb with h | h
          · exact absurd h (j _ _)
          · exact .inr h)
      (fun b hb=>by
        rcases hb with hb | ⟨_,hb⟩
        · exact hh.zc b hb
        · exact hb)
    exact hK _ _ (q3i h hb m s (Nat.le_refl _) (.d hD) hd)
  ·
    have h0 : RelH w (zAll w Z inj st.hp) inj [] 0:=⟨fun _ _ h=>by simp [find] at h,fun _ _ _ _ _ _ h=>by simp [find] at h,fun _ _ _ h=>by simp [find] at h,
      fun b hb=>by
        rcases hb with hb | ⟨hb,_⟩
        · exact h.heap.zs b hb
        · exact h.heap.im_lt hb,
      fun b hb=>by
        rcases hb with hb | ⟨_,hb⟩
        · exact h.heap.zc b hb
        · exact hb⟩
    refine CallsIn.mono (g.2 w _ inj xs h0 (qsm h.heap ab hl inj)) ?_
    rintro e w' ⟨x,Z',inj',rfl,hh,l,hv,hn⟩
    have hD:=(qb0 hh 8 u hv).le y
    obtain ⟨s,m⟩:=back Z l (fun _ h=>h) (fun _ h=>.inl h) (fun b hb=>by rw [keep l b (h.heap.zs b hb)];exact h.heap.zc b hb)
    exact hK _ _ (q3i h hb m s (Nat.le_refl _) (.d (qwp hD hs)) hd)
end
end Go.Am
