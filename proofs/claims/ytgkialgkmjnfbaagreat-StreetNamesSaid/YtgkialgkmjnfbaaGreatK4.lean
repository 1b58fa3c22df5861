/- Am16m Am16n Am17 Am18 Am19 -/
import Derived.Test.YtgkialgkmjnfbaaGreatK3
import Derived.RangeFuncRecord
import Derived.RangeFuncNested
namespace Go.Am
open Go
variable {P : Program} {T : Tab}
def qbq (P : Program) (em : Bool) (k : Nat) (t : TypeId) (desc : TypeDesc) (n : Nat) : Prop:=
  ∀ w,(Kn desc = true→∀ X : Array Value,X.size = n→(Instr.checkKey em k t (.agg X)).run P w = .ok () w)∧(Kn desc = false→n = 1∧∀ x,(Instr.checkKey em k t x).run P w = .ok () w)
theorem qig {d : Bool} {k : Nat} {t : TypeId} {desc : TypeDesc} {b : TypeInfo} {n : Nat} (h : qbq P d k t desc n) (f : P.underlying t = some desc) (hi : P.info? t = some b) (hs : b.size = n) {X : Array Value} {o : Nat} (j : o + n≤X.size) (w : World) :
    ∃ v,(part t X o).run P w = .ok v w∧(Instr.checkKey d k t v).run P w = .ok () w:=by
  obtain ⟨e1,c⟩:=h w
  cases a : Kn desc with
  | true=>exact ⟨.agg (X.extract o (o + n)),by simp [part,q3n f,a,Zq hi,hs],e1 a _ (by simp;omega)⟩
  | false=>
    obtain ⟨l,c⟩:=c a;obtain ⟨x,g⟩:=Y1 (xs:=X) (i:=o) q8;exact ⟨x,by simp [part,q3n f,a,g],c x⟩
def qeg (em : Bool) (k : Nat) (X : Array Value) (f : Field) (_s : PUnit) : Sem (ForInStep PUnit):=
  if f.name ≠ "_" then do
    let __do_lift ← part f.type X f.offset
    Instr.checkKey em k f.type __do_lift
    pure (ForInStep.yield PUnit.unit)
  else pure (ForInStep.yield PUnit.unit)
theorem qod {d : Nat} {t : TypeId} {ks : List (Option IntKind)} (h : Kz P d t = some ks) : ∃ a,P.underlying t = some a:=by
  cases b : P.underlying t with
  | none=>cases d <;> simp [Kz,b] at h
  | some a=>exact ⟨a,rfl⟩
theorem qc4 (h : Bool) (d k : Nat) (n : ∀ t desc ks,P.underlying t = some desc→Kz P d t = some ks→qbq P h k t desc ks.length) (X : Array Value) (w : World) : ∀ (l : List Field) (o : Nat) (ks : List (Option IntKind)),
    tile P (Kz P d) o l = some ks→o + ks.length≤X.size→(forIn l PUnit.unit (qeg h k X) : Sem PUnit).run P w = .ok PUnit.unit w
  | [],_,_,_,_=>by simp
  | f::l,o,ks,ht,hl=>by
    simp only [tile] at ht
    cases a : Kz P d f.type with
    | none=>simp [a] at ht
    | some ka=>
      simp only [a] at ht
      split at ht <;> try simp at ht
      rename_i b
      obtain ⟨rfl,r,u⟩:=b
      cases c : tile P (Kz P d) (f.offset + ka.length) l with
      | none=>simp [c] at ht
      | some kb=>
        simp only [c,Option.some.injEq] at ht;subst ht
        simp only [List.length_append] at hl
        obtain ⟨p,g⟩:=qod a
        obtain ⟨x,j,m⟩:=qdq g
        obtain ⟨v,q,s⟩:=qig (n f.type p ka g a) g j q8 (X:=X) (o:=f.offset) q8 w
        have:=qc4 h d k n X w l (f.offset + ka.length) kb c q8
        rw [List.forIn_cons]
        simp only [qeg,qu r,Sem.run_bind,q,s,Result.andThen_ok]
        simpa using this
def qeh (em : Bool) (k : Nat) (e : TypeId) (X : Array Value) (i : Nat) (_s : PUnit) : Sem (ForInStep PUnit):=do
  let __do_lift ← sizeOf e
  let __do_lift ← part e X (i * __do_lift)
  Instr.checkKey em k e __do_lift
  pure (ForInStep.yield PUnit.unit)
theorem qif {c : Bool} {k : Nat} {e : TypeId} {desc : TypeDesc} {a : TypeInfo} {n : Nat} (b : qbq P c k e desc n) (d : P.underlying e = some desc) (hi : P.info? e = some a) (hs : a.size = n) {X : Array Value} (w : World) :
    ∀ (m s : Nat),(s + m) * n≤X.size→(forIn (List.range' s m) PUnit.unit (qeh c k e X) : Sem PUnit).run P w = .ok PUnit.unit w
  | 0,s,_=>by simp
  | m + 1,s,hl=>by
    have e1 : s * n + n = (s + 1) * n:=by rw [Nat.add_mul];simp
    have h : (s + (m + 1)) * n = (s + 1) * n + m * n:=by rw [← Nat.add_mul];congr 1;omega
    obtain ⟨v,f,g⟩:=qig b d hi hs (X:=X) (o:=s * n) q8 w
    have:=qif b d hi hs w m (s + 1) (X:=X) (by rw [Nat.add_mul (s + 1)];omega)
    rw [List.range'_succ,List.forIn_cons]
    simp only [qeh,Sem.run_bind,Zq hi,hs,f,g,Result.andThen_ok]
    simpa using this
theorem qei (f : Bool) : ∀ (d : Nat) (t : TypeId) (desc : TypeDesc) (ks : List (Option IntKind)),P.underlying t = some desc→Kz P d t = some ks→∀ k,d≤k→qbq P f k t desc ks.length
  | 0,t,desc,ks,hu,hp,k,hk=>by simp [Kz] at hp
  | d + 1,t,desc,ks,hu,hp,k,hk=>by
    obtain ⟨k,rfl⟩ : ∃ q,k = q + 1:=⟨k - 1,q8⟩
    intro w
    simp only [Kz,hu] at hp
    cases desc <;> simp only [reduceCtorEq,Option.some.injEq] at hp
    case bool=>subst hp;exact ⟨by simp [Kn],fun _=>⟨rfl,fun x=>by unfold Instr.checkKey;simp [run_underlying hu]⟩⟩
    case int k0=>subst hp;exact ⟨by simp [Kn],fun _=>⟨rfl,fun x=>by unfold Instr.checkKey;simp [run_underlying hu]⟩⟩
    case struct fs=>
      refine ⟨fun _ X m=>?_,by simp [Kn]⟩
      split at hp
      · simp at hp
      · have:=qc4 (P:=P) f d k (fun t desc ks p l=>qei f d t desc ks p l k q8) X w fs.toList 0 ks hp q8
        rw [Array.forIn_toList] at this
        unfold qeg at this
        unfold Instr.checkKey
        simp only [Sem.run_bind,run_underlying hu,Result.andThen_ok]
        rw [this]
        simp
    case array n e=>
      refine ⟨fun _ X m=>?_,by simp [Kn]⟩
      cases b : Kz P d e with
      | none=>simp [b] at hp
      | some a=>
        simp only [b] at hp
        split at hp
        · rename_i r
          simp only [Option.some.injEq] at hp;subst hp
          obtain ⟨o,c⟩:=qod b
          obtain ⟨s,g,j⟩:=qdq c
          have h : (List.replicate n a).flatten.length = n * a.length:=by simp
          have:=qif (qei f d e o a c b k q8) c g q8 w n 0 (X:=X) (by rw [Nat.zero_add];omega)
          unfold Instr.checkKey
          simp only [Sem.run_bind,run_underlying hu,Result.andThen_ok,Std.Legacy.Range.forIn_eq_forIn_range',Std.Legacy.Range.size,Nat.sub_zero,Nat.add_sub_cancel,Nat.div_one]
          unfold qeh at this
          rw [this]
          simp
        · simp at hp
section
variable {w w' : World} {Z : Nat→Prop} {inj : Inj}
theorem qcb {d : DV} {v : Value} (h : RelD w Z d v) : DRel w Z [d] #[v]:=⟨rfl,fun i x y a b=>by
  cases i with
  | zero=>simp at a b;subst a b;exact h
  | succ i=>simp at a⟩
theorem q87 {d : DV} {v : Value} (h : RelD w Z d v) (b : Ys d = true) : ∃ cs,v = .agg cs∧DRel w Z (cellsD d) cs:=by
  cases h <;> simp [Ys] at b
  rename_i ds cs a c;exact ⟨cs,rfl,a,c⟩
theorem q5o {d : DV} (a : Ys d = false) : cellsD d = [d]:=by cases d <;> simp_all [Ys,cellsD]
theorem qki {d : TypeId} {desc : TypeDesc} {ks : List (Option IntKind)} (k : P.underlying d = some desc) (hp : Kz P 8 d = some ks) {a b : DV} {u v : Value} (h : RelD w Z a u) (hb : RelD w Z b v)
    (g : Ys a = Kn desc) (j : Ys b = Kn desc) {r : Bool} (f : Ke ks (cellsD a) (cellsD b) = some r) : (Op.equal d u v).run P w = .ok r w:=by
  have key:=qcf (P:=P) (w:=w) (Z:=Z) 8 d desc ks k hp Op.maxDepth (by unfold Op.maxDepth;omega)
  cases c : Kn desc with
  | true=>
    obtain ⟨X,rfl,l⟩:=q87 h (g.trans c);obtain ⟨Y,rfl,m⟩:=q87 hb (j.trans c);exact (key _ _ _ _ r l m f).1 c
  | false=>
    rw [q5o (g.trans c),q5o (j.trans c)] at f;exact ((key _ _ _ _ r (qcb h) (qcb hb) f).2 c).2 u v rfl rfl
theorem qgo {h : TypeId} {desc : TypeDesc} {ks : List (Option IntKind)} (l : P.underlying h = some desc) (hp : Kz P 8 h = some ks) {a b : DV} {u v : Value} (j : RelD w Z a u) (hb : RelD w Z b v) (f : Kn desc = false)
    {r : Bool} (c : Ke ks [a] [b] = some r) : Instr.sameNow desc u v = some r:=by
  simp only [Kz,l] at hp;cases desc <;> simp only [reduceCtorEq,Option.some.injEq] at hp <;> try (simp [Kn] at f;done)
  case bool=>
    subst hp;simp only [Ke] at c;cases a <;> cases b <;> simp only [Jr,reduceCtorEq] at c
    simp at c;subst c;cases j;cases hb;rfl
  case int k0=>
    subst hp;simp only [Ke] at c;cases a <;> cases b <;> simp only [Jr,reduceCtorEq] at c
    split at c <;> simp at c
    rename_i d k;split at d <;> simp at d
    rename_i g;obtain ⟨rfl,rfl⟩:=g;subst d c;simp at k;subst k;cases j;cases hb;simp [Instr.sameNow]
def q1k {α : Type} (w : World) (Z : Nat→Prop) (es : List (DV × α)) (ents : List MapEntry) : Prop:=
  ents.length = es.length∧∀ (i : Nat) (e : DV × α) (x : MapEntry),es[i]? = some e→ents[i]? = some x→RelD w Z e.1 x.key
theorem q1k.tail {α : Type} {e : DV × α} {es : List (DV × α)} {x : MapEntry} {a : List MapEntry} (h : q1k w Z (e::es) (x::a)) : RelD w Z e.1 x.key∧q1k w Z es a:=
  ⟨h.2 0 e x rfl rfl,by simpa using h.1,fun i d f c b=>h.2 (i + 1) d f (by simpa using c) (by simpa using b)⟩
theorem qf2 {α : Type} {n : TypeId} {desc : TypeDesc} {ks : List (Option IntKind)} (g : P.underlying n = some desc) (hp : Kz P 8 n = some ks) {a : DV} {u : Value} (j : RelD w Z a u) (f : Kn desc = false) :
    ∀ (es : List (DV × α)) (d : List MapEntry) (s : Nat) (r : Option Nat),q1k w Z es d→Za false ks a es = some r→Instr.findNow desc u d s = some (r.bind fun i=>(d[i]?).map fun x=>(s + i,x.val))
  | [],[],s,r,_,hm=>by simp only [Za,Option.some.injEq] at hm;subst hm;rfl
  | [],x::d,_,_,h,_=>by have:=h.1;simp at this
  | e::es,[],_,_,h,_=>by have:=h.1;simp at this
  | (b,c)::es,x::d,s,r,h,hm=>by
    obtain ⟨l,m⟩:=h.tail
    simp only [Za] at hm
    split at hm <;> try simp at hm
    rename_i hk
    rw [q5o hk.1,q5o hk.2] at hm
    split at hm <;> try simp at hm
    · rename_i k
      subst hm
      simp [Instr.findNow,qgo g hp j l f k]
    · rename_i k
      split at hm <;> simp at hm
      · rename_i i hi
        subst hm
        have:=qf2 g hp j f es d (s + 1) _ m hi
        simp only [Instr.findNow,qgo g hp j l f k,this]
        simp [Nat.add_comm,Nat.add_left_comm]
      · rename_i hi
        subst hm
        have:=qf2 g hp j f es d (s + 1) _ m hi
        simp only [Instr.findNow,qgo g hp j l f k,this]
        rfl
theorem qf1 {α : Type} {k : TypeId} {desc : TypeDesc} {ks : List (Option IntKind)} (g : P.underlying k = some desc) (hp : Kz P 8 k = some ks) {a : DV} {u : Value} (j : RelD w Z a u) (f : Kn desc = true) :
    ∀ (es : List (DV × α)) (d : List MapEntry) (s : Nat) (r : Option Nat),q1k w Z es d→Za true ks a es = some r→(Instr.findAsking k u d s).run P w = .ok (r.bind fun i=>(d[i]?).map fun x=>(s + i,x.val)) w
  | [],[],s,r,_,hm=>by simp only [Za,Option.some.injEq] at hm;subst hm;simp [Instr.findAsking]
  | [],x::d,_,_,h,_=>by have:=h.1;simp at this
  | e::es,[],_,_,h,_=>by have:=h.1;simp at this
  | (b,c)::es,x::d,s,r,h,hm=>by
    obtain ⟨o,m⟩:=h.tail
    simp only [Za] at hm
    split at hm <;> try simp at hm
    rename_i hk
    split at hm <;> try simp at hm
    · rename_i l
      subst hm
      simp [Instr.findAsking,qki g hp j o (hk.1.trans f.symm) (hk.2.trans f.symm) l]
    · rename_i l
      have n:=qki g hp j o (hk.1.trans f.symm) (hk.2.trans f.symm) l
      split at hm <;> simp at hm
      · rename_i i hi
        subst hm
        have:=qf1 g hp j f es d (s + 1) _ m hi
        simp only [Instr.findAsking,Sem.run_bind,n,Result.andThen_ok,Bool.false_eq_true,if_false,this]
        simp [Nat.add_comm,Nat.add_left_comm]
      · rename_i hi
        subst hm
        have:=qf1 g hp j f es d (s + 1) _ m hi
        simp only [Instr.findAsking,Sem.run_bind,n,Result.andThen_ok,Bool.false_eq_true,if_false,this]
        rfl
theorem qst {α : Type} {g : TypeId} {desc : TypeDesc} {ks : List (Option IntKind)} (d : P.underlying g = some desc) (hp : Kz P 8 g = some ks) {a : DV} {u : Value} (j : RelD w Z a u) (l : Ys a = Kn desc)
    {es : List (DV × α)} {b : List MapEntry} {r : Option Nat} (h : q1k w Z es b) (f : Za (Kn desc) ks a es = some r) : (Instr.findKey g u b).run P w = .ok (r.bind fun i=>(b[i]?).map fun x=>(i,x.val)) w:=by
  cases c : Kn desc with
  | false=>
    rw [c] at f;have:=qf2 d hp j c es b 0 r h f;simp only [Nat.zero_add] at this;simp only [Instr.findKey,Sem.run_bind,run_underlying d,Result.andThen_ok,this];simp
  | true=>
    rw [c] at f;have:=qf1 d hp j c es b 0 r h f;simp only [Nat.zero_add] at this
    cases b with
    | nil=>
      rw [← this];simp [Instr.findKey,run_underlying d,Instr.findNow,Instr.findAsking]
    | cons e es=>
      have k : Instr.findNow desc u (e::es) 0 = none:=by
        cases desc <;> simp [Kn] at c <;> simp [Instr.findNow,Instr.sameNow]
      simp only [Instr.findKey,Sem.run_bind,run_underlying d,Result.andThen_ok,k];exact this
theorem qee : ∀ {ks : List (Option IntKind)} {xs ys : List DV} {X Y : List Value},Ke ks xs ys = some true→(X.length = xs.length)→(Y.length = ys.length)→
    (∀ (i : Nat) (d : DV) (c : Value),xs[i]? = some d→X[i]? = some c→RelD w Z d c)→(∀ (i : Nat) (d : DV) (c : Value),ys[i]? = some d→Y[i]? = some c→RelD w Z d c)→∀ n,X.length = Y.length∧(Y.zip X).all (fun (x,y)=>Instr.sameBits n x y) = true
  | [],[],[],[],[],_,_,_,_,_,n=>⟨rfl,rfl⟩
  | [],[],[],_::_,_,_,h,_,_,_,_=>by simp at h
  | [],[],[],[],_::_,_,_,h,_,_,_=>by simp at h
  | [],[],_::_,_,_,h,_,_,_,_,_=>by simp [Ke] at h
  | [],_::_,_,_,_,h,_,_,_,_,_=>by simp [Ke] at h
  | _::_,[],_,_,_,h,_,_,_,_,_=>by simp [Ke] at h
  | _::_,_::_,[],_,_,h,_,_,_,_,_=>by simp [Ke] at h
  | k::ks,a::xs,b::ys,[],_,_,h,_,_,_,_=>by simp at h
  | k::ks,a::xs,b::ys,_::_,[],_,_,h,_,_,_=>by simp at h
  | k::ks,a::xs,b::ys,x::X,y::Y,h,l1,l2,r1,r2,n=>by
    simp only [Ke] at h
    split at h <;> simp at h
    rename_i p q hp m
    obtain ⟨rfl,rfl⟩:=h
    obtain ⟨e1,o⟩:=qee m (by simpa using l1) (by simpa using l2) (fun i d c hd g=>r1 (i + 1) d c (by simpa using hd) (by simpa using g)) (fun i d c hd g=>r2 (i + 1) d c (by simpa using hd) (by simpa using g)) n
    have j:=r1 0 a x rfl rfl
    have l:=r2 0 b y rfl rfl
    refine ⟨by simp [e1],?_⟩
    simp only [List.zip_cons_cons,List.all_cons,o,Bool.and_true]
    cases k with
    | none=>
      cases a <;> cases b <;> simp only [Jr,reduceCtorEq] at hp
      simp at hp;subst hp
      cases j;cases l;cases n <;> simp [Instr.sameBits]
    | some k=>
      cases a <;> cases b <;> simp only [Jr,reduceCtorEq] at hp
      split at hp <;> simp at hp
      rename_i f
      obtain ⟨rfl,rfl⟩:=f
      subst hp
      cases j;cases l;cases n <;> simp [Instr.sameBits]
theorem qtv {ks : List (Option IntKind)} {ag : Bool} {a b : DV} {u v : Value} (l : RelD w Z a u) (hb : RelD w Z b v) (k : Ys a = ag) (m : Ys b = ag) (j : Ke ks (cellsD a) (cellsD b) = some true) :
    (Instr.keyThatStays v u).run P w = .ok u w:=by
  have hs : Instr.sameBits 10000 v u = true:=by
    cases ag with
    | true=>
      obtain ⟨X,rfl,g,f⟩:=q87 l k;obtain ⟨Y,rfl,n,o⟩:=q87 hb m;obtain ⟨e1,p⟩:=qee (X:=X.toList) (Y:=Y.toList) j (by simpa using g.symm) (by simpa using n.symm) (fun i d c hd h=>f i d c hd (by simpa using h)) (fun i d c hd h=>o i d c hd (by simpa using h)) 9999;have q : (Y.size == X.size) = true:=by simp at e1;simp [e1]
      show (Y.size == X.size && (Y.toList.zip X.toList).all fun (x,y)=>Instr.sameBits 9999 x y) = true;grind
    | false=>
      rw [q5o k,q5o m] at j;have:=(qee (X:=[u]) (Y:=[v]) j rfl rfl (fun i d c g f=>(qcb l).2 i d c g (by simpa using f)) (fun i d c g f=>(qcb hb).2 i d c g (by simpa using f)) 10000).2;simp_all
  simp [Instr.keyThatStays,hs]
end
theorem qjz {w : World} {a : Addr} (h : ∀ c e f,w.heap[a.block]?≠some (.cells c e f)) : w.frozen? a = false:=by
  unfold World.frozen?;grind
theorem qf6 {w : World} {b : Nat} {o : Obj} (h : ∀ c e f,w.heap[b]?≠some (.cells c e f)) (g : ∀ c e f,o≠.cells c e f) (a : Addr) : (w.putObj b o).frozen? a = w.frozen? a:=by
  by_cases hb : a.block = b
  · subst hb;rw [qjz h,qjz];intro c e f;by_cases d : a.block < w.heap.size
    · rw [World.putObj_heap_same d];intro j;exact g _ _ _ (Zl j)
    simp_all
  · simp only [World.frozen?,World.putObj_heap_other hb]
theorem Jv {w : World} {b : Nat} {es : Array MapEntry} {cl : Nat} (hb : w.heap[b]? = some (.map es cl)) : (getObj b).run P w = .ok (.map es cl) w:=by simp [getObj,Sem.run,hb]
theorem qni {w : World} {b : Nat} {es : Array MapEntry} {cl : Nat} (o : Obj) (hb : w.heap[b]? = some (.map es cl)) : (setObj b o).run P w = .ok () (w.putObj b o):=by simp [setObj,Sem.run,hb,World.putObj]
section
variable {w : World} {Z : Nat→Prop} {inj : Inj} {hp : List (Nat × Blk)} {nx pin : Nat}
theorem qmu (h : RelH w Z inj hp nx) {n : Nat} {b0 blk : Blk} (r : find hp n = some b0) (t : live b0 = true) {b : Nat} (hi : inj n = some (b,0)) {o u : Obj} (hb : w.heap[b]? = some o) (ho : qcs o = true) (ah : qcs u = true)
    (ab : RelB (w.putObj b u) Z inj nx n blk) : RelH (w.putObj b u) Z inj (repl hp n blk) nx∧Ext w Z inj hp (w.putObj b u) Z inj (repl hp n blk) pin:=by
  have a : ∀ k,k≠b→(w.putObj b u).heap[k]? = w.heap[k]?:=fun k hk=>World.putObj_heap_other hk;have ak : ¬ Z b:=fun hz=>h.out n b0 _ r t hi hz
  have g : J3 w (w.putObj b u):=fun k c e f hk=>by
    by_cases g : k = b
    · subst g;rw [hb] at hk;cases hk;cases ho
    · exact ⟨c,e,f,(a k g).trans hk,rfl⟩
  have hz : ∀ k,Z k→(w.putObj b u).heap[k]? = w.heap[k]?:=fun k hk=>a k (fun e=>ak (e ▸ hk))
  have d : ∀ m c,find (repl hp n blk) m = some c→(m = n∧c = blk)∨(m≠n∧find hp m = some c):=by
    intro m c hm;rw [Kx] at hm;grind
  have z : ∀ k,im (repl hp n blk) inj k→im hp inj k:=by
    rintro k ⟨m,c,q,h1,y,l⟩;rcases d m c h1 with ⟨rfl,rfl⟩ | ⟨_,s⟩
    · exact ⟨m,_,q,r,t,l⟩
    · exact ⟨m,c,q,s,y,l⟩
  refine ⟨⟨?_,?_,?_,?_,?_⟩,⟨qd,?_,fun k hk=>.inl (z k hk),g,?_,fun _ h=>h,fun _ h=>.inl h,fun _ _=>rfl,rfl,rfl,rfl,qf6 (fun _ _ _ e=>by rw [hb] at e;cases e;cases ho) (fun _ _ _ e=>by subst e;cases ah)⟩⟩
  · intro m c hm;rcases d m c hm with ⟨rfl,rfl⟩ | ⟨j,s⟩
    · exact ⟨(h.blk _ _ r).1,ab⟩
    · obtain ⟨v,h6⟩:=h.blk m c s;exact ⟨v,h6.mono hz (fun _ h=>h) g (fun _ _=>rfl) (Nat.le_refl _) v fun p hp aj=>a _ fun e=>h.sep m n c _ p (b,0) s r aj t hp hi j e⟩
  · intro m m' c c' p q h1 y l s v h6 j;rcases d m c h1 with ⟨rfl,rfl⟩ | ⟨e1,k1⟩ <;> rcases d m' c' y with ⟨rfl,rfl⟩ | ⟨e2,k2⟩
    · omega
    · exact h.sep _ _ _ _ p q r k2 t s v h6 j
    · exact h.sep _ _ _ _ p q k1 r l t v h6 j
    · exact h.sep _ _ _ _ p q k1 k2 l s v h6 j
  · intro m c p h1 y l;rcases d m c h1 with ⟨rfl,rfl⟩ | ⟨e1,k1⟩
    · exact h.out _ _ p r t l
    · exact h.out _ _ p k1 y l
  · intro k hk;simpa using h.zs k hk
  · intro k hk;rw [hz k hk];exact h.zc k hk
  · intro k _ hk;exact a k fun e=>hk ⟨n,_,0,r,t,e ▸ hi⟩
  · intro k x hk;by_cases g : k = b
    · subst g;rw [hb] at hk;cases hk;cases ho
    · exact ⟨x,(a k g).trans hk,rfl⟩
theorem qz2 (h : RelH w Z inj hp nx) {n : Nat} {o : Bool} {es l d : List (DV × V)} (s : find hp n = some (.mp o es)) {b : Nat} (hi : inj n = some (b,0)) {p a : Array MapEntry} {cl g : Nat} (hb : w.heap[b]? = some (.map p cl))
    (y : d.Perm l) (t : o = true→d = l) (h3 : Jm d) (v : q46 a g) (z : a.size = d.length)
    (h6 : ∀ (i : Nat) (e : DV × V) (x : MapEntry),d[i]? = some e→a[i]? = some x→RelD w Z e.1 x.key∧RelV w Z inj nx e.2 x.val∧Kh e.2 = true) :
    RelH (w.putObj b (.map a g)) Z inj (repl hp n (.mp o l)) nx∧Ext w Z inj hp (w.putObj b (.map a g)) Z inj (repl hp n (.mp o l)) pin:=by
  refine qmu h s rfl hi hb rfl rfl ?_;have r : ¬ Z b:=fun q=>h.out n _ _ s rfl hi q;have j : ∀ k,k≠b→(w.putObj b (.map a g)).heap[k]? = w.heap[k]?:=fun k hk=>World.putObj_heap_other hk;have q : ∀ k,Z k→(w.putObj b (.map a g)).heap[k]? = w.heap[k]?:=fun k hk=>j k (fun e=>r (e ▸ hk))
  have m : J3 w (w.putObj b (.map a g)):=fun k c e f hk=>by
    by_cases m : k = b
    · subst m;rw [hb] at hk;cases hk
    · exact ⟨c,e,f,(j k m).trans hk,rfl⟩
  refine ⟨b,a,g,d,hi,World.putObj_heap_same (J1 hb),y,t,h3,v,z,fun i e x he hx=>?_⟩;obtain ⟨g1,u,g3⟩:=h6 i e x he hx;exact ⟨g1.mono q (fun _ h=>h),u.mono q (fun _ h=>h) m (fun _ _=>rfl) (Nat.le_refl _),g3⟩
end
section
variable {w : World} {Z : Nat→Prop} {inj : Inj} {st : AS} {a : Act} {Ds : List Nat}
theorem qws {t : TypeId} (h : RelS w Z inj st a Ds) : Kt st (st.new (.mp true [])) (.mp st.nx) w Z inj ((do pure (Next.value (← Instr.makeMap t none)) : Sem Next).run P w):=by
  refine .new (o:=.map #[] 0) (x:=.map (some w.heap.size)) h ?_ ?_ (.mp q8 (Y6 _ _ _))
  · simp [Instr.makeMap]
  · exact ⟨w.heap.size,#[],0,[],Y6 _ _ _,Jb w _,.refl _,fun _=>rfl,⟨qd,false,[],qd⟩,⟨rfl,qd⟩,rfl,qd⟩
theorem q5r {α : Type} {t : TypeId} {i : TI} {ks : List (Option IntKind)} {es : List (DV × α)} {b : List MapEntry} {g : DV} {o : Value} {r : Option Nat} (ht : tiOf P t = some i) (hk : i.keys = some ks)
    (hE : q1k w Z es b) (l : RelD w Z g o) (j : Yk i.eagg ks g = true) (y : Za i.eagg ks g es = some r) :
    ∃ f u,P.underlying t = some (.map f u)∧(∀ p,(Instr.checkKey p 10000 f o).run P w = .ok () w)∧
      (Instr.findKey f o b).run P w = .ok (r.bind fun i=>(b[i]?).map fun x=>(i,x.val)) w∧∃ m n,i.ezero = [m]∧(zeroValue u).run P w = .ok n w∧RelD w Z m n:=by
  obtain ⟨ad,d,z,k⟩:=Yp ht;have c:=k.kind;unfold Zm at c;rw [k.keys ks hk] at c;obtain ⟨f,e,ie,n,m,ae,dk,rfl,g1,g2,g3,v,g5,s,g7,g8,_⟩:=c;rw [hk] at s;cases s
  have a : Ys g = i.eagg∧(cellsD g).length = ks.length:=by
    have:=q5n.1 j;exact ⟨this.1,qkl this.2⟩
  obtain ⟨a,h⟩:=a;rw [g8] at a y;refine ⟨f,e,k.und,fun p=>?_,?_,m,n,g7,?_,(qen g3).1⟩
  · have hc:=qei p 8 f dk ks g5 v 10000 q8 w
    cases q : Kn dk with
    | true=>
      obtain ⟨X,rfl,hX⟩:=q87 l (a.trans q);exact (hc.1 q) X (hX.1.symm.trans h)
    | false=>exact (hc.2 q).2 o
  · exact qst g5 v l a hE y
  · simp [zeroValue,typeInfo,g1,g2]
theorem qfj {b : Bool} {ok : Bool} {v : V} {u : Value} (f : RelV w Z inj st.nx v u) : RelV w Z inj st.nx (bif ok then okV (v,b) else v) (if ok then .tuple #[u,.bool b] else u):=by
  cases ok with
  | false=>exact f
  | true=>
    show RelV w Z inj st.nx (okV (v,b)) (.tuple #[u,.bool b])
    have g : RelV w Z inj st.nx (.tup [v,.d (.bool b)]) (.tuple #[u,.bool b]):=by
      refine .tup rfl fun i d c hd a=>?_
      match i,hd,a with
      | 0,hd,a=>simp at hd a;subst hd a;exact f
      | 1,hd,a=>simp at hd a;subst hd a;exact .d (.bool _)
      | i + 2,hd,_=>simp at hd
    unfold okV;split
    · rename_i x j h;cases h
      cases f with | d f=>
      refine .d (.tup rfl fun i d c hd a=>?_)
      match i,hd,a with
      | 0,hd,a=>simp at hd a;subst hd a;exact f
      | 1,hd,a=>simp at hd a;subst hd a;exact .bool _
      | i + 2,hd,_=>simp at hd
    · rename_i k j _ h;cases h;exact g
theorem qwo {t : TypeId} {x y : Operand} {ok : Bool} {i : TI} {ks : List (Option IntKind)} {n : Nat} {o : Bool} {es : List (DV × V)} {r z : DV} {e : V × Bool} (h : RelS w Z inj st a Ds) (ht : tiOf P t = some i) (hk : i.keys = some ks) (hx : st.ev x = some (.mp n)) (hy : st.ev y = some (.d r))
    (hb : st.blk n = some (.mp o es)) (hz : i.ezero = [z]) (c : Yk i.eagg ks r = true) (l : mget i.eagg ks (.d z) r es = some e) :
    Kt st st (bif ok then okV e else e.1) w Z inj ((do pure (Next.value (← Instr.lookup t (a.eval x) (a.eval y) ok)) : Sem Next).run P w):=by
  have hm:=Kb h hx;have g:=Kb h hy;generalize a.eval x = mv at hm ⊢;generalize a.eval y = kv at g ⊢
  cases g with | d g=>
  cases hm with | @mp _ b hn hi=>
  obtain ⟨b',f,cl,es2,e1,e2,e3,e4,e5,e6,e7,e8⟩:=(h.heap.blk n _ hb).2;rw [hi] at e1;cases e1;have hE : q1k w Z es2 f.toList:=⟨by simpa using e7,fun i e x he hx=>(e8 i e x he (by simpa using hx)).1⟩
  obtain ⟨ev,eo⟩:=e;unfold mget at l;split at l <;> try simp at l
  · rename_i j hf;obtain ⟨a1,ai,k,rfl,rfl⟩:=l;rcases q64 hf c e5 e3 with ⟨j',j2,v,m,q2,q3,q4,_⟩ | ⟨m,_⟩
    · cases m;rw [q2] at k;cases k;obtain ⟨kt,et,g1,q,p,_⟩:=q5r ht hk hE g c q3;obtain ⟨u,hu⟩:=Y1 (xs:=f) (i:=j2) (by rw [e7];exact K7 q4);have hr:=e8 j2 _ u q4 hu;refine .quiet h (Kl (x:=if ok then .tuple #[u.val,.bool true] else u.val) ?_) (qfj hr.2.1);have s : f[j2]? = some u:=hu;simp [Instr.lookup,run_underlying g1,Jv e2,q,p,s]
    · cases m
  · rename_i hf;obtain ⟨rfl,rfl⟩:=l;rcases q64 hf c e5 e3 with ⟨_,_,_,m,_⟩ | ⟨_,q3,_⟩
    · cases m
    · obtain ⟨kt,et,g1,q,p,zd,ze,g8,g9,ae⟩:=q5r ht hk hE g c q3;rw [hz] at g8;cases g8;refine .quiet h (Kl (x:=if ok then .tuple #[ze,.bool false] else ze) ?_) (qfj (.d ae));simp only [Option.bind_none] at p;simp [Instr.lookup,run_underlying g1,Jv e2,q,p,g9]
theorem qwp {t : TypeId} {x y : Operand} {ok : Bool} {i : TI} {ks : List (Option IntKind)} {es : List (DV × DV)} {q z : DV} {e : DV × Bool} (h : RelS w Z inj st a Ds) (ht : tiOf P t = some i) (hk : i.keys = some ks) (hx : st.ev x = some (.d (.mp es))) (hy : st.ev y = some (.d q))
    (hz : i.ezero = [z]) (c : Yk i.eagg ks q = true) (g : mget i.eagg ks (zNil i.esize z) q es = some e) :
    Kt st st (.d (bif ok then .tup [e.1,.bool e.2] else e.1)) w Z inj ((do pure (Next.value (← Instr.lookup t (a.eval x) (a.eval y) ok)) : Sem Next).run P w):=by
  have o:=Kb h hx;have f:=Kb h hy;generalize a.eval x = mv at o ⊢;generalize a.eval y = kv at f ⊢
  cases f with | d f=>
  cases o with | d o=>
  cases o with | @mp _ es2 b ents cl e1 e2 e3 e5 e6 e7 _ e8 e9=>
  have hE : q1k w Z es2 ents.toList:=⟨by simpa using e7,fun i e x he hx=>e8 i e x he (by simpa using hx)⟩
  have fin : ∀ (v : DV) (u : Value) (b : Bool),RelD w Z v u→RelV w Z inj st.nx (.d (bif ok then .tup [v,.bool b] else v)) (if ok then .tuple #[u,.bool b] else u):=by
    intro v u b hr;have:=qfj (b:=b) (ok:=ok) (w:=w) (Z:=Z) (inj:=inj) (st:=st) (v:=.d v) (u:=u) (.d hr);cases ok <;> exact this
  obtain ⟨ev,eo⟩:=e;unfold mget at g;split at g <;> try simp at g
  · rename_i j hf;obtain ⟨a1,ae,k,rfl,rfl⟩:=g;rcases q64 hf c e5 e3 with ⟨j',s,v,l,q2,q3,q4,_⟩ | ⟨l,_⟩
    · cases l;rw [q2] at k;cases k;obtain ⟨kt,et,g1,p,n,_⟩:=q5r ht hk hE f c q3;obtain ⟨u,hu⟩:=Y1 (xs:=ents) (i:=s) (by rw [e7];exact K7 q4);refine .quiet h (Kl (x:=if ok then .tuple #[u.val,.bool true] else u.val) ?_) (fin _ _ _ (e9 s _ u q4 hu));have r : ents[s]? = some u:=hu;simp [Instr.lookup,run_underlying g1,Jv e2,p,n,r]
    · cases l
  · rename_i hf;obtain ⟨rfl,rfl⟩:=g;rcases q64 hf c e5 e3 with ⟨_,_,_,l,_⟩ | ⟨_,q3,_⟩
    · cases l
    · obtain ⟨kt,et,g1,p,n,zd,ze,g8,g9,m⟩:=q5r ht hk hE f c q3;rw [hz] at g8;cases g8
      refine .quiet h (Kl (x:=if ok then .tuple #[ze,.bool false] else ze) ?_) (fin _ _ _ (by
        unfold zNil;split
        · cases m;exact .slnil _
        · exact m))
      simp only [Option.bind_none] at n;simp [Instr.lookup,run_underlying g1,Jv e2,p,n,g9]
theorem qwu {t : TypeId} {m x y : Operand} {i : TI} {ks : List (Option IntKind)} {n : Nat} {o : Bool} {es r : List (DV × V)} {kd : DV} {s : V} (h : RelS w Z inj st a Ds) (ht : tiOf P t = some i) (hk : i.keys = some ks) (hm : st.ev m = some (.mp n)) (c : st.ev x = some (.d kd)) (hy : st.ev y = some s)
    (hb : st.blk n = some (.mp o es)) (g : Yk i.eagg ks kd = true) (hc : Kh s = true) (hg : mput i.eagg ks kd s es = some r) :
    Kt st (st.setBlk n (.mp o r)) .dead w Z inj ((do Instr.mapUpdate t (a.eval m) (a.eval x) (a.eval y);pure Next.skip : Sem Next).run P w):=by
  have hm:=Kb h hm;have p:=Kb h c;have ab:=Kb h hy;generalize a.eval m = mv at hm ⊢;generalize a.eval x = kv at p ⊢;generalize a.eval y = vv at ab ⊢
  cases p with | d p=>
  have ah : Ys kd = i.eagg:=(q5n.1 g).1
  cases hm with | @mp _ b hn hi=>
  obtain ⟨b',l,cl,es2,e1,e2,e3,e4,e5,e6,e7,e8⟩:=(h.heap.blk n _ hb).2;rw [hi] at e1;cases e1;have hE : q1k w Z es2 l.toList:=⟨by simpa using e7,fun i e x q c=>(e8 i e x q (by simpa using c)).1⟩
  have fin : ∀ (k : List (DV × V)) (f : Array MapEntry) (aa : Nat),k.Perm r→(o = true→k = r)→Jm k→q46 f aa→f.size = k.length→
      (∀ (i : Nat) (e : DV × V) (x : MapEntry),k[i]? = some e→f[i]? = some x→RelD w Z e.1 x.key∧RelV w Z inj st.nx e.2 x.val∧Kh e.2 = true)→(Instr.mapUpdate t (.map (some b)) kv vv).run P w = .ok () (w.putObj b (.map f aa))→
      Kt st (st.setBlk n (.mp o r)) .dead w Z inj ((do Instr.mapUpdate t (.map (some b)) kv vv;pure Next.skip : Sem Next).run P w):=by
    intro k f aa p1 p2 p3 p4 p5 p6 aj
    obtain ⟨g1,g2⟩:=qz2 (pin:=st.nx) h.heap hb hi e2 p1 p2 p3 p4 p5 p6
    exact ⟨undef,_,inj,.inr ⟨by simp [aj],rfl⟩,.dead _,g1,g2,rfl,Nat.le_refl _⟩
  unfold mput at hg;split at hg <;> try simp at hg
  · rename_i j hf;subst hg;rcases q64 hf g e5 e3 with ⟨j',j2,v,q1,q2,q3,q4,q5⟩ | ⟨q1,_⟩
    · cases q1;obtain ⟨kt,et,g1,g6,g7,_⟩:=q5r ht hk hE p g q3;obtain ⟨u,hu⟩:=Y1 (xs:=l) (i:=j2) (by rw [e7];exact K7 q4)
      have az : (Instr.keyThatStays u.key kv).run P w = .ok kv w:=by
        have kf:=q5n.1 g;exact qtv (P:=P) (ks:=ks) p (e8 j2 _ u q4 hu).1 ah kf.1 (by classical rw [qec kf.2 kf.2];simp)
      refine fin (es2.set j2 (kd,s)) (l.modify j2 fun e=>{e with key:=kv,val:=vv}) cl (q5 s).1 ((q5 s).2 o e4) (qty e5 q4 s) ⟨by simpa using e6.1,fun i x c=>?_⟩ (by simpa using e7) (fun i e x q c=>?_) ?_
      · rw [Array.getElem?_modify] at c;split at c
        · cases z : l[i]? with
          | none=>rw [z] at c;simp at c
          | some y=>rw [z] at c;simp at c;subst c;exact e6.2 i y z
        · exact e6.2 i x c
      · rw [List.getElem?_set] at q;rw [Array.getElem?_modify] at c;by_cases am : j2 = i
        · subst am;simp only [if_true,K7 q4,Option.some.injEq] at q;simp only [if_true,hu,Option.map_some,Option.some.injEq] at c;subst q c;exact ⟨p,ab,hc⟩
        · simp only [am,if_false] at q c;exact e8 i e x q c
      · have ba : l[j2]? = some u:=hu;simp [Instr.mapUpdate,run_underlying g1,Jv e2,g6,g7,ba,az,qni _ e2]
    · cases q1
  · rename_i hf;subst hg;rcases q64 hf g e5 e3 with ⟨_,_,_,q1,_⟩ | ⟨_,q3,q4⟩
    · cases q1
    · obtain ⟨kt,et,g1,g6,g7,_⟩:=q5r ht hk hE p g q3;simp only [Option.bind_none] at g7;refine fin (es2 ++ [(kd,s)]) (l.push {key:=kv,val:=vv,born:=cl}) (cl + 1) (e3.append_right _) (fun ho=>by rw [e4 ho]) (qtx e5 (qkk e5 e3 hf) g q4 s) ⟨by simp [e6.1],fun i x c=>?_⟩ (by simp [e7]) (fun i e x q c=>?_) ?_
      · rw [Array.getElem?_push] at c;split at c
        · rename_i hi;cases c;rw [hi];exact e6.1.symm
        · exact e6.2 i x c
      · rw [Array.getElem?_push] at c;split at c
        · rename_i hi;cases c;rw [hi,e7,List.getElem?_append_right (Nat.le_refl _)] at q;simp at q;subst q;exact ⟨p,ab,hc⟩
        · rename_i hi;have:=Ze c;rw [List.getElem?_append_left q8] at q;exact e8 i e x q c
      · simp [Instr.mapUpdate,run_underlying g1,Jv e2,g6,g7,qni _ e2]
end
end Go.Am
namespace Go.Am
open Go
variable {P : Program} {T : Tab}
section
variable {w : World} {Z : Nat→Prop} {inj : Inj} {st : AS} {a : Act} {Ds : List Nat}
theorem qhc {t : TypeId} {i : TI} (f : tiOf P t = some i) (hk : i.kind = .map) : ∃ b g,P.underlying t = some (.map b g):=by
  obtain ⟨c,d,z,k⟩:=Yp f;have a:=k.kind;unfold Zm at a;rw [hk] at a;obtain ⟨b,e,_,_,_,_,_,rfl,_⟩:=a;exact ⟨b,e,k.und⟩
theorem qwx {t : TypeId} {x : Operand} {i : TI} {n : Nat} {es : List (DV × V)} (h : RelS w Z inj st a Ds) (l : tiOf P t = some i) (hk : i.kind = .map) (m : st.ev x = some (.mp n)) (hb : st.blk n = some (.mp true es)) :
    Kt st (st.new (.itO n es.length none (List.range es.length))) (.it st.nx) w Z inj ((do pure (Next.value (← Instr.range t (a.eval x))) : Sem Next).run P w):=by
  have f:=Kb h m;generalize a.eval x = mv at f ⊢
  cases f with | @mp _ b hn hi=>
  obtain ⟨v,g,cl,es2,e1,r,z,q,s,p,j,u⟩:=(h.heap.blk n _ hb).2;rw [hi] at e1;cases e1;obtain ⟨y,et,k⟩:=qhc l hk;have c:=q rfl;subst c;have d : cl = es2.length:=by rw [← j,p.1]
  subst d;refine .new (o:=.mapIter (some b) es2.length #[] es2.length) (x:=.pointer (some ⟨w.heap.size,0,none⟩)) h ?_ ?_ (.it q8 (Y6 _ _ _))
  · simp [Instr.range,run_underlying k,Jv r]
  · exact ⟨w.heap.size,b,#[],Y6 _ _ _,q8,by rw [Yj _ _ hn];exact hi,Jb w _,List.nodup_range,qd,qd⟩
theorem qjq {α : Type} : ∀ (l pre : List α),((List.range' pre.length l.length).filterMap fun j=>(pre ++ l)[j]?) = l
  | [],pre=>by simp
  | a::l,pre=>by
    have b:=qjq l (pre ++ [a])
    simp only [List.length_append,List.length_cons,List.length_nil,List.append_assoc,List.cons_append,List.nil_append] at b
    rw [List.length_cons,List.range'_succ,List.filterMap_cons]
    simp only [List.getElem?_append_right (Nat.le_refl pre.length),Nat.sub_self,List.getElem?_cons_zero]
    rw [show pre.length + (0 + 1) = pre.length + 1 by omega] at b
    rw [b]
theorem qss {α : Type} (l : List α) : ((List.range l.length).filterMap fun j=>l[j]?) = l:=by
  have:=qjq l [];rw [List.range_eq_range'];simpa using this
theorem qch {r : Nat} {m : Option Nat} {a b : Nat} {s : Array Nat} (hb : w.heap[r]? = some (.mapIter m a s b)) : (getObj r).run P w = .ok (.mapIter m a s b) w:=by simp [getObj,Sem.run,hb]
theorem setIter {w : World} {r : Nat} {m : Option Nat} {a b : Nat} {s : Array Nat} (o : Obj) (hb : w.heap[r]? = some (.mapIter m a s b)) : (setObj r o).run P w = .ok () (w.putObj r o):=by simp [setObj,Sem.run,hb,World.putObj]
theorem qll {r b : Nat} {a : Array MapEntry} {cl : Nat} {seen : Array Nat} {ty : TypeId} (z : w.heap[r]? = some (.mapIter (some b) cl seen cl)) (hb : w.heap[b]? = some (.map a cl)) (hB : q46 a cl) :
    ((∀ j,j < a.size→j∈seen)∧(Instr.next (.pointer (some ⟨r,0,none⟩)) false ty).run P w = .ok (.tuple #[.bool false]) w)∨
    ∃ j x w0,j ∉ seen∧a[j]? = some x∧(w0 = w∨w0 = {w with drawn:=w.drawn + 1})∧(Instr.next (.pointer (some ⟨r,0,none⟩)) false ty).run P w = .ok (.tuple #[.bool true,x.key,x.val]) (w0.putObj r (.mapIter (some b) cl (seen.push j) cl)):=by
  obtain ⟨af,d⟩:=hB
  have q : ∀ x∈a,x.born < cl:=fun x c=>by
    obtain ⟨i,hi,s⟩:=Array.mem_iff_getElem.1 c;have:=d i x (by rw [Array.getElem?_eq_getElem hi,s]);omega
  have l : (!seen.isEmpty && !a.isEmpty && a.all (fun x=>decide (x.born ≥ cl))) = false:=by
    by_cases h0 : a.size = 0
    · have : a.isEmpty = true:=by simpa using h0
      simp [this]
    · have p : a[0]∈a:=Array.getElem_mem q8;have t:=q _ p
      have : a.all (fun x=>decide (x.born ≥ cl)) = false:=by
        rw [Bool.eq_false_iff];intro f;rw [Array.all_eq_true] at f;have:=of_decide_eq_true (f 0 q8);omega
      rw [this];simp
  have hold : (a.filter fun e=>!seen.contains e.born).filter (fun x=>decide (x.born < cl)) = a.filter fun e=>!seen.contains e.born:=by
    rw [Array.filter_eq_self];intro x c;exact Q9 (q x (Array.mem_filter.1 c).1)
  have g : (a.filter fun e=>!seen.contains e.born).filter (fun x=>decide (x.born ≥ cl)) = #[]:=by
    rw [Array.filter_eq_empty_iff];intro x c;have:=q x (Array.mem_filter.1 c).1;simp;omega
  generalize v : (a.filter fun e=>!seen.contains e.born) = L at hold g
  have hm : ∀ x,x∈L→∃ j,j ∉ seen∧a[j]? = some x∧x.born = j:=fun x c=>by
    rw [← v] at c;obtain ⟨p,t⟩:=Array.mem_filter.1 c;obtain ⟨i,hi,s⟩:=Array.mem_iff_getElem.1 p;have hg : a[i]? = some x:=by rw [Array.getElem?_eq_getElem hi,s]
    have u:=d i x hg;refine ⟨i,fun f=>?_,hg,u⟩;rw [u] at t;simp [f] at t
  by_cases n : L = #[]
  · left;refine ⟨fun j hj=>?_,?_⟩
    · obtain ⟨x,c⟩:=Y1 hj;have m:=d j x c;by_cases f : j∈seen
      · exact f
      · have : x∈L:=by
          rw [← v];exact Array.mem_filter.2 ⟨Array.mem_of_getElem? c,by rw [m];simpa using f⟩
        rw [n] at this;simp at this
    · subst n;unfold Instr.next;simp only [Sem.run_bind,qch z,Jv hb,Result.andThen_ok,l,Bool.false_eq_true,if_false,v];have f : (Question.mapNext 1).forced = true:=rfl;simp [f]
  · right
    have y : 0 < L.size:=by
      rcases Nat.eq_zero_or_pos L.size with h | h
      · exact absurd (by simpa using h) n
      · exact h
    have o : L.isEmpty = false:=by simpa using n
    have key : ∀ k w0,k < L.size→(w0 = w∨w0 = {w with drawn:=w.drawn + 1})→∃ x j,L[k]? = some x∧j ∉ seen∧a[j]? = some x∧x.born = j:=fun k w0 hk _=>by
      obtain ⟨x,c⟩:=Y1 hk;obtain ⟨j,p,t,h3⟩:=hm x (Array.mem_of_getElem? c);exact ⟨x,j,c,p,t,h3⟩
    by_cases p : L.size≤1
    · obtain ⟨x,j,c,hj,s,m⟩:=key 0 w y (.inl rfl);refine ⟨j,x,w,hj,s,.inl rfl,?_⟩;subst m;unfold Instr.next;simp only [Sem.run_bind,qch z,Jv hb,Result.andThen_ok,l,Bool.false_eq_true,if_false,v,hold,g,o,Array.append_empty,Array.empty_append,Array.size_map];have f : (Question.mapNext L.size).forced = true:=by simpa [Question.forced] using p
      simp [f,c,setIter _ z]
    · obtain ⟨x,j,c,hj,s,m⟩:=key (w.tape w.drawn (.mapNext L.size) % L.size) {w with drawn:=w.drawn + 1} (Nat.mod_lt _ y) (.inr rfl);refine ⟨j,x,_,hj,s,.inr rfl,?_⟩;subst m;unfold Instr.next;simp only [Sem.run_bind,qch z,Jv hb,Result.andThen_ok,l,Bool.false_eq_true,if_false,v,hold,g,o,Array.append_empty,Array.empty_append,Array.size_map];have f : (Question.mapNext L.size).forced = false:=by simpa [Question.forced] using p
      have ac : w.drew.heap[r]? = some (.mapIter (some b) cl seen cl):=z;have ab : L[w.tape w.drawn (.mapNext L.size) % L.size]? = some x:=c;simp [f,Question.cut,ab,setIter _ ac]
      try rfl
theorem qww {t : TypeId} {x : Operand} {i : TI} {es : List (DV × DV)} (h : RelS w Z inj st a Ds) (l : tiOf P t = some i) (hk : i.kind = .map) (f : st.ev x = some (.d (.mp es))) :
    Kt st (st.new (.itF none es)) (.it st.nx) w Z inj ((do pure (Next.value (← Instr.range t (a.eval x))) : Sem Next).run P w):=by
  have c:=Kb h f;generalize a.eval x = mv at c ⊢
  cases c with | d c=>
  cases c with | @mp _ es2 b ents cl e1 e2 e3 e5 e6 e7 _ e8 e9=>
  obtain ⟨m,n,k⟩:=qhc l hk;refine .new (o:=.mapIter (some b) cl #[] cl) (x:=.pointer (some ⟨w.heap.size,0,none⟩)) h ?_ ?_ (.it q8 (Y6 _ _ _))
  · simp [Instr.range,run_underlying k,Jv e2]
  · refine ⟨w.heap.size,b,ents,cl,#[],es2,List.range es2.length,Y6 _ _ _,Jb w _,e1,by rw [Zs w _ (h.heap.zs b e1)];exact e2,e6,e7,fun i e x j f=>?_,List.nodup_range,qd,?_,qd⟩
    · exact ⟨(e8 i e x j f).mono (fun b g=>Zs w _ (h.heap.zs b g)) (fun _ h=>h),(e9 i e x j f).mono (fun b g=>Zs w _ (h.heap.zs b g)) (fun _ h=>h)⟩
    · rw [qss];exact e3.symm
theorem qu3 {d : Array TypeId} {ty t : TypeId} {f h : TypeId} {b : Nat} {a : Array MapEntry} {cl : Nat} (c : d[0]? = some t) (g : P.underlying t = some (.map f h)) (hb : w.heap[b]? = some (.map a cl)) :
    (Builtin.len_ d ty #[.map (some b)]).run P w = .ok (goInt a.size) w:=by
  simp [Builtin.len_,c,run_underlying g,Jv hb]
theorem qjd {r b : Nat} {a : Array MapEntry} {cl j : Nat} {seen : Array Nat} {x : MapEntry} (l : w.heap[r]? = some (.mapIter (some b) cl seen cl)) (hb : w.heap[b]? = some (.map a cl)) (g : q46 a cl) (hs : seen.back? = some j) (c : a[j]? = some x) :
    (Instr.entry (.pointer (some ⟨r,0,none⟩))).run P w = .ok (.tuple #[x.key,x.val]) w:=by
  have h : a.find? (fun e=>e.born == j) = some x:=by
    cases d : a.find? (fun e=>e.born == j) with
    | none=>
      have:=Array.find?_eq_none.1 d x (Array.mem_of_getElem? c);rw [g.2 j x c] at this;simp at this
    | some y=>
      have m:=Array.find?_some d;have k:=Array.mem_of_find?_eq_some d;obtain ⟨i,hi,f⟩:=Array.mem_iff_getElem.1 k;have n:=g.2 i y (by rw [Array.getElem?_eq_getElem hi,f]);have o : y.born = j:=by simpa using m
      have : i = j:=by omega
      subst this;rw [Array.getElem?_eq_getElem hi,f] at c;exact c
  unfold Instr.entry;simp [qch l,Jv hb,hs,h]
theorem qex {x : Operand} {n : Nat} (h : RelS w Z inj st a Ds) (c : st.ev x = some (.it n)) : ∃ r,a.eval x = .pointer (some ⟨r,0,none⟩)∧inj n = some (r,0)∧n < st.nx:=by
  have b:=Kb h c;generalize a.eval x = mv at b ⊢
  cases b with | @it _ r hn hi=>exact ⟨r,rfl,hi,hn⟩
theorem qwg {x : Operand} {n : Nat} {e : DV × DV} {rest : List (DV × DV)} (h : RelS w Z inj st a Ds) (k : st.ev x = some (.it n)) (hb : st.blk n = some (.itF (some e) rest)) :
    Kt st st (.d (.tup [e.1,e.2])) w Z inj ((do pure (Next.value (← Instr.entry (a.eval x))) : Sem Next).run P w):=by
  obtain ⟨r,z,hi,_⟩:=qex h k;rw [z];obtain ⟨r',b,g,cl,seen,es2,js,e1,u,e3,e4,o,s,p,e8,e9,v,l⟩:=(h.heap.blk n _ hb).2;rw [hi] at e1;cases e1;obtain ⟨j,t,m⟩:=l e rfl;obtain ⟨x,k⟩:=Y1 (xs:=g) (i:=j) (by rw [s];exact K7 m);obtain ⟨y,q⟩:=p j e x m k;refine .quiet h (Kl (qjd u e4 o t k)) (.d (.tup rfl fun i d c hd f=>?_))
  match i,hd,f with
  | 0,hd,f=>simp at hd f;subst hd f;exact y
  | 1,hd,f=>simp at hd f;subst hd f;exact q
  | i + 2,hd,_=>simp at hd
theorem qxa {k : DV} {v : V} {j h : Value} (l : RelD w Z k j) (b : RelV w Z inj st.nx v h) : RelV w Z inj st.nx (q8p (k,v)) (.tuple #[j,h]):=by
  have f : RelV w Z inj st.nx (.tup [.d k,v]) (.tuple #[j,h]):=by
    refine .tup rfl fun i d c hd a=>?_
    match i,hd,a with
    | 0,hd,a=>simp at hd a;subst hd a;exact .d l
    | 1,hd,a=>simp at hd a;subst hd a;exact b
    | i + 2,hd,_=>simp at hd
  unfold q8p;split
  · rename_i m x g;cases g
    cases b with | d b=>
    refine .d (.tup rfl fun i d c hd a=>?_)
    match i,hd,a with
    | 0,hd,a=>simp at hd a;subst hd a;exact l
    | 1,hd,a=>simp at hd a;subst hd a;exact b
    | i + 2,hd,_=>simp at hd
  · rename_i m n _ g;cases g;exact f
theorem qwh {x : Operand} {n m j sz : Nat} {e : DV × V} {rest : List Nat} {es : List (DV × V)} (h : RelS w Z inj st a Ds) (d : st.ev x = some (.it n)) (hb : st.blk n = some (.itO m sz (some j) rest)) (hm : st.blk m = some (.mp true es)) (z : es.length = sz) (p : es[j]? = some e) :
    Kt st st (q8p e) w Z inj ((do pure (Next.value (← Instr.entry (a.eval x))) : Sem Next).run P w):=by
  obtain ⟨r,hv,hi,_⟩:=qex h d;rw [hv];obtain ⟨r',b,seen,e1,e2,e3,e4,e5,e6,q⟩:=(h.heap.blk n _ hb).2;rw [hi] at e1;cases e1;obtain ⟨b',c,cl,es2,o,s,g3,y,g5,k,l,v⟩:=(h.heap.blk m _ hm).2;rw [e3] at o;cases o;have f:=y rfl;subst f;have g : cl = sz:=by rw [← z,← l,k.1]
  subst g;obtain ⟨u,h2⟩:=q j rfl;obtain ⟨x,d⟩:=Y1 (xs:=c) (i:=j) (by rw [l];exact K7 p);obtain ⟨t,q2,_⟩:=v j e x p d;exact .quiet h (Kl (qjd e4 s k u d)) (qxa t q2)
theorem qwv {x : Operand} {n N pin : Nat} {S : Nat→Option AS} {ty : TypeId} (h : RelS w Z inj st a Ds) (hx : st.ev x = some (.it n)) (hd : q2g st n = some (N,S)) :
    (N = 0∧(Instr.next (a.eval x) false ty).run P w = .ok (.tuple #[.bool false]) w)∨
    ∃ i u k v w1,S i = some u∧(Instr.next (a.eval x) false ty).run P w = .ok (.tuple #[.bool true,k,v]) w1∧RelH w1 Z inj u.hp u.nx∧Ext w Z inj st.hp w1 Z inj u.hp pin∧u.sl = st.sl∧u.nx = st.nx:=by
  obtain ⟨r,hv,hi,hn⟩:=qex h hx;rw [hv]
  have put : ∀ (w0 : World) (l blk : Blk) (b cl : Nat) (seen c : Array Nat),(w0 = w∨w0 = {w with drawn:=w.drawn + 1})→st.blk n = some l→live l = true→w.heap[r]? = some (.mapIter (some b) cl seen cl)→
      (RelB (w.putObj r (.mapIter (some b) cl c cl)) Z inj st.nx n blk)→
      RelH (w0.putObj r (.mapIter (some b) cl c cl)) Z inj (st.setBlk n blk).hp (st.setBlk n blk).nx∧Ext w Z inj st.hp (w0.putObj r (.mapIter (some b) cl c cl)) Z inj (st.setBlk n blk).hp pin:=by
    intro w0 l blk b cl seen c be bg hl hr an
    obtain ⟨g1,g2⟩:=qmu (pin:=pin) h.heap bg hl hi hr rfl rfl an
    rcases be with rfl | rfl
    · exact ⟨g1,g2⟩
    · exact ⟨g1.same rfl,g2.trans (.same rfl rfl rfl rfl) (Nat.le_refl _)⟩
  have other : ∀ (o : Obj) (k : Nat),k≠r→(w.putObj r o).heap[k]? = w.heap[k]?:=fun o k hk=>World.putObj_heap_other hk;unfold q2g at hd;split at hd <;> try simp at hd
  · rename_i az rest hb;obtain ⟨rfl,rfl⟩:=hd;obtain ⟨r',b,t,cl,seen,es2,js,e1,e2,e3,e4,e5,e6,e7,e8,e9,p,br⟩:=(h.heap.blk n _ hb).2;rw [hi] at e1;cases e1;have al : ∀ k,Z k→k≠r:=fun k hk e=>h.heap.out n _ _ hb rfl hi (by rw [← e];exact hk);rcases qll (P:=P) (ty:=ty) e2 e4 e5 with ⟨q1,q2⟩ | ⟨j,x,w0,q1,q2,q3,q4⟩
    · left;refine ⟨?_,q2⟩
      have : js = []:=by
        rw [List.eq_nil_iff_forall_not_mem];intro j hj;obtain ⟨h1,h2⟩:=(e9 j).1 hj;exact h2 (q1 j q8)
      subst this;simp at p;simp [p]
    · right;have f : j < es2.length:=by rw [← e6];exact Ze q2
      have s : j∈js:=(e9 j).2 ⟨f,q1⟩;obtain ⟨e,he⟩:=Zi (xs:=es2) f;have ax : e∈rest:=p.mem_iff.2 (List.mem_filterMap.2 ⟨j,s,he⟩);obtain ⟨i,ae,z⟩:=List.mem_iff_getElem.1 ax;have g : rest[i]? = some e:=by rw [List.getElem?_eq_getElem ae,z]
      obtain ⟨g1,g2⟩:=put w0 _ (.itF (some e) (rest.eraseIdx i)) b cl seen (seen.push j) q3 hb rfl e2 (by
        refine ⟨r,b,t,cl,seen.push j,es2,js.erase j,hi,World.putObj_heap_same (J1 e2),e3,by rw [other _ b (al b e3)];exact e4,e5,e6,fun i e x he hx=>?_,e8.erase j,fun k=>?_,?_,?_⟩
        · have am : ∀ k,Z k→(w.putObj r (.mapIter (some b) cl (seen.push j) cl)).heap[k]? = w.heap[k]?:=fun k hk=>other _ k (al k hk);exact ⟨(e7 i e x he hx).1.mono am (fun _ h=>h),(e7 i e x he hx).2.mono am (fun _ h=>h)⟩
        · rw [e8.mem_erase_iff,e9 k,Array.mem_push];constructor
          · rintro ⟨a1,q,a3⟩;exact ⟨q,fun d=>d.elim a3 a1⟩
          · rintro ⟨a1,q⟩;exact ⟨fun d=>q (.inr d),a1,fun d=>q (.inl d)⟩
        · have p1:=(q26 e g).2;have p2:=(List.perm_cons_erase s).filterMap (fun j=>es2[j]?);rw [List.filterMap_cons,he] at p2;exact (List.perm_cons e).1 (p1.symm.trans (p.trans p2))
        · intro e' d;cases d
          exact ⟨j,qd,he⟩)
      exact ⟨i,_,x.key,x.val,_,by simp [g],q4,g1,g2,rfl,rfl⟩
  · rename_i m sz az rest hb;split at hd <;> try simp at hd
    rename_i es hm;obtain ⟨hl,rfl,rfl⟩:=hd;obtain ⟨r',b,seen,e1,e2,e3,e4,e5,e6,e7⟩:=(h.heap.blk n _ hb).2;rw [hi] at e1;cases e1;obtain ⟨b',t,cl,es2,g1,g2,g3,g4,g5,g6,g7,g8⟩:=(h.heap.blk m _ hm).2;rw [e3] at g1;cases g1;have bb:=g4 rfl;subst bb;have bi : cl = sz:=by rw [← hl,← g7,g6.1]
    subst bi;rcases qll (P:=P) (ty:=ty) e4 g2 g6 with ⟨q1,q2⟩ | ⟨j,x,w0,q1,q2,q3,q4⟩
    · left;refine ⟨?_,q2⟩
      have : rest = []:=by
        rw [List.eq_nil_iff_forall_not_mem];intro j hj;obtain ⟨h1,h2⟩:=(e6 j).1 hj;exact h2 (q1 j (by rw [g6.1];exact h1))
      simp [this]
    · right;have f : j < cl:=by rw [← g6.1];exact Ze q2
      have s : j∈rest:=(e6 j).2 ⟨f,q1⟩;obtain ⟨i,ae,z⟩:=List.mem_iff_getElem.1 s;have g : rest[i]? = some j:=by rw [List.getElem?_eq_getElem ae,z]
      have p1:=(q26 j g).2;have ad:=(p1.nodup_iff).1 e5;rw [List.nodup_cons] at ad
      obtain ⟨k1,k2⟩:=put w0 _ (.itO m cl (some j) (rest.eraseIdx i)) b cl seen (seen.push j) q3 hb rfl e4 (by
        refine ⟨r,b,seen.push j,hi,e2,e3,World.putObj_heap_same (J1 e4),ad.2,fun k=>?_,fun k hk=>?_⟩
        · rw [Array.mem_push];have y : k∈rest↔k = j∨k∈rest.eraseIdx i:=by rw [p1.mem_iff,List.mem_cons]
          have h6:=e6 k;constructor
          · intro hk;obtain ⟨a1,q⟩:=h6.1 (y.2 (.inr hk));exact ⟨a1,fun d=>d.elim q fun d=>ad.1 (d ▸ hk)⟩
          · rintro ⟨a1,q⟩;rcases y.1 (h6.2 ⟨a1,fun d=>q (.inl d)⟩) with d | d
            · exact absurd (.inr d) q
            · exact d
        · cases hk
          exact ⟨qd,f⟩)
      exact ⟨i,_,x.key,x.val,_,by simp [g],q4,k1,k2,rfl,rfl⟩
end
end Go.Am
namespace Go.Am
open Go
variable {P : Program} {T : Tab}
section
variable {w : World} {Z : Nat→Prop} {inj : Inj} {st : AS} {a : Act} {Ds : List Nat}
theorem qun {c : Bool} {v b : V} {r : List V} {u : V} (h : minI c v (b::r) = some u) : ∃ k n f m,v = .d (.int k n)∧b = .d (.int f m)∧minI c (.d (.int k (bif c then (if m > n then m else n) else (if m < n then m else n)))) r = some u:=by
  unfold minI at h;split at h
  · rename_i a;cases a
  · rename_i a;cases a;exact ⟨_,_,_,_,rfl,rfl,h⟩
  · simp at h
theorem qfp {f : Bool} {nx : Nat} : ∀ (r : List V) (v u : V) (x : Value) (xs : List Value),minI f v r = some u→RelV w Z inj nx v x→r.length = xs.length→(∀ (i : Nat) (d : V) (c : Value),r[i]? = some d→xs[i]? = some c→RelV w Z inj nx d c)→
    ∃ y,(xs.foldlM (if f then Builtin.max2 else Builtin.min2) x).run P w = .ok y w∧RelV w Z inj nx u y
  | [],v,u,x,xs,h,hv,hl,_=>by
    simp [minI] at h;subst h
    have : xs = []:=by cases xs <;> simp_all
    subst this
    exact ⟨x,qd,hv⟩
  | b::r,v,u,x,xs,h,hv,hl,hr=>by
    match xs,hl,hr with
    | c::xs,hl,hr=>
      have hb:=hr 0 b c rfl rfl
      obtain ⟨k,n,l,m,rfl,rfl,h⟩:=qun h
      cases hv with | d hv=>
      cases hv
      cases hb with | d hb=>
      cases hb
      obtain ⟨y,a,g⟩:=qfp r _ u (.int k (bif f then (if m > n then m else n) else (if m < n then m else n))) xs h (.d (.int _ _)) (by simpa using hl) (fun i d c hd j=>hr (i + 1) d c (by simpa using hd) (by simpa using j))
      refine ⟨y,?_,g⟩
      cases f
      · simp only [Bool.false_eq_true,if_false,List.foldlM_cons,Builtin.min2,Sem.run_bind,Sem.run_pure,Result.andThen_ok,Q6] at a ⊢;exact a
      · simp only [if_true,List.foldlM_cons,Builtin.max2,Sem.run_bind,Sem.run_pure,Result.andThen_ok,Qb] at a ⊢;exact a
theorem qkv {nx : Nat} {x y : V} {xs : Array Value} (h : LRel w Z inj nx [x,y] xs) : ∃ a b,xs = #[a,b]∧RelV w Z inj nx x a∧RelV w Z inj nx y b:=by
  obtain ⟨d,c⟩:=h;obtain ⟨l⟩:=xs
  match l,d with
  | [a,b],_=>exact ⟨a,b,rfl,c 0 _ _ rfl rfl,c 1 _ _ rfl rfl⟩
theorem qcq {nx : Nat} {x : V} {xs : Array Value} (h : LRel w Z inj nx [x] xs) : ∃ a,xs = #[a]∧RelV w Z inj nx x a:=by
  obtain ⟨b,c⟩:=h;obtain ⟨l⟩:=xs
  match l,b with
  | [a],_=>exact ⟨a,rfl,c 0 _ _ rfl rfl⟩
theorem qp6 {b : Builtin} {ts : Array TypeId} {ty : TypeId} {cs : Array Bool} {vs : List V} {xs : Array Value} {v : V} {st1 : AS} (hT : Z8 P T) (h : RelS w Z inj st a Ds) (m : LRel w Z inj st.nx vs xs) (hb : Yn T st b ts vs = some (v,st1)) :
    Kt st st1 v w Z inj ((builtin b ts ty cs xs).run P w):=by
  unfold Yn at hb;split at hb
  ·
    rename_i x;obtain ⟨s,rfl,o⟩:=qcq m;split at hb <;> try simp at hb
    rename_i t g;split at hb <;> try simp at hb
    rename_i i q;obtain ⟨aw,d,z,k⟩:=Yp (hT _ _ q);have p:=k.kind;unfold Zm at p
    have fin : ∀ n : Int,(Builtin.len_ ts ty #[s]).run P w = .ok (.int .i64 n) w→Kt st st (.d (.int .i64 n)) w Z inj ((builtin .len ts ty cs #[s]).run P w):=fun n hr=>
      .quiet h (by simp [builtin,hr]) (.d (.int _ _))
    split at hb <;> try simp at hb
    · rename_i hk;simp only [hk] at p;obtain ⟨e,ie,de,rfl,_⟩:=p;obtain ⟨rfl,rfl⟩:=hb;refine fin _ ?_;simp only [Builtin.len_,g];simp [run_underlying k.und,goInt]
    · rename_i hk;simp only [hk] at p;obtain ⟨e,ie,de,ze,rfl,_⟩:=p
      have f : ∀ ad n cap,s = .slice ad n cap→(Builtin.len_ ts ty #[s]).run P w = .ok (.int .i64 n) w:=by
        rintro ad n cap rfl;simp only [Builtin.len_,g];simp [run_underlying k.und,goInt]
      split at hb <;> try simp at hb
      · obtain ⟨rfl,rfl⟩:=hb
        cases o with | d o=>
        cases o;exact fin 0 (f _ _ _ rfl)
      · obtain ⟨rfl,rfl⟩:=hb
        cases o with | d o=>
        cases o with
        | slnil=>exact fin _ (f _ _ _ rfl)
        | slemp=>exact fin _ (f _ _ _ rfl)
        | sl=>exact fin _ (f _ _ _ rfl)
      · obtain ⟨rfl,rfl⟩:=hb
        cases o with
        | hsnil=>exact fin _ (f _ _ _ rfl)
        | hs=>exact fin _ (f _ _ _ rfl)
    · rename_i hk;simp only [hk] at p;obtain ⟨rfl,_⟩:=p;split at hb <;> try simp at hb
      obtain ⟨rfl,rfl⟩:=hb
      cases o with | d o=>
      cases o;refine fin _ ?_;simp only [Builtin.len_,g];simp [run_underlying k.und,goInt]
  ·
    obtain ⟨sv,s,rfl,hs,o⟩:=qkv m;split at hb <;> try simp at hb
    rename_i t u g an;split at hb <;> try simp at hb
    rename_i i j q ae;obtain ⟨⟨h1,h2,h3⟩,hb⟩:=hb
    have key : (Builtin.append_ ts ty #[sv,s]).run P w = (Builtin.append_ #[t,u] ty #[sv,s]).run P w:=by
      unfold Builtin.append_;simp only [g,an];rfl
    obtain ⟨x,w',inj',hr,r1,r2,r3,r4,r5⟩:=qw7 (ty:=ty) h (hT _ _ q) (hT _ _ ae) h1 h2 h3 hs o hb;exact ⟨x,w',inj',.inl (by simp [builtin,key,hr]),r1,r2,r3,r4,r5⟩
  ·
    obtain ⟨sv,s,rfl,hs,o⟩:=qkv m;split at hb <;> try simp at hb
    rename_i t u g an;split at hb <;> try simp at hb
    rename_i i j q ae;obtain ⟨⟨h1,h2,h3,h4⟩,hb⟩:=hb
    have key : (Builtin.copy_ ts ty #[sv,s]).run P w = (Builtin.copy_ #[t,u] ty #[sv,s]).run P w:=by
      unfold Builtin.copy_;simp only [g];rfl
    obtain ⟨x,w',inj',hr,r1,r2,r3,r4,r5⟩:=qwf (ty:=ty) h (hT _ _ q) (hT _ _ ae) h1 h2 h3 h4 hs o hb;exact ⟨x,w',inj',.inl (by simp [builtin,key,hr]),r1,r2,r3,r4,r5⟩
  ·
    rename_i x;obtain ⟨s,rfl,o⟩:=qcq m;split at hb <;> try simp at hb
    rename_i t g;split at hb <;> try simp at hb
    rename_i i q;obtain ⟨⟨h1,h2⟩,hb⟩:=hb
    have key : (Builtin.clear_ ts ty #[s]).run P w = (Builtin.clear_ #[t] ty #[s]).run P w:=by
      unfold Builtin.clear_;simp only [g];rfl
    obtain ⟨x,w',inj',hr,r1,r2,r3,r4,r5⟩:=qwd (ty:=ty) h (hT _ _ q) h1 h2 o hb;exact ⟨x,w',inj',.inl (by simp [builtin,key,hr]),r1,r2,r3,r4,r5⟩
  ·
    rename_i v0 r
    cases hm : minI false v0 r with
    | none=>simp [hm] at hb
    | some u=>
      simp [hm] at hb;obtain ⟨rfl,rfl⟩:=hb;obtain ⟨l⟩:=xs
      match l,m with
      | [],m=>simp [LRel] at m
      | x::xs,m=>
        obtain ⟨y,h1,h2⟩:=qfp (P:=P) r v0 u x xs hm (m.2 0 _ _ rfl rfl) (by simpa using m.1) (fun i d c hd hc=>m.2 (i + 1) d c (by simpa using hd) (by simpa using hc));refine .quiet h ?_ h2;simp only [Bool.false_eq_true,if_false] at h1;simp [builtin,Builtin.min_,h1]
  · rename_i v0 r
    cases hm : minI true v0 r with
    | none=>simp [hm] at hb
    | some u=>
      simp [hm] at hb;obtain ⟨rfl,rfl⟩:=hb;obtain ⟨l⟩:=xs
      match l,m with
      | [],m=>simp [LRel] at m
      | x::xs,m=>
        obtain ⟨y,h1,h2⟩:=qfp (P:=P) r v0 u x xs hm (m.2 0 _ _ rfl rfl) (by simpa using m.1) (fun i d c hd hc=>m.2 (i + 1) d c (by simpa using hd) (by simpa using hc));refine .quiet h ?_ h2;simp only [if_true] at h1;simp [builtin,Builtin.max_,h1]
  · simp at hb
theorem qm3 {o : Oper} {v : V} {st1 : AS} (hT : Z8 P T) (h : RelS w Z inj st a Ds) (g : opFn T st o.op = some (v,st1)) : Kt st st1 v w Z inj ((execOp a.eval o).run P w):=by
  obtain ⟨dst,op,type,pos,after,guard⟩:=o;simp only at g;cases op <;> simp only [opFn,reduceCtorEq] at g
  case move x=>
    cases hx : st.ev x with
    | none=>simp [hx] at g
    | some u=>simp [hx] at g;obtain ⟨rfl,rfl⟩:=g;exact qm1 h hx rfl
  case assign x=>
    cases hx : st.ev x with
    | none=>simp [hx] at g
    | some u=>simp [hx] at g;obtain ⟨rfl,rfl⟩:=g;exact qm1 h hx rfl
  case pick c x y=>
    split at g <;> try simp at g
    · rename_i hc;obtain ⟨u,hx,rfl,rfl⟩:=g;have ae:=Kb h hc;generalize aq : a.eval c = cv at ae
      cases ae with | d ae=>
      cases ae;exact .quiet h (by simp [execOp,aq,asBool]) (Kb h hx)
    · rename_i hc;obtain ⟨u,hx,rfl,rfl⟩:=g;have ae:=Kb h hc;generalize aq : a.eval c = cv at ae
      cases ae with | d ae=>
      cases ae;exact .quiet h (by simp [execOp,aq,asBool]) (Kb h hx)
  case alloc t=>
    cases ht : T t with
    | none=>simp [ht] at g
    | some i=>simp [ht] at g;obtain ⟨rfl,rfl⟩:=g;exact qw6 h (hT _ _ ht)
  case box t x=>
    split at g <;> try simp at g
    rename_i i u ht hx;obtain ⟨⟨h1,h2⟩,rfl,rfl⟩:=g;exact qwa h (hT _ _ ht) hx h1 (by simpa using h2)
  case build t ps=>
    split at g <;> try simp at g
    rename_i i vs ht hv;obtain ⟨h1,g⟩:=g;split at g <;> try simp at g
    rename_i l hl;obtain ⟨cs,hc,rfl,rfl⟩:=g;exact qwb h (hT _ _ ht) hv h1 hl hc
  case buildSlice t len ps=>
    split at g <;> try simp at g
    rename_i i vs ht hv;split at g <;> try simp at g
    rename_i l hl;obtain ⟨⟨h1,h2⟩,xs,hc,rfl,rfl⟩:=g;exact qwc h (hT _ _ ht) hv hl h1 h2 hc
  case load t p=>
    split at g <;> try simp at g
    rename_i i u ht hp;obtain ⟨x,hx,rfl,rfl⟩:=g;exact qwn h (hT _ _ ht) hp hx
  case store t p x=>
    split at g <;> try simp at g
    rename_i i u y ht hp hx;obtain ⟨hs,rfl⟩:=g;exact qwz h (hT _ _ ht) hp hx hs
  case binOp op t x y u=>
    split at g
    · rename_i p q hx hy;split at g <;> try simp at g
      rename_i i ht;split at g <;> try simp at g
      rename_i ks ai;split at g <;> simp at g
      · rename_i r hc;obtain ⟨rfl,rfl⟩:=g;exact qlz h (hT _ _ ht) hx hy ai hc (.inl ⟨rfl,rfl⟩)
      · rename_i r hc;obtain ⟨rfl,rfl⟩:=g;exact qlz h (hT _ _ ht) hx hy ai hc (.inr ⟨rfl,rfl⟩)
    · rename_i hx hy;simp at g;obtain ⟨r,hr,rfl,rfl⟩:=g;exact qw9 h hx hy hr
    · rename_i hx hy;split at g <;> try simp at g
      rename_i i ht;obtain ⟨r,hr,rfl,rfl⟩:=g;exact qw8 h (hT _ _ ht) hx hy hr
    · simp at g
  case unOp op t x=>
    split at g <;> try simp at g
    rename_i p hx;obtain ⟨r,hr,rfl,rfl⟩:=g;exact qx0 h hx hr
  case convert src dst x=>
    split at g <;> try simp at g
    rename_i i j k n hi hj hx;split at g <;> simp at g
    rename_i k0 k1 az ay;obtain ⟨rfl,rfl⟩:=g;exact qwe h (hT _ _ hi) (hT _ _ hj) az ay hx
  case makeFunc fn first caps=>
    cases fn <;> simp only [reduceCtorEq] at g
    rename_i f;split at g
    · rename_i hf;simp at g;obtain ⟨vs,hv,rfl,rfl⟩:=g;exact qwr h hf hv
    · split at g
      · rename_i hc;simp only [Y0,Option.bind_eq_some_iff,Prod.mk.injEq] at g;obtain ⟨ds,⟨vs,hv,hd⟩,rfl,rfl⟩:=g;exact qwq h hc hv hd
      · simp at g
  case makeSlice t l c=>
    split at g <;> try simp at g
    rename_i i k1 n k2 m ht hl hc;obtain ⟨⟨h1,h2,h3,h4⟩,rfl,rfl⟩:=g;exact qwt h (hT _ _ ht) h1 hl hc h2 h3 h4
  case slice t x lo hi mx=>
    split at g <;> try simp at g
    rename_i i u ht hx;obtain ⟨⟨h1,h2⟩,g⟩:=g;split at g <;> try simp at g
    rename_i n hn;split at g <;> try simp at g
    rename_i p q hp hq;obtain ⟨r,hr,rfl,rfl⟩:=g;subst h2;exact qwy h (hT _ _ ht) h1 hx hn hp hq hr
  case fieldAddr s p f=>
    split at g <;> try simp at g
    rename_i i u ht hp;split at g <;> try simp at g
    rename_i off size ag hk hf;obtain ⟨r,hr,rfl,rfl⟩:=g;exact qwj h (hT _ _ ht) hp hk hf hr
  case field s x f=>
    split at g <;> try simp at g
    rename_i i u ht hx;split at g <;> try simp at g
    rename_i off size ag cs hk hf ha;split at g <;> try simp at g
    rename_i r hr;obtain ⟨y,hy,rfl,rfl⟩:=g;exact qwi h (hT _ _ ht) hx hk hf ha hr hy
  case indexAddr t x ix=>
    split at g <;> try simp at g
    rename_i i u k n ht hx hn;obtain ⟨y,hy,rfl,rfl⟩:=g;exact qwl h (hT _ _ ht) hx hn hy
  case index t x ix=>
    split at g <;> try simp at g
    rename_i i u k n ht hx hn;split at g <;> try simp only [reduceCtorEq] at g
    · rename_i cs hk ha;split at g <;> try simp at g
      rename_i h0;split at g <;> try simp at g
      rename_i r hr;obtain ⟨y,hy,rfl,rfl⟩:=g;exact qwk h (hT _ _ ht) hx hn hk ha h0 hr hy
    · rename_i hk;split at g <;> try simp only [reduceCtorEq] at g
      rename_i s;rw [Y0] at g;obtain ⟨b,hb,e⟩:=g;cases e;exact qwm h (hT _ _ ht) hx hn hk hb
  case extract x k=>
    split at g <;> try simp at g
    · rename_i vs hx;obtain ⟨y,hy,rfl,rfl⟩:=g;exact qm0 h (.inl ⟨vs,y,hx,hy,rfl⟩)
    · rename_i vs hx;obtain ⟨y,hy,rfl,rfl⟩:=g;exact qm0 h (.inr ⟨vs,hx,hy⟩)
  case nilCheck x=>
    have key : ∀ u,st.ev x = some u→(match a.eval x with | .pointer none | .nilIface | .nilFunc | .func (.method _) _ _=>False | _=>True)→Kt st st u w Z inj ((execOp a.eval {dst:=dst,op:=.nilCheck x,type:=type,pos:=pos,after:=after,guard:=guard}).run P w):=by
      intro u hx bb;have hr:=Kb h hx;refine .quiet (x:=a.eval x) h ?_ hr;simp only [execOp];split <;> simp_all
    split at g <;> simp at g
    all_goals
      rename_i hx
      obtain ⟨rfl,rfl⟩:=g
      refine key _ hx ?_
      have hr:=Kb h hx
      generalize a.eval x = xv at hr ⊢
      first
        | (cases hr with | d hr=>cases hr <;> trivial)
        | (cases hr <;> trivial)
  case makeMap t r=>
    split at g <;> try simp at g
    obtain ⟨hk,rfl,rfl⟩:=g;exact qws h
  case lookup t x k ok=>
    split at g <;> try simp at g
    · rename_i i n kd ht hx hk;split at g <;> try simp only [reduceCtorEq] at g
      rename_i ks o es z ai hb hz;split at g <;> try simp only [reduceCtorEq] at g
      rename_i af
      cases hg : mget i.eagg ks (.d z) kd es with
      | none=>rw [hg] at g;simp at g
      | some e=>
        rw [hg] at g;simp only [Option.map_some,Option.some.injEq,Prod.mk.injEq] at g;obtain ⟨rfl,rfl⟩:=g;exact qwo h (hT _ _ ht) ai hx hk hb hz af hg
    · rename_i i es kd ht hx hk;split at g <;> try simp only [reduceCtorEq] at g
      rename_i ks z ai hz;split at g <;> try simp only [reduceCtorEq] at g
      rename_i af
      cases hg : mget i.eagg ks (zNil i.esize z) kd es with
      | none=>rw [hg] at g;simp at g
      | some e=>
        rw [hg] at g;simp only [Option.map_some,Option.some.injEq,Prod.mk.injEq] at g;obtain ⟨rfl,rfl⟩:=g;exact qwp h (hT _ _ ht) ai hx hk hz af hg
  case mapUpdate t m k v=>
    split at g <;> try simp at g
    rename_i i n kd vd ht hm hk hv;split at g <;> try simp at g
    rename_i ks o es ai hb;obtain ⟨⟨af,hc⟩,bj,hg,rfl,rfl⟩:=g;exact qwu h (hT _ _ ht) ai hm hk hv hb af hc hg
  case call c=>
    obtain ⟨ba,args,argTypes⟩:=c;cases ba <;> simp only [reduceCtorEq] at g
    rename_i b;split at g <;> try simp at g
    rename_i vs hv;have hl:=q3h h hv;have e2 : (args.toList.map a.eval).toArray = args.map a.eval:=by apply Array.ext';simp
    rw [e2] at hl;have:=qp6 (ty:=type) (cs:=args.map fun | .const _=>true | _=>false) hT h hl g;simp only [execOp,resolve,Sem.run_bind,Sem.run_pure,Result.andThen_ok,invoke];exact this
end
end Go.Am
namespace Go.Am
open Go
variable {P : Program} {T : Tab}
theorem RelD.le {w : World} {Z : Nat→Prop} {x y : DV} {v : Value} (h : RelD w Z x v) (m : DLe x y) : RelD w Z y v:=by
  induction m generalizing v with
  | refl=>exact h
  | nil es=>cases h;exact .slnil es
  | tup hlen _ ih=>
    cases h with | @tup _ cs h1 h2=>
    refine .tup q8 fun i d c hd l=>?_;obtain ⟨x,f⟩:=Yq hlen.symm hd;exact ih i x d f hd (h2 i x c f l)
  | agg hlen _ ih=>
    cases h with | @agg _ cs h1 h2=>
    refine .agg q8 fun i d c hd l=>?_;obtain ⟨x,f⟩:=Yq hlen.symm hd;exact ih i x d f hd (h2 i x c f l)
  | @sl es xs ys hlen hrow hcell ih=>
    have k : xs = []→ys = []:=fun e=>List.length_eq_zero_iff.1 (by rw [← hlen,e];rfl)
    have row : ∀ (i : Nat) (y : List DV),ys[i]? = some y→∃ x,xs[i]? = some x∧x.length = y.length:=fun i y g=>by
      obtain ⟨x,f⟩:=Yq hlen.symm g;exact ⟨x,f,hrow i x y f g⟩
    have cell : ∀ (i : Nat) (y : List DV) (j : Nat) (d : DV),ys[i]? = some y→y[j]? = some d→∃ x c,xs[i]? = some x∧x[j]? = some c∧DLe c d:=fun i y j d g hd=>by
      obtain ⟨x,f,m⟩:=row i y g;obtain ⟨c,l⟩:=Yq m.symm hd;exact ⟨x,c,f,l,hcell i x y j c d f g l hd⟩
    cases h with
    | slnil=>rw [k rfl];exact .slnil es
    | slemp _ a=>rw [k rfl];exact .slemp es a
    | @sl _ _ b o cap h1 h2 h3 h4 h5=>
      rw [hlen];refine .sl q8 (fun s=>h2 fun e=>s (k e)) (fun i y g=>?_) (fun i y j d g hd=>?_) fun i y j d c g hd l=>?_
      · obtain ⟨x,f,m⟩:=row i y g;rw [← m];exact h3 i x f
      · obtain ⟨x,c,f,l,p⟩:=cell i y j d g hd;obtain ⟨q,t⟩:=h4 i x j c f l;refine ⟨?_,t⟩
        cases p with
        | refl=>exact q
        | nil=>rfl
        | tup=>exact absurd q (by simp [Zk])
        | agg=>exact absurd q (by simp [Zk])
        | sl=>rfl
      · obtain ⟨x,r,f,n,p⟩:=cell i y j d g hd;exact ih i x y j r d f g n hd (h5 i x j r c f n l)
section
variable {w : World} {Z : Nat→Prop} {inj : Inj} {st st' : AS} {a : Act} {Ds : List Nat} {base : Nat} {ρ : Nat→Nat} {fz ph : List Nat}
def fzB : Blk→Bool
  | .dat .. | .mp ..=>true
  | _=>false
theorem qf7 {b : Blk} (h : fzB b = true) : live b = true:=by cases b <;> simp_all [fzB,live]
def wkZ (Z : Nat→Prop) (inj : Inj) (st : AS) (fz : List Nat) (b : Nat) : Prop:=Z b∨∃ n∈fz,∃ blk o,find st.hp n = some blk∧fzB blk = true∧inj n = some (b,o)
theorem qmf {α β : Type} {f : α→β} {l : List β} {m : List α} (h : l.Perm (m.map f)) : ∃ q : List α,q.map f = l∧q.Perm m:=by
  generalize g : m.map f = x at h
  induction h generalizing m with
  | nil=>
    cases m with
    | nil=>exact ⟨[],rfl,.refl _⟩
    | cons b m=>simp at g
  | cons a _ ih=>
    cases m with
    | nil=>simp at g
    | cons b m=>
      simp only [List.map_cons,List.cons.injEq] at g;obtain ⟨q,k,j⟩:=ih g.2;exact ⟨b::q,by simp [k,g.1],j.cons b⟩
  | swap a b l=>
    match m,g with
    | c::d::m,g=>
      simp only [List.map_cons,List.cons.injEq] at g;exact ⟨d::c::m,by simp [g.1,g.2.1,g.2.2],.swap _ _ _⟩
  | trans _ _ ih1 ih2=>
    obtain ⟨q,k,j⟩:=ih2 g;obtain ⟨p,o,n⟩:=ih1 k;exact ⟨p,o,n.trans j⟩
theorem qyk {es : List (DV × V)} {ds : List (DV × DV)} (h : es.Perm (ds.map dV)) : ∃ a : List (DV × DV),es = a.map dV∧a.Perm ds:=by
  obtain ⟨q,b,c⟩:=qmf h;exact ⟨q,b.symm,c⟩
theorem qtw {ds : List (DV × DV)} : Jm (ds.map dV)↔Jm ds:=by
  unfold Jm;have : (ds.map dV).map (·.1) = ds.map (·.1):=by rw [List.map_map];rfl
  rw [this];constructor
  · rintro ⟨c,ag,ks,b⟩;exact ⟨c,ag,ks,fun e a=>b (dV e) (List.mem_map_of_mem a)⟩
  · rintro ⟨c,ag,ks,b⟩;refine ⟨c,ag,ks,fun e a=>?_⟩;obtain ⟨d,hd,rfl⟩:=List.mem_map.1 a;exact b d hd
def wkI (inj : Inj) (ρ : Nat→Nat) (ph : List Nat) : Inj:=fun n=>if n∈ph then none else inj (ρ n)
theorem qbp (h : RelH w Z inj st.hp st.nx) {nx' : Nat} {v v' : V} (hv : Wv st ρ fz ph nx' v v') : ∀ {x : Value},RelV w Z inj st.nx v x→RelV w (wkZ Z inj st fz) (wkI inj ρ ph) nx' v' x:=by
  have t : ∀ b,Z b→wkZ Z inj st fz b:=fun b hb=>.inl hb
  induction hv with
  | dead=>exact fun _=>.dead _
  | d hle=>intro x a;cases a with | d a=>exact .d ((a.le hle).mono (fun _ _=>rfl) t)
  | nil hm hlt=>intro x a;cases a with | d a=>cases a;exact .hsnil hlt
  | dref cs j=>intro x a;cases a with | dref h1 h2 h3=>exact .dref (t _ h1) h2 fun k d c hd m=>(h3 k d c hd m).mono (fun _ _=>rfl) t
  | ref hr hp hlt=>intro x a;cases a with | ref h1 h2=>exact .ref hlt (by simp only [wkI,hp,hr,if_false];exact h2)
  | hs hr hp hlt=>
    intro x a
    cases a with
    | hsnil h1=>exact .hsnil hlt
    | hs h1 h2 h3 h4=>exact .hs hlt h2 h3 fun m=>by obtain ⟨b,o,e1,e2,e3⟩:=h4 m;exact ⟨b,o,by simp only [wkI,hp,hr,if_false];exact e1,e2,e3⟩
  | yld hr hp hlt=>intro x a;cases a with | yld h1 h2=>exact .yld hlt (by simp only [wkI,hp,hr,if_false];exact h2)
  | mp hr hp hlt=>intro x a;cases a with | mp h1 h2=>exact .mp hlt (by simp only [wkI,hp,hr,if_false];exact h2)
  | it hr hp hlt=>intro x a;cases a with | it h1 h2=>exact .it hlt (by simp only [wkI,hp,hr,if_false];exact h2)
  | fn hl _ ih=>
    intro x a
    cases a with | @fn _ _ cs h1 h2=>
    refine .fn q8 fun i d c hd m=>?_;obtain ⟨y,p⟩:=Yq hl.symm hd;exact ih i y d p hd (h2 i y c p m)
  | agg hl _ ih=>
    intro x a
    cases a with | @agg _ cs h1 h2=>
    refine .agg q8 fun i d c hd m=>?_;obtain ⟨y,p⟩:=Yq hl.symm hd;exact ih i y d p hd (h2 i y c p m)
  | tup hl _ ih=>
    intro x a
    cases a with | @tup _ cs h1 h2=>
    refine .tup q8 fun i d c hd m=>?_;obtain ⟨y,p⟩:=Yq hl.symm hd;exact ih i y d p hd (h2 i y c p m)
  | dtup hl _ ih=>
    intro x a
    cases a with | d a=>cases a with | @tup _ cs h1 h2=>
    refine .tup q8 fun i d c hd m=>?_;obtain ⟨y,p⟩:=Yq hl.symm hd;exact ih i y d p hd (.d (h2 i y c p m))
  | dagg hl _ ih=>
    intro x a
    cases a with | d a=>cases a with | @agg _ cs h1 h2=>
    refine .agg q8 fun i d c hd m=>?_;obtain ⟨y,p⟩:=Yq hl.symm hd;exact ih i y d p hd (.d (h2 i y c p m))
  | @frz n es o l xs ys k hb hf hle hys hk=>
    intro x a;subst hk hys;have r : ((xs.drop o).take l).length = l:=by simp;omega
    have hB:=(h.blk n _ hb).2;obtain ⟨b1,b2,b3⟩:=hB
    cases a with
    | hsnil h1=>
      have : (xs.drop o).take 0 = []:=by simp
      rw [this];exact .d (.slnil _)
    | @hs _ _ _ _ cap ad h1 h2 h3 h4=>
      obtain ⟨bb,oo,sp⟩:=ad;simp only at h3;subst h3;by_cases h0 : l = 0
      · subst h0;have : (xs.drop o).take 0 = []:=by simp
        rw [this];exact .d (RelD.sl (es:=k) (xs:=[]) qd qd qd qd qd)
      · obtain ⟨b,o',e1,e2,e3⟩:=h4 q8;rw [e2];rcases b3 with ⟨_,q⟩ | ⟨b',ai,arr,ty,q,b5,b6⟩
        · rw [e1] at q;cases q
        · rw [e1] at q;cases q
          have g : ∀ (i : Nat) (x : List DV),((xs.drop o).take l)[i]? = some x→xs[o + i]? = some x:=by
            intro i x a;rw [List.getElem?_take] at a;split at a
            · rwa [List.getElem?_drop] at a
            · simp at a
          have e9 : ∀ i j,o' + o * k + (i * k + j) = o' + ((o + i) * k + j):=by intro i j;rw [Nat.add_mul];omega
          have f : ∀ (i : Nat) (x : List DV) (j : Nat) (d : DV),((xs.drop o).take l)[i]? = some x→x[j]? = some d→Zk d = true∧∃ c,w.cell? ⟨b,o' + o * k + (i * k + j),none⟩ = some c∧RelD w Z d c:=by
            intro i x j d a hd;obtain ⟨c1,c,c2,c3⟩:=b6 _ x j d (g i x a) hd;exact ⟨c1,c,by rw [e9];simp only [World.cell?,b5];exact c2,c3⟩
          have:=RelD.sl (w:=w) (Z:=wkZ Z inj st fz) (es:=k) (xs:=(xs.drop o).take l) (b:=b) (o:=o' + o * k) (cap:=cap) (by rw [r];exact h2) (fun _=>.inr ⟨n,hf,_,o',hb,rfl,e1⟩) (fun i x a=>b2 _ _ (g i x a))
            (fun i x j d a hd=>by obtain ⟨c1,c,c2,_⟩:=f i x j d a hd;exact ⟨c1,c,c2⟩)
            (fun i x j d c a hd m=>by obtain ⟨_,c',c2,c3⟩:=f i x j d a hd;rw [c2] at m;cases m;exact c3.mono (fun _ _=>rfl) t)
          rw [r] at this;exact .d this
  | @frzB n es cs k hb hf hk=>
    intro x a;subst hk;obtain ⟨b1,b2,b3⟩:=(h.blk n _ hb).2
    cases a with | @ref _ _ _ _ b o h1 h2=>
    rcases b3 with ⟨q,_⟩ | ⟨b',ai,arr,ty,q,b5,b6⟩
    · simp at q
    · rw [h2] at q;cases q
      have f : ∀ (j : Nat) (d : DV),cs[j]? = some d→∃ c,w.cell? ⟨b,o + (0 * k + 0) + j,none⟩ = some c∧RelD w Z d c:=by
        intro j d hd;obtain ⟨c1,c,c2,c3⟩:=b6 0 cs j d rfl hd;exact ⟨c,by simp only [World.cell?,b5];rw [← c2];simp,c3⟩
      exact .d (.box (.inr ⟨n,hf,_,o,hb,rfl,h2⟩) (fun j d hd=>by obtain ⟨c,c2,_⟩:=f j d hd;exact ⟨c,c2⟩)
        (fun j d c hd m=>by obtain ⟨c',c2,c3⟩:=f j d hd;rw [c2] at m;cases m;exact c3.mono (fun _ _=>rfl) t))
  | @frzM n o es ds hb hf hp=>
    intro x a
    cases a with | @mp _ b hn hi=>
    obtain ⟨b',z,cl,es2,e1,e2,e3,e4,e5,e6,e7,e8⟩:=(h.blk n _ hb).2;rw [hi] at e1;cases e1;obtain ⟨u,ae,hp2⟩:=qyk (e3.trans hp);subst ae;have g : ∀ (i : Nat) (e : DV × DV),u[i]? = some e→(u.map dV)[i]? = some (dV e):=fun i e s=>by simp [s]
    refine .d (.mp (es2:=u) (.inr ⟨n,hf,_,0,hb,rfl,hi⟩) e2 hp2 (qtw.1 e5) e6 (by simpa using e7) (fun i e s=>?_) (fun i e x s a=>?_) (fun i e x s a=>?_))
    · obtain ⟨x,a⟩:=Y1 (xs:=z) (i:=i) (by rw [e7];simpa using K7 s);exact (e8 i _ x (g i e s) a).2.2
    · exact (e8 i _ x (g i e s) a).1.mono (fun _ _=>rfl) t
    · have:=(e8 i _ x (g i e s) a).2.1
      cases this with | d this=>exact this.mono (fun _ _=>rfl) t
theorem qyl {es a es2 : List (DV × V)} (hp : es2.Perm es) (v : es.length = a.length) (hk : ∀ (i : Nat) (e p : DV × V),es[i]? = some e→a[i]? = some p→e.1 = p.1) :
    ∃ c : List (DV × V),c.Perm a∧(es2 = es→c = a)∧c.map (·.1) = es2.map (·.1)∧∀ (i : Nat) (e : DV × V),c[i]? = some e→∃ e0,es2[i]? = some e0∧∃ j : Nat,es[j]? = some e0∧a[j]? = some e:=by
  by_cases h : es2 = es
  · subst h;refine ⟨a,.refl _,fun _=>rfl,?_,fun i e b=>?_⟩
    · apply List.ext_getElem?;intro i;simp only [List.getElem?_map]
      cases k : a[i]? with
      | none=>
        have : es2[i]? = none:=by rw [List.getElem?_eq_none_iff] at k ⊢;omega
        rw [this]
      | some p=>
        obtain ⟨e,b⟩:=Zi (xs:=es2) (i:=i) (by have:=K7 k;omega);rw [b];simp [hk i e p b k]
    · obtain ⟨e0,s⟩:=Zi (xs:=es2) (i:=i) (by have:=K7 b;omega);exact ⟨e0,s,i,s,b⟩
  · have u : es = (es.zip a).map (·.1):=(List.map_fst_zip q8).symm;have r : a = (es.zip a).map (·.2):=(List.map_snd_zip q8).symm;obtain ⟨q,g,d⟩:=qmf (f:=(·.1)) (l:=es2) (m:=es.zip a) (by rw [← u];exact hp);refine ⟨q.map (·.2),?_,fun e=>absurd e h,?_,fun i e b=>?_⟩
    · have:=d.map (·.2);rwa [← r] at this
    · rw [← g];simp only [List.map_map];apply List.map_congr_left;intro x n;have:=d.mem_iff.1 n;obtain ⟨j,o,b⟩:=List.mem_iff_getElem.1 this
      have k : es[j]? = some x.1:=by
        have:=List.getElem?_zip_eq_some.1 (show (es.zip a)[j]? = some (x.1,x.2) by rw [List.getElem?_eq_getElem o,b]);exact this.1
      have t : a[j]? = some x.2:=by
        have:=List.getElem?_zip_eq_some.1 (show (es.zip a)[j]? = some (x.1,x.2) by rw [List.getElem?_eq_getElem o,b]);exact this.2
      exact (hk j _ _ k t).symm
    · simp only [List.getElem?_map,Y0] at b;obtain ⟨x,n,rfl⟩:=b;refine ⟨x.1,by rw [← g];simp [n],?_⟩;have:=d.mem_iff.1 (List.mem_of_getElem? n);obtain ⟨j,o,b⟩:=List.mem_iff_getElem.1 this;have:=List.getElem?_zip_eq_some.1 (show (es.zip a)[j]? = some (x.1,x.2) by rw [List.getElem?_eq_getElem o,b]);exact ⟨j,this.1,this.2⟩
theorem q13m (h : RelH w Z inj st.hp st.nx) {nx' n : Nat} {b b' : Blk} (hp : n ∉ ph) (hw : Wb st ρ fz ph nx' b b') (hb : RelB w Z inj st.nx (ρ n) b) : RelB w (wkZ Z inj st fz) (wkI inj ρ ph) nx' n b':=by
  have z : ∀ b,Z b→wkZ Z inj st fz b:=fun b hb=>.inl hb;have hi : wkI inj ρ ph n = inj (ρ n):=by simp [wkI,hp]
  cases hw with
  | dead=>trivial
  | dat es xs=>
    obtain ⟨l,p,a⟩:=hb;refine ⟨l,p,?_⟩;rcases a with ⟨a,g⟩ | ⟨b,o,arr,ty,a,g,m⟩
    · exact .inl ⟨a,hi.trans g⟩
    · exact .inr ⟨b,o,arr,ty,hi.trans a,g,fun i x j d f hd=>by obtain ⟨c1,c,c2,c3⟩:=m i x j d f hd;exact ⟨c1,c,c2,c3.mono (fun _ _=>rfl) z⟩⟩
  | mp o hl hc=>
    obtain ⟨b,k,cl,es2,l,p,a,g,m,h6,h7,h8⟩:=hb;obtain ⟨ah,k1,k2,k3,k4⟩:=qyl a hl (fun i e e' q ai=>(hc i e e' q ai).1);have hm : ah.map (·.1) = es2.map (·.1):=k3;refine ⟨b,k,cl,ah,hi.trans l,p,k1,fun ho=>k2 (g ho),⟨by rw [hm];exact m.1,?_⟩,h6,by rw [h7];simpa using (congrArg List.length k3).symm,fun i e x q f=>?_⟩
    · obtain ⟨_,ag,ks,m⟩:=m;refine ⟨ag,ks,fun e q=>?_⟩;have : e.1∈es2.map (·.1):=by rw [← hm];exact List.mem_map_of_mem q
      obtain ⟨e',g1,g2⟩:=List.mem_map.1 this;rw [← g2];exact m e' g1
    · obtain ⟨e0,g0,j,g1,g2⟩:=k4 i e q;obtain ⟨q1,q2,q3⟩:=h8 i e0 x g0 f;obtain ⟨c1,c2,c3⟩:=hc j e0 e g1 g2;exact ⟨c1 ▸ q1.mono (fun _ _=>rfl) z,qbp h c2 q2,c3⟩
  | mpP hp=>
    obtain ⟨b,k,cl,es2,l,p,a,g,m,h6,h7,h8⟩:=hb;refine ⟨b,k,cl,es2,hi.trans l,p,a.trans (hp.map _),qd,m,h6,h7,fun i e x q f=>?_⟩;obtain ⟨q1,q2,q3⟩:=h8 i e x q f;have ak:=a.mem_iff.1 (List.mem_of_getElem? q);obtain ⟨d,_,rfl⟩:=List.mem_map.1 ak;refine ⟨q1.mono (fun _ _=>rfl) z,?_,q3⟩
    cases q2 with | d q2=>exact .d (q2.mono (fun _ _=>rfl) z)
  | itF cur rest=>
    obtain ⟨r,b,k,cl,seen,es2,js,l,p,a,g,m,h6,h7,h8⟩:=hb;exact ⟨r,b,k,cl,seen,es2,js,hi.trans l,p,z _ a,g,m,h6,fun i e x q f=>⟨(h7 i e x q f).1.mono (fun _ _=>rfl) z,(h7 i e x q f).2.mono (fun _ _=>rfl) z⟩,h8⟩
  | itFn cur rest=>
    obtain ⟨r,b,k,cl,seen,es2,js,l,p,a,g,m,h6,h7,h8,h9,ap,_⟩:=hb;exact ⟨r,b,k,cl,seen,es2,js,hi.trans l,p,z _ a,g,m,h6,fun i e x q f=>⟨(h7 i e x q f).1.mono (fun _ _=>rfl) z,(h7 i e x q f).2.mono (fun _ _=>rfl) z⟩,h8,h9,ap,qd⟩
  | itOn sz cur rest hr hm hlt=>
    obtain ⟨r,b,seen,l,p,a,g,m,h6,_⟩:=hb;exact ⟨r,b,seen,hi.trans l,hlt,by simp only [wkI,hm,if_false,hr];exact a,g,m,h6,qd⟩
  | itO sz cur rest hr hm hlt=>
    obtain ⟨r,b,seen,l,p,a,g⟩:=hb;exact ⟨r,b,seen,hi.trans l,hlt,by simp only [wkI,hm,if_false,hr];exact a,g⟩
  | cel hl hc=>
    obtain ⟨l,p,a⟩:=hb;refine ⟨l,?_,?_⟩
    · intro i y u;obtain ⟨x,f⟩:=Yq hl.symm u;rw [← (hc i x y f u).1];exact p i x f
    · rcases a with ⟨a,g⟩ | ⟨b,o,arr,ty,a,g,m⟩
      · exact .inl ⟨List.eq_nil_of_length_eq_zero (by rw [← hl,a];rfl),hi.trans g⟩
      · refine .inr ⟨b,o,arr,ty,hi.trans a,g,fun i y j d u hd=>?_⟩;obtain ⟨x,f⟩:=Yq hl.symm u;obtain ⟨l1,l2⟩:=hc i x y f u;obtain ⟨c0,s⟩:=Yq l1.symm hd;obtain ⟨m1,m2⟩:=l2 j c0 d s hd;obtain ⟨c1,c,c2,c3⟩:=m i x j c0 f s;exact ⟨m2,c,c2,qbp h m1 c3⟩
  | datcel hl hc=>
    obtain ⟨l,p,a⟩:=hb;refine ⟨l,?_,?_⟩
    · intro i y u;obtain ⟨x,f⟩:=Yq hl.symm u;rw [← (hc i x y f u).1];exact p i x f
    · rcases a with ⟨a,g⟩ | ⟨b,o,arr,ty,a,g,m⟩
      · exact .inl ⟨List.eq_nil_of_length_eq_zero (by rw [← hl,a];rfl),hi.trans g⟩
      · refine .inr ⟨b,o,arr,ty,hi.trans a,g,fun i y j d u hd=>?_⟩;obtain ⟨x,f⟩:=Yq hl.symm u;obtain ⟨l1,l2⟩:=hc i x y f u;obtain ⟨c0,s⟩:=Yq l1.symm hd;obtain ⟨m1,m2⟩:=l2 j c0 d s hd;obtain ⟨c1,c,c2,c3⟩:=m i x j c0 f s;exact ⟨m2,c,c2,qbp h m1 (.d c3)⟩
  | loop hs=>
    obtain ⟨b,tmps,D,fn,l,p,a,g⟩:=hb;refine ⟨b,tmps,D,fn,hi.trans l,p,a,fun t v' ht=>?_⟩;obtain ⟨v,hv,hw⟩:=hs t v' ht;obtain ⟨x,f,hr⟩:=g t v hv;exact ⟨x,f,qbp h hw hr⟩
theorem qoi {nx' : Nat} {b a : Blk} (c : Wb st ρ fz ph nx' b a) (d : live a = true) : live b = true:=by
  cases c <;> first | rfl | simp [live] at d
theorem q1h (h : RelS w Z inj st a Ds) (z : Wk base ρ fz ph st st') : RelS w (wkZ Z inj st fz) (wkI inj ρ ph) st' a Ds∧Ext w Z inj st.hp w (wkZ Z inj st fz) (wkI inj ρ ph) st'.hp base:=by
  have back : ∀ n u,st'.blk n = some u→live u = true→∀ p,wkI inj ρ ph n = some p→n ∉ ph∧∃ b,st.blk (ρ n) = some b∧live b = true∧inj (ρ n) = some p:=by
    intro n u hb hl p hp;have j : n ∉ ph:=by intro hc;simp [wkI,hc] at hp
    obtain ⟨_,l⟩:=z.blocks n u hb;rcases l with ⟨l,_⟩ | ⟨_,b,h3,h4⟩
    · exact absurd l j
    · exact ⟨j,b,h3,qoi h4 hl,by simpa [wkI,j] using hp⟩
  refine ⟨⟨?_,⟨?_,?_,?_,?_,?_⟩,h.defs,h.nodup,h.marks⟩,?_⟩
  · intro t v' ht;obtain ⟨v,hv,ah⟩:=z.slots t v' ht;obtain ⟨x,hx,hr⟩:=h.slots t v hv;exact ⟨x,hx,qbp h.heap ah hr⟩
  · intro n u hb;obtain ⟨h1,l⟩:=z.blocks n u hb;refine ⟨h1,?_⟩;rcases l with ⟨l,es,am,rfl⟩ | ⟨l,b,h3,h4⟩
    · exact ⟨am,qd,.inl ⟨rfl,by simp [wkI,l]⟩⟩
    · exact q13m h.heap l h4 (h.heap.blk _ _ h3).2
  · intro n m b c p q hn hm ao al hp hq ag;obtain ⟨n1,b0,n2,n3,n4⟩:=back n b hn ao p hp;obtain ⟨m1,c0,m2,m3,m4⟩:=back m c hm al q hq;exact h.heap.sep _ _ b0 c0 p q n2 m2 n3 m3 n4 m4 (fun e=>ag (z.inj n m b c hn hm n1 m1 e))
  · intro n b p hn hl hp d;obtain ⟨n1,b0,n2,n3,n4⟩:=back n b hn hl p hp;rcases d with d | ⟨m,hm,blk,o,k,s,g⟩
    · exact h.heap.out _ b0 p n2 n3 n4 d
    · exact h.heap.sep _ _ b0 _ p (p.1,o) n2 k n3 (qf7 s) n4 g (fun e=>z.free n b hn n1 (by rw [e];exact hm)) rfl
  · intro b d;rcases d with d | ⟨m,hm,blk,o,k,s,g⟩
    · exact h.heap.zs b d
    · exact h.heap.im_lt ⟨m,_,o,k,qf7 s,g⟩
  · intro b d;rcases d with d | ⟨m,hm,blk,o,k,s,g⟩
    · exact h.heap.zc b d
    · have hB:=(h.heap.blk m _ k).2;cases blk <;> simp only [fzB,reduceCtorEq] at s
      · obtain ⟨_,_,b3⟩:=hB;rcases b3 with ⟨_,y⟩ | ⟨u,bb,arr,ty,y,b5,_⟩
        · rw [g] at y;cases y
        · rw [g] at y;cases y;exact .inl ⟨_,_,_,b5⟩
      · obtain ⟨u,ap,cl,es2,y,b5,_⟩:=hB;rw [g] at y;cases y;exact .inr ⟨_,_,b5⟩
  · refine ⟨Nat.le_refl _,fun _ _ _=>rfl,?_,fun _ c e f h=>⟨c,e,f,h,rfl⟩,fun _ r h=>⟨r,h,rfl⟩,fun _ h=>.inl h,?_,?_,rfl,rfl,rfl,fun _=>rfl⟩
    · rintro b ⟨n,blk,o,k,s,g⟩;obtain ⟨n1,b0,n2,n3,n4⟩:=back n blk k s _ g;exact .inl ⟨_,b0,o,n2,n3,n4⟩
    · intro b d;rcases d with d | ⟨m,hm,blk,o,k,s,g⟩
      · exact .inl d
      · exact .inr (.inl ⟨m,_,o,k,qf7 s,g⟩)
    · intro n hn;have j : n ∉ ph:=fun hc=>by have:=z.phantom n hc;omega
      simp [wkI,j,z.small n hn]
end
end Go.Am
namespace Go.Am
open Go
variable {P : Program} {T : Tab}
section
variable {w : World} {Z : Nat→Prop} {inj : Inj} {st : AS} {a : Act} {Ds : List Nat}
theorem qz7 {r : ResultVar} {v : V} (l : Z8 P T) (h : RelH w Z inj st.hp st.nx) (hs : Z7 w Z inj st.nx st.sl a.tmps) (f : qgj T st r = some v) :
    ∃ x,(match r with | .tmp t=>pure (a.tmps.getD t undef) | .cell p t=>(do loadVar t (← asAddr (a.tmps.getD p undef)) : Sem Value) : Sem Value).run P w = .ok x w∧RelV w Z inj st.nx v x:=by
  cases r with
  | tmp t=>
    obtain ⟨x,g,d⟩:=hs t v f;exact ⟨x,by simp [Array.getD_eq_getD_getElem?,g],d⟩
  | cell p t=>
    simp only [qgj] at f;split at f <;> try simp at f
    rename_i pv i hp k;obtain ⟨x,g,d⟩:=hs p pv hp;obtain ⟨b,o,y,e,c,j⟩:=qkt (P:=P) h (l _ _ k) d f;refine ⟨y,?_,j⟩;rw [e] at g c;simp [Instr.loadAt,Instr.sureAddr] at c;simp [Array.getD_eq_getD_getElem?,g,asAddr,c]
theorem qmy (s : Z8 P T) (h : RelH w Z inj st.hp st.nx) (hs : Z7 w Z inj st.nx st.sl a.tmps) (g : ResultVar→Sem Value) (f : ∀ t,g (.tmp t) = pure (a.tmps.getD t undef))
    (j : ∀ p t,g (.cell p t) = (do loadVar t (← asAddr (a.tmps.getD p undef)))) : ∀ {l : List ResultVar} {k : List V},resL T st l = some k→
    ∃ xs : List Value,(l.mapM g).run P w = .ok xs w∧LRel w Z inj st.nx k xs.toArray
  | [],k,hr=>by simp [resL] at hr;subst hr;exact ⟨[],qd,qd,qd⟩
  | r::l,k,hr=>by
    simp only [resL] at hr
    split at hr <;> try simp at hr
    rename_i v y z u
    subst hr
    obtain ⟨x,n,b⟩:=qz7 s h hs z
    obtain ⟨xs,o,q⟩:=qmy s h hs g f j u
    have n : (g r).run P w = .ok x w:=by
      rw [← n];cases r
      · rw [f]
      · rw [j]
    refine ⟨x::xs,?_,?_,?_⟩
    · rw [List.mapM_cons]
      simp only [Sem.run_bind,n,Result.andThen_ok,o,Sem.run_pure]
    · have:=q.1;simp at this ⊢;omega
    · intro i d c hd m
      cases i with
      | zero=>simp at hd m;subst hd m;exact b
      | succ i=>simp at hd m;exact q.2 i d c hd (by simpa using m)
theorem quq {nx : Nat} {cs : List V} {xs : Array Value} (h : LRel w Z inj nx cs xs) : RelV w Z inj nx (qfs cs) (.tuple xs):=by
  unfold qfs;split
  · rename_i ds hd;have:=q48 hd;subst this;refine .d (.tup (by simpa using h.1) fun i d c b a=>?_);have:=h.2 i (.d d) c (by simp [b]) a
    cases this with | d h=>exact h
  · exact .tup h.1 h.2
theorem qz8 {fn : Func} {v : V} (q : Z8 P T) (h : RelH w Z inj st.hp st.nx) (hs : Z7 w Z inj st.nx st.sl a.tmps) (c : resV T st fn.results.toList = some v) : ∃ x,(results fn a.tmps).run P w = .ok x w∧RelV w Z inj st.nx v x:=by
  unfold resV at c
  have key : ∀ f,resL T st fn.results.toList = some f→∃ xs : List Value,(results fn a.tmps).run P w = .ok (if h : xs.toArray.size = 1 then xs.toArray[0] else .tuple xs.toArray) w∧LRel w Z inj st.nx f xs.toArray:=by
    intro f b;unfold results;generalize n : (fun x=>match x with | .tmp t=>pure (a.tmps.getD t undef) | .cell p t=>(do loadVar t (← asAddr (a.tmps.getD p undef)) : Sem Value) : ResultVar→Sem Value) = g;rw [Sem.run_bind,Array.mapM_eq_mapM_toList,Sem.run_map];obtain ⟨xs,m,d⟩:=qmy q h hs g (fun t=>by rw [← n]) (fun p t=>by rw [← n]) b;refine ⟨xs,?_,d⟩;rw [m];rfl
  split at c
  · rename_i s b;simp at c;subst c;obtain ⟨xs,k,d⟩:=key _ b;obtain ⟨y,o,j⟩:=qcq d;have : xs = [y]:=by simpa using congrArg Array.toList o
    subst this;exact ⟨y,by simpa using k,j⟩
  · rename_i f l b;simp at c;subst c;obtain ⟨xs,k,d⟩:=key _ b;refine ⟨.tuple xs.toArray,?_,quq d⟩
    have : xs.toArray.size≠1:=by
      rw [← d.1];intro r
      match f,r with
      | [x],_=>exact l x rfl
    rw [dif_neg this] at k;exact k
  · simp at c
end
end Go.Am
