/- Am5 Am6 Am7 Am8 Am9 Am10 Am11 -/
import Derived.Test.YtgkialgkmjnfbaaGreatK1
import Derived.Laws.CopyRow
namespace Go.Am
open Go
variable {P : Program} {T : Tab}
theorem K7 {α : Type} {xs : List α} {i : Nat} {x : α} (h : xs[i]? = some x) : i < xs.length:=(List.getElem?_eq_some_iff.1 h).1
theorem Zi {α : Type} {xs : List α} {i : Nat} (h : i < xs.length) : ∃ x,xs[i]? = some x:=⟨xs[i],List.getElem?_eq_getElem h⟩
theorem Y1 {α : Type} {xs : Array α} {i : Nat} (h : i < xs.size) : ∃ x,xs[i]? = some x:=⟨xs[i],Array.getElem?_eq_getElem h⟩
theorem Ze {α : Type} {xs : Array α} {i : Nat} {x : α} (h : xs[i]? = some x) : i < xs.size:=(Array.getElem?_eq_some_iff.1 h).1
theorem Qy {α : Type} (k : Nat) (v : α) (r : List (Nat × α)) (t : Nat) : find ((k,v)::r) t = if k = t then some v else find r t:=by
  simp only [find];by_cases h : k = t
  · subst h;simp
  · have : Nat.beq k t = false:=by cases hb : Nat.beq k t with
      | false=>rfl
      | true=>exact absurd (Nat.eq_of_beq_eq_true hb) h
    rw [this];simp [h]
theorem Kx {α : Type} (l : List (Nat × α)) (k t : Nat) (x : α) : find (repl l k x) t = if k = t then (find l k).map (fun _=>x) else find l t:=by
  induction l with
  | nil=>simp [repl,find]
  | cons a r ih=>
    obtain ⟨m,v⟩:=a;simp only [repl];by_cases c : m = k
    · subst c;simp only [Nat.beq_refl,Qy];by_cases b : m = t
      · simp [b]
      · simp [b]
    · have hb : Nat.beq m k = false:=by cases hb : Nat.beq m k with
        | false=>rfl
        | true=>exact absurd (Nat.eq_of_beq_eq_true hb) c
      rw [hb];simp only [Qy,ih];by_cases b : k = t
      · subst b;simp [c]
      · simp only [b,if_false]
def upd (inj : Inj) (n : Nat) (p : Option (Nat × Nat)) : Inj:=fun m=>if m = n then p else inj m
theorem Y6 (inj : Inj) (n : Nat) (p : Option (Nat × Nat)) : upd inj n p n = p:=by simp [upd]
theorem Yj (inj : Inj) {n m : Nat} (p : Option (Nat × Nat)) (h : m < n) : upd inj n p m = inj m:=by simp [upd];omega
section
variable {w w' : World} {Z : Nat→Prop} {inj : Inj} {st : AS} {a : Act} {Ds : List Nat}
theorem Sem.keepBig_of_same (h : w'.heap = w.heap) : J3 w w':=fun b c e f hb=>⟨c,e,f,by rw [h];exact hb,rfl⟩
theorem Ext.same {hp : List (Nat × Blk)} {pin : Nat} (h : w'.heap = w.heap) (d : w'.tape = w.tape) (c : w'.os = w.os) (f : w'.output = w.output) : Ext w Z inj hp w' Z inj hp pin:=
  ⟨by rw [h];exact Nat.le_refl _,fun _ _ _=>by rw [h],fun _ h=>.inl h,Sem.keepBig_of_same h,fun b r hb=>⟨r,by rw [h];exact hb,rfl⟩,fun _ h=>h,fun _ h=>.inl h,fun _ _=>rfl,d,c,f,fun a=>by simp only [World.frozen?,h]⟩
theorem RelH.same {hp : List (Nat × Blk)} {nx : Nat} (a : RelH w Z inj hp nx) (h : w'.heap = w.heap) : RelH w' Z inj hp nx:=
  ⟨fun n b hb=>⟨(a.blk n b hb).1,(a.blk n b hb).2.mono (fun _ _=>by rw [h]) (fun _ h=>h) (Sem.keepBig_of_same h) (fun _ _=>rfl) (Nat.le_refl _) (a.blk n b hb).1 (fun _ _ _=>by rw [h])⟩,a.sep,a.out,fun b hb=>by rw [h];exact a.zs b hb,fun b hb=>by rw [h];exact a.zc b hb⟩
theorem Zs (w : World) (o : Obj) {b : Nat} (h : b < w.heap.size) : (w.alloc o).heap[b]? = w.heap[b]?:=by
  show (w.heap.push o)[b]? = _;rw [Array.getElem?_push,qw q8]
theorem Jb (w : World) (o : Obj) : (w.alloc o).heap[w.heap.size]? = some o:=by
  show (w.heap.push o)[w.heap.size]? = _;rw [Array.getElem?_push,qu rfl]
theorem q3o (w : World) (o : Obj) : J3 w (w.alloc o):=fun _b c e f h=>⟨c,e,f,(Zs w o (J1 h)).trans h,rfl⟩
theorem qkg (w : World) (o : Obj) : qbt w (w.alloc o):=fun _b r h=>⟨r,(Zs w o (J1 h)).trans h,rfl⟩
theorem RelH.new {hp : List (Nat × Blk)} {nx : Nat} (a : RelH w Z inj hp nx) (o : Obj) (blk : Blk) (off : Nat)
    (hb : RelB (w.alloc o) Z (upd inj nx (some (w.heap.size,off))) (nx + 1) nx blk) :
    RelH (w.alloc o) Z (upd inj nx (some (w.heap.size,off))) ((nx,blk)::hp) (nx + 1):=by
  refine ⟨?_,?_,?_,?_,fun b j=>by rw [Zs w o (a.zs b j)];exact a.zc b j⟩
  · intro n b h;rw [Qy] at h;by_cases d : nx = n
    · subst d;simp at h;subst h;exact ⟨q8,hb⟩
    · simp only [d,if_false] at h;obtain ⟨u,k⟩:=a.blk n b h;refine ⟨q8,k.mono (fun b j=>Zs w o (a.zs b j)) (fun _ h=>h) (q3o w o) (fun m g=>Yj _ _ g) q8 u ?_⟩;intro p hp x;exact Zs w o (by rcases k.lt x hp with ⟨_,_,e⟩ | ⟨_,e⟩ | ⟨_,_,e⟩ <;> exact J1 e)
  · intro n m b c p q d g t r hp l v;rw [Qy] at d g;by_cases u : nx = n
    · by_cases k : nx = m
      · omega
      · subst u;simp only [k,if_false] at g;rw [Y6] at hp;cases hp;have f:=(a.blk m c g).1;rw [Yj _ _ f] at l;have:=a.im_lt ⟨m,c,q.2,g,r,l⟩;intro e;simp at e;omega
    · simp only [u,if_false] at d;have s:=(a.blk n b d).1;rw [Yj _ _ s] at hp;by_cases k : nx = m
      · subst k;rw [Y6] at l;cases l;have:=a.im_lt ⟨n,b,p.2,d,t,hp⟩;intro e;simp at e;omega
      · simp only [k,if_false] at g;have f:=(a.blk m c g).1;rw [Yj _ _ f] at l;exact a.sep n m b c p q d g t r hp l v
  · intro n b p h x hp j;rw [Qy] at h;by_cases d : nx = n
    · subst d;rw [Y6] at hp;cases hp;have:=a.zs _ j;simp at this
    · simp only [d,if_false] at h;rw [Yj _ _ (a.blk n b h).1] at hp;exact a.out n b p h x hp j
  · intro b j;have:=a.zs b j;simp;omega
theorem Ext.new {hp : List (Nat × Blk)} {nx : Nat} (l : RelH w Z inj hp nx) (o : Obj) (blk : Blk) (off : Nat) (j : Unfr o:=by first | exact rfl | exact trivial) : Ext w Z inj hp (w.alloc o) Z (upd inj nx (some (w.heap.size,off))) ((nx,blk)::hp) nx:=by
  refine ⟨qd,fun b hb _=>Zs w o hb,?_,q3o w o,qkg w o,fun _ h=>h,fun _ h=>.inl h,fun n g=>Yj _ _ g,rfl,rfl,rfl,qjy w j⟩;rintro b ⟨n,a,c,d,k,f⟩;rw [Qy] at d;by_cases g : nx = n
  · subst g;rw [Y6] at f;cases f;exact .inr (Nat.le_refl _)
  · simp only [g,if_false] at d;rw [Yj _ _ (l.blk n a d).1] at f;exact .inl ⟨n,a,c,d,k,f⟩
theorem q3p (w : World) (g : Nat) (old cs : Array Value) (t : TypeId) (d : Nat × Nat) (a : w.heap[g]? = some (.cells old t d)) (hs : cs.size = old.size) : J3 w (w.setRow g cs):=by
  intro b c e f h;by_cases hb : b = g
  · subst hb;rw [a] at h;cases h;exact ⟨cs,_,_,setRow_heap w b _ cs _ _ a,hs⟩
  · exact ⟨c,e,f,(setRow_other w g b cs hb).trans h,rfl⟩
theorem qkh (w : World) (g : Nat) (old cs : Array Value) (t : TypeId) (c : Nat × Nat) (a : w.heap[g]? = some (.cells old t c)) : qbt w (w.setRow g cs):=by
  intro b r h;by_cases hb : b = g
  · subst hb;rw [a] at h;cases h
  · exact ⟨r,(setRow_other w g b cs hb).trans h,rfl⟩
theorem qk0 (w : World) (g : Nat) (old cs : Array Value) (t : TypeId) (c : Nat × Nat) (b : w.heap[g]? = some (.cells old t c)) (a : Addr) : (w.setRow g cs).frozen? a = w.frozen? a:=by
  by_cases h : a.block = g
  · have e1:=setRow_heap w g old cs t c b;subst h;simp only [World.frozen?,e1,b]
  · have : (w.setRow g cs).heap[a.block]? = w.heap[a.block]?:=by
      simp only [World.setRow,Array.getElem?_modify];rw [qw (fun e=>h e.symm)]
    simp only [World.frozen?,this]
theorem RelH.set {hp : List (Nat × Blk)} {nx n : Nat} (f : RelH w Z inj hp nx) {o blk : Blk} (l : find hp n = some o) (a : live o = true) {g off : Nat} (hi : inj n = some (g,off)) {old cs : Array Value} {t : TypeId} {fr : Nat × Nat}
    (hg : w.heap[g]? = some (.cells old t fr)) (hs : cs.size = old.size) (hb : RelB (w.setRow g cs) Z inj nx n blk) :
    RelH (w.setRow g cs) Z inj (repl hp n blk) nx:=by
  have v : ∀ b,Z b→b≠g:=fun b d e=>f.out n o _ l a hi (by rw [← e];exact d);refine ⟨?_,?_,?_,fun b d=>by simpa using f.zs b d,fun b d=>by rw [setRow_other w g b cs (v b d)];exact f.zc b d⟩
  · intro m b h;rw [Kx] at h;by_cases j : n = m
    · subst j;simp [l] at h;subst h;exact ⟨(f.blk n o l).1,hb⟩
    · simp only [j,if_false] at h;obtain ⟨x,z⟩:=f.blk m b h;refine ⟨x,z.mono (fun b d=>setRow_other w g b cs (v b d)) (fun _ h=>h) (q3p w g old cs t fr hg hs) (fun _ _=>rfl) (Nat.le_refl _) x ?_⟩;intro p hp y;exact setRow_other w g p.1 cs (fun e=>f.sep n m o b _ _ l h a y hi hp j e.symm)
  · intro m k b c p q x z ag ae ad aa ab;rw [Kx] at x z
    have key : ∀ m b,(if n = m then (find hp n).map (fun _=>blk) else find hp m) = some b→live b = true→∃ u,find hp m = some u∧(live u = true∨n = m):=by
      intro m b h y;by_cases j : n = m
      · subst j;exact ⟨o,l,.inr rfl⟩
      · simp only [j,if_false] at h;exact ⟨b,h,.inl y⟩
    obtain ⟨u,s,af⟩:=key m b x ag;obtain ⟨c',r,ac⟩:=key k c z ae;have l1 : live u = true:=by rcases af with h | h;exact h;subst h;rw [l] at s;cases s;exact a
    have l2 : live c' = true:=by rcases ac with h | h;exact h;subst h;rw [l] at r;cases r;exact a
    exact f.sep m k u c' p q s r l1 l2 ad aa ab
  · intro m b p h y hp d;rw [Kx] at h;by_cases j : n = m
    · subst j;rw [hi] at hp;cases hp;exact f.out n o _ l a hi d
    · simp only [j,if_false] at h;exact f.out m b p h y hp d
theorem Ext.set {hp : List (Nat × Blk)} {nx n pin : Nat} (_hr : RelH w Z inj hp nx) {f blk : Blk} (p : find hp n = some f) (d : live f = true) {g off : Nat} (hi : inj n = some (g,off)) {old cs : Array Value} {t : TypeId} {j : Nat × Nat}
    (k : w.heap[g]? = some (.cells old t j)) (hs : cs.size = old.size) : Ext w Z inj hp (w.setRow g cs) Z inj (repl hp n blk) pin:=by
  refine ⟨qd,?_,?_,q3p w g old cs t j k hs,qkh w g old cs t j k,fun _ h=>h,fun _ h=>.inl h,fun _ _=>rfl,rfl,rfl,rfl,qk0 w g old cs t j k⟩
  · intro b _ hb;exact setRow_other w g b cs (fun e=>hb (by rw [e];exact ⟨n,f,off,p,d,hi⟩))
  · rintro b ⟨m,c,a,l,r,o⟩;rw [Kx] at l;by_cases q : n = m
    · subst q;exact .inl ⟨n,f,a,p,d,o⟩
    · simp only [q,if_false] at l;exact .inl ⟨m,c,a,l,r,o⟩
theorem RelH.drop {hp : List (Nat × Blk)} {nx n : Nat} (a : RelH w Z inj hp nx) : RelH w Z inj (repl hp n .dead) nx:=by
  have key : ∀ m b,find (repl hp n .dead) m = some b→live b = true→find hp m = some b:=by
    intro m b h d;rw [Kx] at h;by_cases j : n = m
    · subst j
      cases f : find hp n with
      | none=>simp [f] at h
      | some x=>simp [f] at h;subst h;simp [live] at d
    · simp only [j,if_false] at h;exact h
  refine ⟨?_,?_,?_,a.zs,a.zc⟩
  · intro m b h;by_cases d : live b = true
    · exact a.blk m b (key m b h d)
    · have : b = .dead:=by cases b <;> simp_all [live]
      subst this;refine ⟨?_,trivial⟩;rw [Kx] at h;by_cases j : n = m
      · subst j
        cases f : find hp n with
        | none=>simp [f] at h
        | some x=>exact (a.blk n x f).1
      · simp only [j,if_false] at h;exact (a.blk m _ h).1
  · intro m k b c p q t r l g hp s o;exact a.sep m k b c p q (key m b t l) (key k c r g) l g hp s o
  · intro m b p h d hp;exact a.out m b p (key m b h d) d hp
theorem Ext.drop {hp : List (Nat × Blk)} {n pin : Nat} : Ext w Z inj hp w Z inj (repl hp n .dead) pin:=by
  refine ⟨Nat.le_refl _,fun _ _ _=>rfl,?_,fun _ c e f h=>⟨c,e,f,h,rfl⟩,fun _ r h=>⟨r,h,rfl⟩,fun _ h=>h,fun _ h=>.inl h,fun _ _=>rfl,rfl,rfl,rfl,fun _=>rfl⟩;rintro b ⟨m,d,g,a,l,o⟩;rw [Kx] at a;by_cases j : n = m
  · subst j
    cases k : find hp n with
    | none=>simp [k] at a
    | some x=>simp [k] at a;subst a;simp [live] at l
  · simp only [j,if_false] at a;exact .inl ⟨m,d,g,a,l,o⟩
end
end Go.Am
namespace Go.Am
open Go
variable {P : Program} {T : Tab}
theorem q8e {α β : Type} {f : α→Option β} : ∀ {l : List α} {r : List β},l.mapM f = some r→r.length = l.length∧∀ (i : Nat) (x : α),l[i]? = some x→∃ y,r[i]? = some y∧f x = some y
  | [],r,h=>by simp at h;subst h;simp
  | a::l,r,h=>by
    rw [List.mapM_cons] at h
    cases c : f a with
    | none=>simp [c] at h
    | some b=>
      cases g : l.mapM f with
      | none=>simp [c,g] at h
      | some s=>
        simp [c,g] at h
        subst h
        obtain ⟨m,j⟩:=q8e g
        refine ⟨by simp [m],?_⟩
        intro i x d
        cases i with
        | zero=>simp at d;subst d;exact ⟨b,qd,c⟩
        | succ i=>simp at d;obtain ⟨y,k⟩:=j i x d;exact ⟨y,by simpa using k⟩
theorem Yq {α β : Type} {l : List α} {r : List β} (a : r.length = l.length) {i : Nat} {y : β} (h : r[i]? = some y) : ∃ x,l[i]? = some x:=
  Zi (by have:=K7 h;omega)
def Zm (P : Program) (_t : TypeId) (i : TI) (d : TypeDesc) : Prop:=match i.kind with
  | .bool=>d = .bool∧i.size = 1
  | .int k=>d = .int k∧i.size = 1
  | .str=>d = .string∧i.size = 1
  | .ptr=>(∃ e,d = .pointer e)∧i.size = 1
  | .func=>(∃ a b c,d = .func a b c)∧i.size = 1
  | .slice=>∃ e ie de ze,d = .slice e∧P.info? e = some ie∧P.underlying e = some de∧ie.zero = some ze∧ze.cells.toList.mapM Zx = some i.ezero∧i.ezero.length = i.esize∧ie.size = i.esize∧i.esize≠0∧
      ie.bytes = i.ebytes∧i.ebytes≠0∧Kn de = i.eagg∧i.size = 1
  | .array=>∃ e ie de,d = .array i.len e∧P.info? e = some ie∧P.underlying e = some de∧ie.size = i.esize∧i.esize≠0∧Kn de = i.eagg
  | .map=>∃ kt e ie ze zd ks dk,d = .map kt e∧P.info? e = some ie∧ie.zero = some ze∧Zx ze = some zd∧Kz P 8 kt = some ks∧P.underlying kt = some dk∧i.keys = some ks∧i.ezero = [zd]∧i.eagg = Kn dk∧i.size = 1
  | .struct=>∃ fs,d = .struct fs∧(fs.toList.mapM fun f=>do
      let jf ← P.info? f.type
      let df ← P.underlying f.type
      if jf.size = 0 then none else some (f.offset,jf.size,Kn df)) = some i.flds
structure TiOk (P : Program) (t : TypeId) (i : TI) (info : TypeInfo) (d : TypeDesc) (z : Value) : Prop where
  inf : P.info? t = some info
  und : P.underlying t = some d
  zero : info.zero = some z
  size : info.size = i.size
  pos : i.size≠0
  cells : z.cells.toList.mapM Zx = some i.zero
  len : i.zero.length = i.size
  agg : i.agg = Kn d
  kind : Zm P t i d
  eqs : ∀ ks,i.eqs = some ks→Kz P 8 t = some ks∧Kn d = true
  keys : ∀ ks,i.keys = some ks→i.kind = .map
theorem Yp {t : TypeId} {i : TI} (h : tiOf P t = some i) : ∃ g d z,TiOk P t i g d z:=by
  unfold tiOf at h
  cases l : P.info? t with
  | none=>simp [l] at h
  | some g=>
  cases m : P.underlying t with
  | none=>simp [l,m] at h
  | some d=>
  cases o : g.zero with
  | none=>simp [l,m,o] at h
  | some z=>
  cases p : z.cells.toList.mapM Zx with
  | none=>simp [l,m,o,p] at h
  | some zc=>
  simp only [l,m,o,p,Option.bind_eq_bind,qr] at h;by_cases h5 : zc.length≠g.size∨g.size = 0
  · grind
  · rw [qw h5] at h;have u : zc.length = g.size:=by omega
    have s : g.size≠0:=by omega
    refine ⟨g,d,z,?_⟩;cases d <;> simp only [reduceCtorEq] at h
    case bool=>split at h <;> simp at h;subst h;rename_i hs;exact ⟨l,m,o,rfl,s,p,u,rfl,⟨rfl,hs⟩,qd,qd⟩
    case int k=>split at h <;> simp at h;subst h;rename_i hs;exact ⟨l,m,o,rfl,s,p,u,rfl,⟨rfl,hs⟩,qd,qd⟩
    case string=>split at h <;> simp at h;subst h;rename_i hs;exact ⟨l,m,o,rfl,s,p,u,rfl,⟨rfl,hs⟩,qd,qd⟩
    case pointer e=>split at h <;> simp at h;subst h;rename_i hs;exact ⟨l,m,o,rfl,s,p,u,rfl,⟨⟨_,rfl⟩,hs⟩,qd,qd⟩
    case func a b c=>split at h <;> simp at h;subst h;rename_i hs;exact ⟨l,m,o,rfl,s,p,u,rfl,⟨⟨_,_,_,rfl⟩,hs⟩,qd,qd⟩
    case slice e=>
      cases j : P.info? e with
      | none=>simp [j] at h
      | some ie=>
      cases r : P.underlying e with
      | none=>simp [j,r] at h
      | some de=>
      cases q : ie.zero with
      | none=>simp [j,r,q] at h
      | some ze=>
      cases v : ze.cells.toList.mapM Zx with
      | none=>simp [j,r,q,v] at h
      | some ezc=>
      simp only [j,r,q,v,qr] at h;split at h
      · simp at h
      · rename_i hs;simp at h;subst h;exact ⟨l,m,o,rfl,s,p,u,rfl,⟨e,ie,de,ze,rfl,j,r,q,v,by show ezc.length = ie.size;omega,rfl,by show ie.size≠0;omega,rfl,by show ie.bytes≠0;omega,rfl,by show g.size = 1;omega⟩,by simp,by simp⟩
    case map kt e=>
      cases j : P.info? e with
      | none=>simp [j] at h
      | some ie=>
      cases q : ie.zero with
      | none=>simp [j,q] at h
      | some ze=>
      cases v : Zx ze with
      | none=>simp [j,q,v] at h
      | some zd=>
      cases w : Kz P 8 kt with
      | none=>simp [j,q,w] at h
      | some ks=>
      cases x : P.underlying kt with
      | none=>simp [j,q,w,x] at h
      | some dk=>
      simp only [j,q,v,w,x,qr] at h;split at h
      · rename_i hs;simp at h;subst h;exact ⟨l,m,o,rfl,s,p,u,rfl,⟨kt,e,ie,ze,zd,ks,dk,rfl,j,q,v,w,x,rfl,rfl,rfl,hs⟩,qd,fun _ _=>rfl⟩
      · simp at h
    case array n e=>
      cases j : P.info? e with
      | none=>simp [j] at h
      | some ie=>
      cases r : P.underlying e with
      | none=>simp [j,r] at h
      | some de=>
      simp only [j,r,qr] at h;split at h
      · simp at h
      · rename_i hs;simp at h;subst h;exact ⟨l,m,o,rfl,s,p,u,rfl,⟨e,ie,de,rfl,j,r,rfl,hs,rfl⟩,fun ks h=>⟨h,rfl⟩,qd⟩
    case struct fs=>
      cases j : (fs.toList.mapM fun f=>do
          let jf ← P.info? f.type
          let df ← P.underlying f.type
          if jf.size = 0 then none else some (f.offset,jf.size,Kn df)) with
      | none=>simp only [Option.bind_eq_bind] at j;simp only [j,Option.bind_none] at h;simp at h
      | some fl=>
        have y:=j;simp only [Option.bind_eq_bind] at j;simp only [j,qr] at h;simp at h;subst h;exact ⟨l,m,o,rfl,s,p,u,rfl,⟨fs,rfl,y⟩,fun ks h=>⟨h,rfl⟩,qd⟩
section
variable {w : World} {Z : Nat→Prop} {inj : Inj} {nx : Nat}
theorem qen {v : Value} {d : DV} (h : Zx v = some d) : RelD w Z d v∧Zk d = true∧v.oneCell' = true:=by
  unfold Zx at h;split at h <;> simp at h <;> subst h
  · exact ⟨.int _ _,rfl,rfl⟩
  · exact ⟨.bool _,rfl,rfl⟩
  · exact ⟨.str _,rfl,rfl⟩
  · exact ⟨.nilp,rfl,rfl⟩
  · exact ⟨.nilsl,rfl,rfl⟩
  · exact ⟨.nilf,rfl,rfl⟩
  · exact ⟨.nilm,rfl,rfl⟩
theorem q7s {cs : Array Value} {ds : List DV} (h : cs.toList.mapM Zx = some ds) : ds.length = cs.size∧∀ (i : Nat) (d : DV),ds[i]? = some d→∃ c,cs[i]? = some c∧RelD w Z d c∧Zk d = true∧c.oneCell' = true:=by
  obtain ⟨b,j⟩:=q8e h;refine ⟨by simpa using b,fun i d hd=>?_⟩;obtain ⟨c,f⟩:=Yq b hd;obtain ⟨y,a,g⟩:=j i c f;rw [hd] at a;cases a;exact ⟨c,by simpa using f,qen g⟩
theorem qqq {v : Value} {d : DV} (h : qc7 v = some d) : RelD w Z d v:=by
  unfold qc7 at h;split at h
  · rename_i cs
    cases a : cs.toList.mapM Zx with
    | none=>simp [a] at h
    | some ds=>
      simp [a] at h;subst h;obtain ⟨b,f⟩:=q7s (w:=w) (Z:=Z) a;refine .agg b fun i d c hd g=>?_;grind
  · exact (qen h).1
theorem Kb {st : AS} {a : Act} {Ds : List Nat} (h : RelS w Z inj st a Ds) {o : Operand} {v : V} (b : st.ev o = some v) : RelV w Z inj st.nx v (a.eval o):=by
  cases o with
  | tmp t=>
    obtain ⟨x,l,k⟩:=h.slots t v b;simp only [Act.eval,Array.getD_eq_getD_getElem?,l,Option.getD_some];exact k
  | const c=>
    simp only [AS.ev] at b
    cases j : qc7 c with
    | none=>simp [j] at b
    | some d=>simp [j] at b;subst b;exact .d (qqq j)
  | func f=>
    simp only [AS.ev] at b;cases b;exact .d (.fn qd qd)
  | global g=>simp [AS.ev] at b
theorem q48 {a : List V} {ds : List DV} (h : allD a = some ds) : a = ds.map .d:=by
  induction a generalizing ds with
  | nil=>simp [allD] at h;subst h;rfl
  | cons v r ih=>
    cases v <;> simp only [allD,reduceCtorEq] at h
    grind
theorem qby (ds : List DV) : allD (ds.map .d) = some ds:=by
  induction ds with
  | nil=>rfl
  | cons d r ih=>simp [allD,ih]
theorem qg5 {d : V} {c : Value} (h : RelV w Z inj nx d c) (a : Kh d = true) : c.oneCell' = true:=by
  cases h with
  | d h=>cases h <;> simp_all [Kh,Zk,Value.oneCell']
  | _=>simp_all [Kh,Value.oneCell']
theorem qph {c : Value} (h : c.oneCell' = true) : c.cells = #[c]:=by cases c <;> simp_all [Value.oneCell',Value.cells]
theorem qc3 {v : V} {x : Value} (h : RelV w Z inj nx v x) (j : (cellsOf v).all Kh = true) :
    (cellsOf v).length = x.cells.size∧(∀ (i : Nat) (d : V) (c : Value),(cellsOf v)[i]? = some d→x.cells[i]? = some c→RelV w Z inj nx d c)∧∀ c∈x.cells.toList,c.oneCell' = true:=by
  have fin : ∀ (l : List V) (cs : Array Value),l.length = cs.size→(∀ (i : Nat) (d : V) (c : Value),l[i]? = some d→cs[i]? = some c→RelV w Z inj nx d c)→l.all Kh = true→∀ c∈cs.toList,c.oneCell' = true:=by
    intro l cs m k n c s;obtain ⟨i,hi,rfl⟩:=List.mem_iff_getElem.1 s;simp at hi;have p : l[i]? = some l[i]:=List.getElem?_eq_getElem q8;have o : cs[i]? = some cs[i]:=Array.getElem?_eq_getElem hi;have:=qg5 (k i _ _ p o) (List.all_eq_true.1 n _ (Yi _));grind
  have one : ∀ {v : V} {x : Value},RelV w Z inj nx v x→cellsOf v = [v]→(cellsOf v).all Kh = true→(cellsOf v).length = x.cells.size∧(∀ (i : Nat) (d : V) (c : Value),(cellsOf v)[i]? = some d→x.cells[i]? = some c→RelV w Z inj nx d c)∧∀ c∈x.cells.toList,c.oneCell' = true:=by
    intro v x h t n;rw [t] at n ⊢;have p : Kh v = true:=by simpa using n
    have o:=qg5 h p;rw [qph o];grind
  cases h with
  | agg m k=>exact ⟨m,k,fin _ _ m k j⟩
  | d h=>
    cases h with
    | agg m k=>
      have p : (cellsOf (V.d (.agg ‹List DV›))).length = (Value.agg ‹Array Value›).cells.size:=by simpa [cellsOf,Value.cells] using m
      have o : ∀ (i : Nat) (d : V) (c : Value),(cellsOf (V.d (.agg ‹List DV›)))[i]? = some d→(Value.agg ‹Array Value›).cells[i]? = some c→RelV w Z inj nx d c:=by
        intro i d c hd j;simp only [cellsOf,List.getElem?_map,Y0] at hd;obtain ⟨r,q,rfl⟩:=hd;exact .d (k i r c q j)
      grind
    | int=>exact one (.d (.int _ _)) rfl j
    | bool=>exact one (.d (.bool _)) rfl j
    | str=>exact one (.d (.str _)) rfl j
    | tup m k=>exact one (.d (.tup m k)) rfl j
    | fn m k=>exact one (.d (.fn m k)) rfl j
    | bfn m k=>exact one (.d (.bfn m k)) rfl j
    | nilsl=>exact one (.d .nilsl) rfl j
    | slnil=>exact one (.d (.slnil _)) rfl j
    | slemp=>exact one (.d (.slemp _ _)) rfl j
    | sl a b c d e=>exact one (.d (.sl a b c d e)) rfl j
    | nilp=>exact one (.d .nilp) rfl j
    | nilf=>exact one (.d .nilf) rfl j
    | nilm=>exact one (.d .nilm) rfl j
    | box a b c=>exact one (.d (.box a b c)) rfl j
    | mp a b c d e f g h i=>exact one (.d (.mp a b c d e f g h i)) rfl j
  | tup m k=>exact one (.tup m k) rfl j
  | fn m k=>exact one (.fn m k) rfl j
  | ref a b=>exact one (.ref a b) rfl j
  | dref a b c=>exact one (.dref a b c) rfl j
  | hsnil a=>exact one (.hsnil a) rfl j
  | hs a b c d=>exact one (.hs a b c d) rfl j
  | yld a b=>exact one (.yld a b) rfl j
  | mp a b=>exact one (.mp a b) rfl j
  | it a b=>exact one (.it a b) rfl j
  | dead v=>simp [cellsOf,Kh] at j
theorem qfr {cs : List V} {xs : Array Value} (a : cs.length = xs.size) (h : ∀ (i : Nat) (d : V) (c : Value),cs[i]? = some d→xs[i]? = some c→RelV w Z inj nx d c) : RelV w Z inj nx (q5w cs) (.agg xs):=by
  unfold q5w;split
  · rename_i ds hd;have:=q48 hd;subst this;refine .d (.agg (by simpa using a) fun i d c f b=>?_);have:=h i (.d d) c (by simp [f]) b
    cases this with | d h=>exact h
  · exact .agg a h
def qol (w : World) (Z : Nat→Prop) (inj : Inj) (nx : Nat) (v : V) : Bool→List Value→Prop
  | true,xs=>RelV w Z inj nx v (.agg xs.toArray)
  | false,[x]=>RelV w Z inj nx v x
  | false,_=>False
theorem qm6 {ag : Bool} {cs : List V} {v : V} {xs : List Value} (hp : pack ag cs = some v) (a : cs.length = xs.length) (h : ∀ (i : Nat) (d : V) (c : Value),cs[i]? = some d→xs[i]? = some c→RelV w Z inj nx d c) :
    qol w Z inj nx v ag xs:=by
  cases ag with
  | true=>
    simp only [pack,Option.some.injEq] at hp;subst hp;exact qfr (by simpa using a) (fun i d c f b=>h i d c f (by simpa using b))
  | false=>
    match cs,xs,hp,a with
    | [c],[x],hp,_=>simp only [pack,Option.some.injEq] at hp;subst hp;exact h 0 _ _ rfl rfl
    | [c],[],_,a=>simp at a
    | [c],_::_::_,_,a=>simp at a
theorem qg9 (ag : Bool) (cs : List DV) : (q21 ag cs).map V.d = pack ag (cs.map .d):=by
  cases ag with
  | true=>simp [q21,pack,q5w,qby]
  | false=>match cs with
    | []=>rfl
    | [c]=>rfl
    | _::_::_=>rfl
theorem qo5 {α : Type} {cs r : List α} {j s : Nat} (h : sub cs j s = some r) : j + s≤cs.length∧r = (cs.drop j).take s:=by
  unfold sub at h;split at h <;> simp at h;exact ⟨‹_›,h.symm⟩
theorem qbl {α : Type} {cs r : List α} {j s : Nat} (h : sub cs j s = some r) : r.length = s∧∀ (i : Nat) (x : α),r[i]? = some x→cs[j + i]? = some x∧i < s:=by
  obtain ⟨a,rfl⟩:=qo5 h;grind
theorem U5 (b o j : Nat) : (⟨b,o,none⟩ : Addr).add j = ⟨b,o + j,none⟩:=by
  unfold Addr.add;split <;> simp_all
theorem qub {t : TypeId} {i : TI} {l : TypeInfo} {d : TypeDesc} {z : Value} (m : TiOk P t i l d z) {b o : Nat} {r : List V} {v : V} (hp : pack i.agg r = some v) (y : r.length = i.size)
    (hc : ∀ (k : Nat) (x : V),r[k]? = some x→∃ c,w.cell? ⟨b,o + k,none⟩ = some c∧RelV w Z inj nx x c) :
    ∃ x,(Instr.loadAt t (.pointer (some ⟨b,o,none⟩))).run P w = .ok x w∧RelV w Z inj nx v x:=by
  have n : ∃ cs : List Value,cs.length = i.size∧∀ (k : Nat) (c : Value),cs[k]? = some c→w.cell? ⟨b,o + k,none⟩ = some c:=by
    refine ⟨(List.range i.size).map fun k=>(w.cell? ⟨b,o + k,none⟩).getD undef,qd,?_⟩;intro k c hk;have q : k < i.size:=by have:=K7 hk;simpa using this
    obtain ⟨x,hx⟩:=Zi (xs:=r) (i:=k) q8;grind
  obtain ⟨cs,p,a⟩:=n;have h : ∀ (i : Nat) (d : V) (c : Value),r[i]? = some d→cs[i]? = some c→RelV w Z inj nx d c:=by grind
  have f:=qm6 hp (by omega : r.length = cs.length) h
  have g : (isAgg t).run P w = .ok i.agg w:=by
    rw [m.agg];simp only [isAgg,Sem.run_bind,run_underlying m.und,Result.andThen_ok];cases d <;> rfl
  cases hb : i.agg with
  | true=>
    rw [hb] at f;refine ⟨.agg cs.toArray,?_,f⟩;have s:=run_loadCells_list (P:=P) w ⟨b,o,none⟩ cs (fun j v u=>by rw [U5];exact a j v u);simp [Instr.loadAt,Instr.sureAddr,loadVar,g,hb,sizeOf,typeInfo,m.inf,m.size,← p,s]
  | false=>
    rw [hb] at f
    match cs,p,a,f with
    | [x],_,a,f=>
      refine ⟨x,?_,f⟩;have:=a 0 x rfl;simp only [Nat.add_zero] at this;simp [Instr.loadAt,Instr.sureAddr,loadVar,g,hb,this]
end
end Go.Am
namespace Go.Am
open Go
variable {P : Program} {T : Tab}
def Kt (st st1 : AS) (v : V) (w : World) (Z : Nat→Prop) (inj : Inj) (r : Result Next) : Prop:=
  ∃ x w' inj',(r = .ok (.value x) w'∨(r = .ok .skip w'∧x = undef))∧RelV w' Z inj' st1.nx v x∧RelH w' Z inj' st1.hp st1.nx∧Ext w Z inj st.hp w' Z inj' st1.hp st.nx∧st1.sl = st.sl∧st.nx≤st1.nx
section
variable {w : World} {Z : Nat→Prop} {inj : Inj} {st : AS} {a : Act} {Ds : List Nat}
theorem Kt.quiet {v : V} {x : Value} {r : Result Next} (h : RelS w Z inj st a Ds) (c : r = .ok (.value x) w) (b : RelV w Z inj st.nx v x) : Kt st st v w Z inj r:=
  ⟨x,w,inj,.inl c,b,h.heap,.refl,rfl,Nat.le_refl _⟩
theorem Kl {s : Sem Value} {x : Value} {w' : World} (h : s.run P w = .ok x w') : (do pure (Next.value (← s)) : Sem Next).run P w = .ok (.value x) w':=by
  simp [h]
theorem Kt.new {v : V} {x : Value} {r : Result Next} {o : Obj} {blk : Blk} (h : RelS w Z inj st a Ds) (d : r = .ok (.value x) (w.alloc o))
    (hb : RelB (w.alloc o) Z (upd inj st.nx (some (w.heap.size,0))) (st.nx + 1) st.nx blk)
    (c : RelV (w.alloc o) Z (upd inj st.nx (some (w.heap.size,0))) (st.nx + 1) v x) (b : Unfr o:=by first | exact rfl | exact trivial) : Kt st (st.new blk) v w Z inj r:=
  ⟨x,_,_,.inl d,c,h.heap.new o blk 0 hb,Ext.new h.heap o blk 0 b,rfl,by simp [AS.new]⟩
theorem qmw {v : V} {x : Value} (h : RelS w Z inj st a Ds) (o : Obj) (c : RelV w Z inj st.nx v x) : RelV (w.alloc o) Z (upd inj st.nx (some (w.heap.size,0))) (st.nx + 1) v x:=
  c.mono (fun _ d=>Zs w o (h.heap.zs _ d)) (fun _ h=>h) (q3o w o) (fun _ b=>Yj _ _ b) q8
theorem qms {w : World} {nx n es : Nat} {xs : List (List V)} {arr : Array Value} {ty : TypeId} {b : Nat} (s : es≠0) (hi : inj n = some (b,0)) (hb : w.heap[b]? = some (.cells arr ty (0,0)))
    (q : ∀ (i : Nat) (x : List V),xs[i]? = some x→x.length = es)
    (h : ∀ (i : Nat) (x : List V) (j : Nat) (d : V),xs[i]? = some x→x[j]? = some d→Kh d = true∧∃ c,arr[i * es + j]? = some c∧RelV w Z inj nx d c) : RelB w Z inj nx n (q5x es xs):=by
  unfold q5x;split
  · rename_i ys u;obtain ⟨t,r⟩:=q8e u;refine ⟨s,?_,.inr ⟨b,0,arr,ty,hi,hb,?_⟩⟩
    · intro i y f;obtain ⟨x,g⟩:=Yq t f;obtain ⟨v,a,hd⟩:=r i x g;rw [f] at a;cases a;have:=q i x g;rw [q48 hd] at this;simpa using this
    · intro i y j d f k;obtain ⟨x,g⟩:=Yq t f;obtain ⟨v,a,hd⟩:=r i x g;rw [f] at a;cases a;have l:=q48 hd;obtain ⟨m,c,o,p⟩:=h i x j (.d d) g (by rw [l];simp [k]);refine ⟨m,c,by simpa using o,?_⟩
      cases p with | d h=>exact h
  · refine ⟨s,q,.inr ⟨b,0,arr,ty,hi,hb,?_⟩⟩;intro i x j d g hd;obtain ⟨m,c,o,p⟩:=h i x j d g hd;exact ⟨m,c,by simpa using o,p⟩
theorem qm1 {o : Operand} {v : V} (h : RelS w Z inj st a Ds) (b : st.ev o = some v) {r : Result Next} (c : r = .ok (.value (a.eval o)) w) : Kt st st v w Z inj r:=
  .quiet h c (Kb h b)
theorem qw6 {t : TypeId} {i : TI} (h : RelS w Z inj st a Ds) (q : tiOf P t = some i) :
    Kt st (st.new (.dat i.size [i.zero])) (.ref st.nx i.size 0 0) w Z inj ((do pure (Next.value (← Instr.alloc t true (.tuple #[]))) : Sem Next).run P w):=by
  obtain ⟨m,d,z,k⟩:=Yp q
  have g : (Instr.alloc t true (.tuple #[])).run P w = .ok (.pointer (some ⟨w.heap.size,0,none⟩)) (w.alloc (.cells z.cells t)):=by
    simp [Instr.alloc,zeroValue,typeInfo,k.inf,k.zero,newVar,newRow]
  obtain ⟨s,o⟩:=q7s (w:=w.alloc (.cells z.cells t)) (Z:=Z) k.cells;refine .new h (Kl g) ?_ ?_
  · refine ⟨k.pos,?_,.inr ⟨w.heap.size,0,z.cells,t,Y6 _ _ _,Jb _ _,?_⟩⟩
    · intro l x b
      cases l with
      | zero=>simp at b;subst b;exact k.len
      | succ n=>simp at b
    · intro l x j d b hd
      cases l with
      | zero=>
        simp at b;subst b;obtain ⟨c,r,p,f,_⟩:=o j d hd;exact ⟨f,c,by simpa using r,p⟩
      | succ n=>simp at b
  · have:=RelV.ref (w:=w.alloc (.cells z.cells t)) (Z:=Z) (inj:=upd inj st.nx (some (w.heap.size,0))) (nx:=st.nx + 1) (n:=st.nx) (es:=i.size) (i:=0) (j:=0) q8 (Y6 _ _ _);simpa using this
theorem qwa {t : TypeId} {i : TI} {o : Operand} {v : V} (h : RelS w Z inj st a Ds) (y : tiOf P t = some i) (hv : st.ev o = some v) (s : (cellsOf v).length = i.size) (q : (cellsOf v).all Kh = true) :
    Kt st (st.new (q5x i.size [cellsOf v])) (.ref st.nx i.size 0 0) w Z inj ((do pure (Next.value (← Instr.box t (a.eval o))) : Sem Next).run P w):=by
  obtain ⟨r,d,z,k⟩:=Yp y;have f:=Kb h hv
  have g : (Instr.box t (a.eval o)).run P w = .ok (.pointer (some ⟨w.heap.size,0,none⟩)) (w.alloc (.cells (a.eval o).cells t)):=by
    simp [Instr.box,newVar,newRow]
  have m:=qmw h (.cells (a.eval o).cells t) f;obtain ⟨h1,u,_⟩:=qc3 m q;refine .new h (Kl g) ?_ ?_
  · refine qms (b:=w.heap.size) (arr:=(a.eval o).cells) (ty:=t) k.pos (Y6 _ _ _) (Jb _ _) ?_ ?_
    · intro p x f
      cases p with
      | zero=>simp at f;subst f;exact s
      | succ n=>simp at f
    · intro p x j d f hd
      cases p with
      | zero=>
        simp at f;subst f;obtain ⟨c,l⟩:=Y1 (xs:=(a.eval o).cells) (i:=j) (by have:=K7 hd;omega);exact ⟨List.all_eq_true.1 q _ (List.mem_of_getElem? hd),c,by simpa using l,u j d c hd l⟩
      | succ n=>simp at f
  · have:=RelV.ref (w:=w.alloc (.cells (a.eval o).cells t)) (Z:=Z) (inj:=upd inj st.nx (some (w.heap.size,0))) (nx:=st.nx + 1) (n:=st.nx) (es:=i.size) (i:=0) (j:=0) q8 (Y6 _ _ _);simpa using this
theorem q35 {α : Type} (cs ys : List α) (o : Nat) (h : o + ys.length≤cs.length) : (splice cs o ys).length = cs.length:=by simp [splice];omega
theorem Ul {α : Type} (cs ys : List α) (o j : Nat) (h : o + ys.length≤cs.length) : (splice cs o ys)[j]? = if o≤j∧j < o + ys.length then ys[j - o]? else cs[j]?:=by
  have e : (cs.take o).length = o:=by simp;omega
  by_cases a : j < o
  · rw [qw q8,splice,List.append_assoc,List.getElem?_append_left q8,List.getElem?_take,qu a]
  · by_cases b : j < o + ys.length
    · rw [qu q8,splice,List.append_assoc,List.getElem?_append_right q8,e,List.getElem?_append_left q8]
    · rw [qw q8,splice,List.getElem?_append_right (by simp;omega),List.getElem?_drop];congr 1;rw [List.length_append,e];omega
theorem qju (off : Nat) : ∀ (l : List Value) (s : Nat) (cs : Array Value),off + s + l.length≤cs.size→
    ((l.zipIdx s).foldl (fun (cs : Array Value) (x : Value × Nat)=>cs.setIfInBounds (off + x.2) x.1) cs).size = cs.size∧
    ∀ j : Nat,((l.zipIdx s).foldl (fun (cs : Array Value) (x : Value × Nat)=>cs.setIfInBounds (off + x.2) x.1) cs)[j]? = if off + s≤j∧j < off + s + l.length then l[j - (off + s)]? else cs[j]?
  | [],s,cs,_=>by
    refine ⟨rfl,fun j=>?_⟩
    have : ¬ (off + s≤j∧j < off + s + ([] : List Value).length):=by simp
    rw [qw this];rfl
  | v::r,s,cs,h=>by
    obtain ⟨g,f⟩:=qju off r (s + 1) (cs.setIfInBounds (off + s) v) (by simp at h ⊢;omega)
    simp only [List.zipIdx_cons,List.foldl_cons]
    refine ⟨by rw [g];simp,fun j=>?_⟩
    rw [f j]
    simp only [List.length_cons] at h ⊢
    by_cases b : off + (s + 1)≤j∧j < off + (s + 1) + r.length
    · have a : off + s≤j∧j < off + s + (r.length + 1):=by omega
      rw [qu b,qu a,show j - (off + s) = (j - (off + (s + 1))) + 1 by omega,List.getElem?_cons_succ]
    · rw [qw b,Array.getElem?_setIfInBounds]
      by_cases c : off + s = j
      · have a : off + s≤j∧j < off + s + (r.length + 1):=by omega
        have d : j < cs.size:=by omega
        rw [qu c,qu a,qu q8,show j - (off + s) = 0 by omega]
        rfl
      · have a : ¬ (off + s≤j∧j < off + s + (r.length + 1)):=by omega
        rw [qw c,qw a]
theorem qjv (a cs : Array Value) (off : Nat) (h : off + a.size≤cs.size) :
    a.zipIdx.foldl (fun (cs : Array Value) (x : Value × Nat)=>cs.setIfInBounds (off + x.2) x.1) cs = (splice cs.toList off a.toList).toArray:=by
  rw [← Array.foldl_toList,Array.toList_zipIdx];obtain ⟨c,b⟩:=qju off a.toList 0 cs (by simpa using h);have hs:=q35 cs.toList a.toList off (by simpa using h);apply Array.ext';apply List.ext_getElem?;intro j;rw [Array.getElem?_toList,b j,Ul _ _ _ _ (by simpa using h)];simp
def LRel (w : World) (Z : Nat→Prop) (inj : Inj) (nx : Nat) (cs : List V) (xs : Array Value) : Prop:=
  cs.length = xs.size∧∀ (i : Nat) (d : V) (c : Value),cs[i]? = some d→xs[i]? = some c→RelV w Z inj nx d c
theorem LRel.splice {w : World} {nx : Nat} {cs ys : List V} {xs g : Array Value} {o : Nat} (h : LRel w Z inj nx cs xs) (k : LRel w Z inj nx ys g) (j : o + ys.length≤cs.length) :
    LRel w Z inj nx (Am.splice cs o ys) (Am.splice xs.toList o g.toList).toArray:=by
  have l:=h.1;have m:=k.1;have f : o + g.toList.length≤xs.toList.length:=by simp;omega
  refine ⟨by simp [q35 _ _ _ j,q35 _ _ _ f,h.1],fun i d c hd b=>?_⟩;rw [Ul _ _ _ _ j] at hd;rw [List.getElem?_toArray,Ul _ _ _ _ f] at b;have e : g.toList.length = ys.length:=by simp;omega
  rw [e] at b;split at hd
  · rename_i a;rw [qu a] at b;exact k.2 _ _ _ hd (by simpa using b)
  · rename_i a;rw [qw a] at b;exact h.2 _ _ _ hd (by simpa using b)
theorem qji {b : List (Nat × Operand)} {c : List (Nat × V)} (h : RelS w Z inj st a Ds) (hp : Js st.ev b = some c) :
    c.length = b.length∧∀ (k : Nat) (i : Nat) (v : V),c[k]? = some (i,v)→∃ o,b[k]? = some (i,o)∧RelV w Z inj st.nx v (a.eval o):=by
  induction b generalizing c with
  | nil=>simp [Js] at hp;subst hp;simp
  | cons x r ih=>
    obtain ⟨i,o⟩:=x;simp only [Js] at hp
    cases d : st.ev o with
    | none=>simp [d] at hp
    | some v=>
      cases f : Js st.ev r with
      | none=>simp [d,f] at hp
      | some l=>
        simp [d,f] at hp;subst hp;obtain ⟨n,q⟩:=ih f;refine ⟨by simp [n],fun k s j hk=>?_⟩
        cases k with
        | zero=>simp at hk;obtain ⟨rfl,rfl⟩:=hk;exact ⟨o,qd,Kb h d⟩
        | succ k=>simp at hk;obtain ⟨p,g,m⟩:=q k s j hk;exact ⟨p,by simpa using g,m⟩
theorem q3h {os : List Operand} {j : List V} (h : RelS w Z inj st a Ds) (hp : evL st.ev os = some j) : LRel w Z inj st.nx j (os.map a.eval).toArray:=by
  induction os generalizing j with
  | nil=>simp [evL] at hp;subst hp;exact ⟨qd,qd⟩
  | cons o r ih=>
    simp only [evL] at hp
    cases b : st.ev o with
    | none=>simp [b] at hp
    | some v=>
      cases g : evL st.ev r with
      | none=>simp [b,g] at hp
      | some l=>
        simp [b,g] at hp;subst hp;obtain ⟨m,n⟩:=ih g;refine ⟨by simpa using m,fun k d c hd f=>?_⟩
        cases k with
        | zero=>simp at hd f;subst hd f;exact Kb h b
        | succ k=>simp at hd f;exact n k d c hd (by simpa using f)
theorem qf0 {w : World} {nx : Nat} (place : Nat→Option (Nat × Nat)) : ∀ (b : List (Nat × V)) (xs : List (Nat × Value)) (l : List (Nat × List V)) (cs a : List V) (C : Array Value),
    b.length = xs.length→(∀ (k : Nat) (i : Nat) (v : V),b[k]? = some (i,v)→∃ x,xs[k]? = some (i,x)∧RelV w Z inj nx v x)→
    l.length = b.length→(∀ (k : Nat) (i : Nat) (v : V),b[k]? = some (i,v)→∃ o s,place i = some (o,s)∧(cellsOf v).length = s∧(cellsOf v).all Kh = true∧l[k]? = some (o,cellsOf v))→
    LRel w Z inj nx cs C→q5j cs l = some a→∃ h,Instr.fill place C xs = some h∧LRel w Z inj nx a h
  | [],xs,l,cs,a,C,h1,_,h3,_,h5,h6=>by
    have : xs = []:=by cases xs <;> simp_all
    have : l = []:=by cases l <;> simp_all
    subst_vars
    simp [q5j] at h6;subst h6
    exact ⟨C,by simp [Instr.fill],h5⟩
  | (i,v)::b,xs,l,cs,a,C,h1,h2,h3,h4,h5,h6=>by
    match xs,l,h1,h3 with
    | (i',x)::xs,(o',ys)::l,h1,h3=>
      obtain ⟨z,c,r⟩:=h2 0 i v rfl
      simp at c;obtain ⟨rfl,rfl⟩:=c
      obtain ⟨o,s,hp,hl,t,d⟩:=h4 0 i' v rfl
      simp at d;obtain ⟨rfl,rfl⟩:=d
      obtain ⟨q,u,y⟩:=qc3 r t
      simp only [q5j] at h6
      split at h6
      · rename_i g
        have j : x.cells.size = s:=by omega
        have m : ¬ (o' + x.cells.size > C.size):=by have:=h5.1;omega
        obtain ⟨h,p,f⟩:=qf0 place b xs l (splice cs o' (cellsOf v)) a (splice C.toList o' x.cells.toList).toArray (by simpa using h1)
          (fun k i v hk=>by obtain ⟨x,n⟩:=h2 (k + 1) i v (by simpa using hk);exact ⟨x,by simpa using n⟩) (by simpa using h3)
          (fun k i v hk=>by obtain ⟨o,s,n⟩:=h4 (k + 1) i v (by simpa using hk);exact ⟨o,s,by simpa using n⟩)
          (h5.splice ⟨q,u⟩ g) h6
        refine ⟨h,?_,f⟩
        simp only [Instr.fill,hp,j]
        have : ¬ ((decide (s≠s) || decide (o' + s > C.size)) = true):=by simp;omega
        rw [qw (by simpa using this)]
        rw [qjv x.cells C o' q8]
        exact p
      · simp at h6
end
end Go.Am
namespace Go.Am
open Go
variable {P : Program} {T : Tab}
section
variable {w : World} {Z : Nat→Prop} {inj : Inj} {nx : Nat}
theorem qn8 {α β : Type} {f : α→Sem β} {g : α→β} : ∀ {l : List α},(∀ x∈l,(f x).run P w = .ok (g x) w)→(l.mapM f).run P w = .ok (l.map g) w
  | [],_=>by simp
  | x::r,h=>by
    have c:=h x qd
    have b:=qn8 (l:=r) (fun y a=>h y (by simp [a]))
    simp [List.mapM_cons,c,b]
theorem qzn {α β : Type} {f : α→Sem β} {g : α→β} {l : Array α} (h : ∀ x∈l.toList,(f x).run P w = .ok (g x) w) : (l.mapM f).run P w = .ok (l.toList.map g).toArray w:=by
  rw [Array.mapM_eq_mapM_toList,Sem.run_map,qn8 h];rfl
theorem qjt {g : Array Field} {k : List (Nat × Nat × Bool)} (h : (g.toList.mapM fun f => do
      let a ← P.info? f.type
      let c ← P.underlying f.type
      if a.size = 0 then none else some (f.offset,a.size,Kn c)) = some k) :
    k.length = g.size∧∀ (i : Nat) (f : Field),g[i]? = some f→∃ a c,P.info? f.type = some a∧P.underlying f.type = some c∧a.size≠0∧k[i]? = some (f.offset,a.size,Kn c):=by
  obtain ⟨p,n⟩:=q8e h;refine ⟨by simpa using p,fun i f m=>?_⟩;obtain ⟨y,o,b⟩:=n i f (by simpa using m)
  cases j : P.info? f.type with
  | none=>simp [j] at b
  | some a=>
    cases l : P.underlying f.type with
    | none=>simp [j,l] at b
    | some c=>
      simp only [j,l,Option.bind_eq_bind,qr] at b;split at b
      · simp at b
      · rename_i d;simp at b;subst b;exact ⟨a,c,rfl,rfl,d,o⟩
theorem qf4 {c : Array Field} {j : List (Nat × Nat × Bool)} (h : (c.toList.mapM fun f => do
      let a ← P.info? f.type
      let b ← P.underlying f.type
      if a.size = 0 then none else some (f.offset,a.size,Kn b)) = some j) {i off s : Nat} {ag : Bool} (hi : j[i]? = some (off,s,ag)) :
    ∃ f a b,c[i]? = some f∧P.info? f.type = some a∧P.underlying f.type = some b∧a.size = s∧s≠0∧f.offset = off∧Kn b = ag:=by
  obtain ⟨o,k⟩:=qjt h;obtain ⟨f,g⟩:=Y1 (xs:=c) (i:=i) (by have:=K7 hi;omega);obtain ⟨a,b,l,m,n,d⟩:=k i f g;rw [hi] at d;simp at d;obtain ⟨rfl,rfl,rfl⟩:=d;exact ⟨f,a,b,g,l,m,rfl,n,rfl,rfl⟩
theorem qmg {a : TI} : ∀ {b : List (Nat × V)} {l : List (Nat × List V)},placed a b = some l→l.length = b.length∧∀ (k i : Nat) (v : V),b[k]? = some (i,v)→∃ o s,
    (match a.kind with | .struct=>(a.flds[i]?).map fun f=>(f.1,f.2.1) | .array=>some (i * a.esize,a.esize) | _=>none) = some (o,s)∧(cellsOf v).length = s∧(cellsOf v).all Kh = true∧l[k]? = some (o,cellsOf v)
  | [],l,h=>by simp [placed] at h;subst h;simp
  | (i,v)::r,l,h=>by
    simp only [placed] at h
    split at h
    · rename_i o s l' t j
      split at h
      · rename_i c
        simp at h;subst h
        obtain ⟨m,q⟩:=qmg j
        refine ⟨by simp [m],fun k u g hk=>?_⟩
        cases k with
        | zero=>simp at hk;obtain ⟨rfl,rfl⟩:=hk;exact ⟨o,s,t,c.1,c.2,qd⟩
        | succ k=>simp at hk;obtain ⟨n,d,p⟩:=q k u g hk;exact ⟨n,d,by simpa using p⟩
      · simp at h
    · simp at h
theorem q13u {t : TypeId} {i : TI} {b : TypeInfo} {d : TypeDesc} {z : Value} (k : TiOk P t i b d z) : LRel w Z inj nx (i.zero.map .d) z.cells:=by
  obtain ⟨m,g⟩:=q7s (w:=w) (Z:=Z) k.cells;refine ⟨by simpa using m,fun j d c hd n=>?_⟩;simp only [List.getElem?_map,Y0] at hd;obtain ⟨h,f,rfl⟩:=hd;obtain ⟨o,a,l,_⟩:=g j h f;rw [n] at a;cases a;exact .d l
theorem Zq {t : TypeId} {a : TypeInfo} (h : P.info? t = some a) : (sizeOf t).run P w = .ok a.size w:=by simp [sizeOf,typeInfo,h]
theorem q3n {t : TypeId} {d : TypeDesc} (h : P.underlying t = some d) : (isAgg t).run P w = .ok (Kn d) w:=by
  simp only [isAgg,Sem.run_bind,run_underlying h,Result.andThen_ok];cases d <;> rfl
theorem qm9 {t : TypeId} {a : TypeInfo} {d : TypeDesc} (s : P.info? t = some a) (m : P.underlying t = some d) {cs r : List V} {xs : Array Value} {off : Nat} {v : V} (k : LRel w Z inj nx cs xs)
    (hs : sub cs off a.size = some r) (hp : pack (Kn d) r = some v) : ∃ x,(part t xs off).run P w = .ok x w∧RelV w Z inj nx v x:=by
  obtain ⟨n,h⟩:=qbl hs;have y:=(qo5 hs).1;have p:=k.1
  have g : ∀ (i : Nat) (d : V) (c : Value),r[i]? = some d→(xs.extract off (off + a.size)).toList[i]? = some c→RelV w Z inj nx d c:=by
    intro i d c hd j;obtain ⟨f,u⟩:=h i d hd;refine k.2 _ _ _ f ?_;rw [Array.getElem?_toList,Array.getElem?_extract] at j;split at j <;> first | exact j | simp at j
  have l : r.length = (xs.extract off (off + a.size)).toList.length:=by simp;omega
  have b:=qm6 hp l g
  cases hb : Kn d with
  | true=>
    rw [hb] at b
    refine ⟨.agg (xs.extract off (off + a.size)),?_,by
      have q : RelV w Z inj nx v (.agg (xs.extract off (off + a.size)).toList.toArray):=b
      rwa [Array.toArray_toList] at q⟩
    simp [part,q3n m,hb,Zq s]
  | false=>
    rw [hb] at b hp
    match r,hp,n,h with
    | [c],hp,n,h=>
      simp only [pack,Option.some.injEq] at hp;subst hp;have f:=(h 0 c rfl).1;simp only [Nat.add_zero] at f;obtain ⟨x,o⟩:=Y1 (xs:=xs) (i:=off) (by have:=K7 f;omega);exact ⟨x,by simp [part,q3n m,hb,o],k.2 _ _ _ f o⟩
end
section
variable {w : World} {Z : Nat→Prop} {inj : Inj} {st : AS} {a : Act} {Ds : List Nat}
theorem qwb {t : TypeId} {i : TI} {g : Array (Nat × Operand)} {u : List (Nat × V)} {l : List (Nat × List V)} {cs : List V} (h : RelS w Z inj st a Ds) (ht : tiOf P t = some i) (hv : Js st.ev g.toList = some u)
    (ha : i.agg = true) (hl : placed i u = some l) (hf : q5j (i.zero.map .d) l = some cs) :
    Kt st st (q5w cs) w Z inj ((do pure (Next.value (← Instr.build t (g.map fun (i,x)=>(i,a.eval x)))) : Sem Next).run P w):=by
  obtain ⟨av,d,z,k⟩:=Yp ht;obtain ⟨p1,p2⟩:=qji h hv;obtain ⟨q1,q2⟩:=qmg hl;have hz:=q13u (w:=w) (Z:=Z) (inj:=inj) (nx:=st.nx) k
  have r : ∀ (k i : Nat) (v : V),u[k]? = some (i,v)→∃ x,(g.toList.map fun (x : Nat × Operand)=>(x.1,a.eval x.2))[k]? = some (i,x)∧RelV w Z inj st.nx v x:=by
    intro k i v hk;obtain ⟨o,ho,m⟩:=p2 k i v hk;exact ⟨a.eval o,by simp only [List.getElem?_map,ho];rfl,m⟩
  have aa : (zeroValue t).run P w = .ok z w:=by simp [zeroValue,typeInfo,k.inf,k.zero]
  have b:=k.kind;unfold Zm at b;cases hk : i.kind <;> simp only [hk,TI.agg] at b ha
  case struct=>
    obtain ⟨fs,rfl,ab⟩:=b;obtain ⟨_,aj⟩:=qjt ab
    obtain ⟨q,hC,m⟩:=qf0 (fun i=>((fs.toList.map fun (f : Field)=>(f.offset,((P.info? f.type).map (·.size)).getD 0)).toArray)[i]?) u (g.toList.map fun (x : Nat × Operand)=>(x.1,a.eval x.2)) l _ cs z.cells (by simp [p1]) r q1
      (fun k i' v c=>by
        obtain ⟨o,s,y,h2,h3,h4⟩:=q2 k i' v c;simp only [hk,Y0] at y;obtain ⟨⟨o',s',ag⟩,h5,h6⟩:=y;simp at h6;obtain ⟨rfl,rfl⟩:=h6;obtain ⟨f,jf,df,p,g2,_,g4,_,g6,_⟩:=qf4 ab h5
        exact ⟨o',s',by simp [p,g2,g4,g6],h2,h3,h4⟩) hz hf
    refine .quiet h (Kl (x:=.agg q) ?_) (qfr m.1 m.2)
    have hm : (fs.mapM fun f=>do pure (f.offset,← sizeOf f.type) : Sem (Array (Nat × Nat))).run P w = .ok (fs.toList.map fun (f : Field)=>(f.offset,((P.info? f.type).map (·.size)).getD 0)).toArray w:=by
      refine qzn fun f hf=>?_;obtain ⟨j,hj⟩:=List.mem_iff_getElem?.1 hf;obtain ⟨jf,df,p,_⟩:=aj j f (by simpa using hj);simp [Zq p,p]
    simp only [Instr.build,Sem.run_bind,aa,Result.andThen_ok,run_underlying k.und,hm];have n : Instr.fill (fun x=>((fs.toList.map fun (f : Field)=>(f.offset,((P.info? f.type).map (·.size)).getD 0)).toArray)[x]?) z.cells (g.map fun (x : Nat × Operand)=>(x.1,a.eval x.2)).toList = some q:=by simpa using hC
    simp only [n];rfl
  case array=>
    obtain ⟨e,ie,de,rfl,p,g2,g3,g4,_⟩:=b
    obtain ⟨q,hC,m⟩:=qf0 (fun j=>some (j * i.esize,i.esize)) u (g.toList.map fun (x : Nat × Operand)=>(x.1,a.eval x.2)) l _ cs z.cells (by simp [p1]) r q1
      (fun k i' v c=>by
        obtain ⟨o,s,y,h2,h3,h4⟩:=q2 k i' v c;simp only [hk] at y
        exact ⟨o,s,y,h2,h3,h4⟩) hz hf
    refine .quiet h (Kl (x:=.agg q) ?_) (qfr m.1 m.2);have n : Instr.fill (fun j=>some (j * i.esize,i.esize)) z.cells (g.map fun (x : Nat × Operand)=>(x.1,a.eval x.2)).toList = some q:=by simpa using hC
    simp only [Instr.build,Sem.run_bind,aa,Result.andThen_ok,run_underlying k.und,Zq p,g3,n];rfl
  all_goals simp at ha
theorem qkt {t : TypeId} {i : TI} {pv v : V} {vp : Value} (h : RelH w Z inj st.hp st.nx) (ht : tiOf P t = some i) (hx : RelV w Z inj st.nx pv vp) (a : Ug st i pv = some v) :
    ∃ b o x,vp = .pointer (some ⟨b,o,none⟩)∧(Instr.loadAt t vp).run P w = .ok x w∧RelV w Z inj st.nx v x:=by
  obtain ⟨an,d,z,k⟩:=Yp ht
  have fin : ∀ {b o : Nat} {r : List V} {pp : Value},pp = .pointer (some ⟨b,o,none⟩)→pack i.agg r = some v→r.length = i.size→
      (∀ (k : Nat) (x : V),r[k]? = some x→∃ c,w.cell? ⟨b,o + k,none⟩ = some c∧RelV w Z inj st.nx x c)→∃ b o x,pp = .pointer (some ⟨b,o,none⟩)∧(Instr.loadAt t pp).run P w = .ok x w∧RelV w Z inj st.nx v x:=by
    intro b o r pp p aj u hc
    obtain ⟨x,ab,aa⟩:=qub (P:=P) k aj u hc
    exact ⟨b,o,x,p,by rw [p];exact ab,aa⟩
  cases pv <;> simp only [Ug,reduceCtorEq] at a
  case ref n es e j=>
    cases hx with
    | @ref _ _ _ _ b o hn hi=>
    cases hb : st.blk n with
    | none=>simp [hb] at a
    | some blk=>
      have hB:=(h.blk n blk hb).2
      cases blk with
      | dead=>simp [hb] at a
      | loop=>simp [hb] at a
      | mp=>simp [hb] at a
      | itF=>simp [hb] at a
      | itO=>simp [hb] at a
      | dat es' xs=>
        simp only [hb] at a;split at a <;> try simp at a
        rename_i cs p l;have p:=Nat.eq_of_beq_eq_true p;subst p
        cases hs : sub cs j i.size with
        | none=>simp [hs] at a
        | some r=>
          simp only [hs] at a;rw [qg9] at a;obtain ⟨s,q⟩:=qbl hs;obtain ⟨b1,b2,f⟩:=hB;rcases f with ⟨f,_⟩ | ⟨b',o',arr,ty,f,b4,b5⟩
          · subst f;simp at l
          · rw [hi] at f;cases f;refine fin rfl a (by simpa using s) ?_;intro k x hk;simp only [List.getElem?_map,Y0] at hk;obtain ⟨y,hy,rfl⟩:=hk;obtain ⟨m,_⟩:=q k y hy;obtain ⟨_,c,h4,h5⟩:=b5 e cs (j + k) y l m;exact ⟨c,by simp only [World.cell?,b4];rw [← h4];simp [Nat.add_assoc],.d h5⟩
      | cel es' xs=>
        simp only [hb] at a;split at a <;> try simp at a
        rename_i cs p l;have p:=Nat.eq_of_beq_eq_true p;subst p
        cases hs : sub cs j i.size with
        | none=>simp [hs] at a
        | some r=>
          simp only [hs] at a;obtain ⟨s,q⟩:=qbl hs;obtain ⟨b1,b2,f⟩:=hB;rcases f with ⟨f,_⟩ | ⟨b',o',arr,ty,f,b4,b5⟩
          · subst f;simp at l
          · rw [hi] at f;cases f;refine fin rfl a s ?_;intro k x hk;obtain ⟨m,_⟩:=q k x hk;obtain ⟨_,c,h4,h5⟩:=b5 e cs (j + k) x l m;exact ⟨c,by simp only [World.cell?,b4];rw [← h4];simp [Nat.add_assoc],h5⟩
  case dref cs j=>
    cases hx with
    | @dref _ _ b o hz hc hr=>
    cases hs : sub cs j i.size with
    | none=>simp [hs] at a
    | some r=>
      simp only [hs] at a;rw [qg9] at a;obtain ⟨s,q⟩:=qbl hs;refine fin rfl a (by simpa using s) ?_;intro k x hk;simp only [List.getElem?_map,Y0] at hk;obtain ⟨y,hy,rfl⟩:=hk;obtain ⟨m,_⟩:=q k y hy;obtain ⟨c,g⟩:=hc _ _ m;exact ⟨c,by rw [← g,Nat.add_assoc],.d (hr _ _ _ m g)⟩
  case d x=>
    cases x <;> simp only [reduceCtorEq] at a
    rename_i cs
    cases hx with
    | d hx=>
    cases hx with
    | @box _ b o hz hc hr=>
    cases hs : sub cs 0 i.size with
    | none=>simp [hs] at a
    | some r=>
      simp only [hs] at a;rw [qg9] at a;obtain ⟨s,q⟩:=qbl hs;refine fin rfl a (by simpa using s) ?_;intro k x hk;simp only [List.getElem?_map,Y0] at hk;obtain ⟨y,hy,rfl⟩:=hk;obtain ⟨m,_⟩:=q k y hy;rw [Nat.zero_add] at m;obtain ⟨c,g⟩:=hc _ _ m;exact ⟨c,g,.d (hr _ _ _ m g)⟩
theorem qwn {t : TypeId} {i : TI} {p : Operand} {pv v : V} (h : RelS w Z inj st a Ds) (g : tiOf P t = some i) (hp : st.ev p = some pv) (d : Ug st i pv = some v) :
    Kt st st v w Z inj ((do pure (Next.value (← Instr.loadAt t (a.eval p))) : Sem Next).run P w):=by
  obtain ⟨b,o,x,_,c,f⟩:=qkt (P:=P) h.heap g (Kb h hp) d;exact .quiet h (Kl c) f
end
end Go.Am
namespace Go.Am
open Go
variable {P : Program} {T : Tab}
theorem qed : ∀ {c d : List (Option IntKind)} {a b : List DV} {r : Bool},Ke (c ++ d) a b = some r→
    ∃ p q,Ke c (a.take c.length) (b.take c.length) = some p∧Ke d (a.drop c.length) (b.drop c.length) = some q∧r = (p && q)
  | [],d,a,b,r,h=>⟨true,r,by simp [Ke],by simpa using h,qd⟩
  | k::c,d,a,b,r,h=>by
    match a,b,h with
    | x::a,y::b,h=>
      simp only [List.cons_append,Ke] at h
      split at h <;> simp at h
      rename_i u v j f
      obtain ⟨p,q,m,g,l⟩:=qed f
      refine ⟨u && p,q,by simp [Ke,j,m],by simpa using g,?_⟩
      rw [← h,l,Bool.and_assoc]
    | [],_,h=>simp [Ke] at h
    | _::_,[],h=>simp [Ke] at h
theorem qc2 : ∀ {ks : List (Option IntKind)} {a b : List DV} {r : Bool},Ke ks a b = some r→a.length = ks.length∧b.length = ks.length
  | [],[],[],_,_=>⟨rfl,rfl⟩
  | k::ks,x::a,y::b,r,h=>by
    simp only [Ke] at h
    split at h <;> simp at h
    rename_i d c
    have:=qc2 c
    simp;omega
  | [],_::_,_,_,h=>by simp [Ke] at h
  | [],[],_::_,_,h=>by simp [Ke] at h
  | _::_,[],_,_,h=>by simp [Ke] at h
  | _::_,_::_,[],_,h=>by simp [Ke] at h
section
variable {w : World} {Z : Nat→Prop}
def DRel (w : World) (Z : Nat→Prop) (ds : List DV) (cs : Array Value) : Prop:=ds.length = cs.size∧∀ (i : Nat) (d : DV) (c : Value),ds[i]? = some d→cs[i]? = some c→RelD w Z d c
theorem DRel.extract {ds : List DV} {cs : Array Value} (h : DRel w Z ds cs) (o s : Nat) (hs : o + s≤ds.length) : DRel w Z ((ds.drop o).take s) (cs.extract o (o + s)):=by
  have b:=h.1;refine ⟨by simp;omega,fun i d c hd a=>?_⟩;rw [List.getElem?_take] at hd;split at hd
  · rw [List.getElem?_drop] at hd;rw [Array.getElem?_extract] at a;split at a
    · exact h.2 _ _ _ hd a
    · simp at a
  · simp at hd
theorem qdq {t : TypeId} {d : TypeDesc} (h : P.underlying t = some d) : ∃ a,P.info? t = some a∧P.cellsOf t = a.size:=by
  cases hi : P.info? t with
  | none=>simp [Program.underlying,hi] at h
  | some a=>exact ⟨a,rfl,by simp [Program.cellsOf,hi]⟩
def EqOk (P : Program) (w : World) (Z : Nat→Prop) (k : Nat) (t : TypeId) (desc : TypeDesc) (ks : List (Option IntKind)) : Prop:=
  ∀ (xs ys : List DV) (X Y : Array Value) (r : Bool),DRel w Z xs X→DRel w Z ys Y→Ke ks xs ys = some r→
    (Kn desc = true→(Op.equalIn k t (.agg X) (.agg Y)).run P w = .ok r w)∧(Kn desc = false→ks.length = 1∧∀ x y,X[0]? = some x→Y[0]? = some y→(Op.equalIn k t x y).run P w = .ok r w)
def q7w (k : Nat) (X Y : Array Value) (f : Field) (_s : Option Bool × Unit) : Sem (ForInStep (Option Bool × Unit)):=
  if f.name ≠ "_" then do
    let __do_lift ← part f.type X f.offset
    let __do_lift_1 ← part f.type Y f.offset
    let __do_lift ← Op.equalIn k f.type __do_lift __do_lift_1
    if (!__do_lift) = true then pure (ForInStep.done (some false,())) else pure (ForInStep.yield (none,()))
  else pure (ForInStep.yield (none,()))
theorem qjh {k : Nat} {t : TypeId} {desc : TypeDesc} {b : TypeInfo} {ks : List (Option IntKind)} (h : EqOk P w Z k t desc ks) (f : P.underlying t = some desc) (hi : P.info? t = some b) (hs : b.size = ks.length)
    {xs ys : List DV} {X Y : Array Value} (r : DRel w Z xs X) (m : DRel w Z ys Y) {o : Nat} (g : o + ks.length≤xs.length) (j : o + ks.length≤ys.length) {p : Bool}
    (hp : Ke ks ((xs.drop o).take ks.length) ((ys.drop o).take ks.length) = some p) :
    ∃ q n,(part t X o).run P w = .ok q w∧(part t Y o).run P w = .ok n w∧(Op.equalIn k t q n).run P w = .ok p w:=by
  obtain ⟨e1,l⟩:=h _ _ _ _ p (r.extract o ks.length g) (m.extract o ks.length j) hp
  cases a : Kn desc with
  | true=>
    exact ⟨.agg (X.extract o (o + ks.length)),.agg (Y.extract o (o + ks.length)),by simp [part,q3n f,a,Zq hi,hs],by simp [part,q3n f,a,Zq hi,hs],e1 a⟩
  | false=>
    obtain ⟨s,l⟩:=l a;have v:=r.1;have u:=m.1;obtain ⟨x,c⟩:=Y1 (xs:=X) (i:=o) q8;obtain ⟨y,d⟩:=Y1 (xs:=Y) (i:=o) q8;refine ⟨x,y,by simp [part,q3n f,a,c],by simp [part,q3n f,a,d],l x y ?_ ?_⟩
    · rw [Array.getElem?_extract,s,qu (by have:=Ze c;omega)];exact c
    · rw [Array.getElem?_extract,s,qu (by have:=Ze d;omega)];exact d
theorem q4f (d : Nat) (k : Nat) (x : ∀ t desc ks,P.underlying t = some desc→Kz P d t = some ks→EqOk P w Z k t desc ks)
    (xs ys : List DV) (X Y : Array Value) (v : DRel w Z xs X) (u : DRel w Z ys Y) : ∀ (l : List Field) (o : Nat) (r : Bool) (ks : List (Option IntKind)),tile P (Kz P d) o l = some ks→o + ks.length≤xs.length→o + ks.length≤ys.length→
    Ke ks (xs.drop o) (ys.drop o) = some r→(forIn l ((none : Option Bool),()) (q7w k X Y) : Sem (Option Bool × Unit)).run P w = .ok (if r then (none,()) else (some false,())) w
  | [],o,r,ks,ht,_,_,hc=>by
    simp only [tile,Option.some.injEq] at ht;subst ht
    obtain ⟨h1,y⟩:=qc2 hc
    rw [List.eq_nil_of_length_eq_zero h1,List.eq_nil_of_length_eq_zero y] at hc
    simp [Ke] at hc;subst hc
    simp
  | f::l,o,r,ks,ht,hlx,hly,hc=>by
    simp only [tile] at ht
    cases a : Kz P d f.type with
    | none=>simp [a] at ht
    | some ka=>
      simp only [a] at ht
      split at ht <;> try simp at ht
      rename_i b
      obtain ⟨rfl,hn,ab⟩:=b
      cases c : tile P (Kz P d) (f.offset + ka.length) l with
      | none=>simp [c] at ht
      | some kb=>
        simp only [c,Option.some.injEq] at ht;subst ht
        simp only [List.length_append] at hlx hly
        obtain ⟨p,q,hp,s,j⟩:=qed hc
        rw [List.drop_drop,List.drop_drop] at s
        obtain ⟨h,g⟩ : ∃ h,P.underlying f.type = some h:=by
          cases hu : P.underlying f.type with
          | none=>cases d <;> simp [Kz,hu] at a
          | some h=>exact ⟨h,rfl⟩
        obtain ⟨jf,m,n⟩:=qdq g
        obtain ⟨vx,vy,g1,z,g3⟩:=qjh (x f.type h ka g a) g m q8 v u (o:=f.offset) q8 q8 hp
        rw [List.forIn_cons]
        simp only [q7w,qu hn,Sem.run_bind,g1,z,g3,Result.andThen_ok]
        cases p with
        | false=>simp [j]
        | true=>
          have:=q4f d k x xs ys X Y v u l (f.offset + ka.length) q kb c q8 q8 s;simp only [Bool.true_and] at j;subst j;simpa using this
def q7x (k : Nat) (e : TypeId) (n : Nat) (X Y : Array Value) (i : Nat) (_s : Option Bool × Unit) : Sem (ForInStep (Option Bool × Unit)):=do
  let __do_lift ← part e X (i * n)
  let __do_lift_1 ← part e Y (i * n)
  let __do_lift ← Op.equalIn k e __do_lift __do_lift_1
  if (!__do_lift) = true then pure (ForInStep.done (some false,())) else pure (ForInStep.yield (none,()))
theorem qjf {k : Nat} {e : TypeId} {desc : TypeDesc} {b : TypeInfo} {a : List (Option IntKind)} (f : EqOk P w Z k e desc a) (h : P.underlying e = some desc) (hi : P.info? e = some b) (hs : b.size = a.length)
    {xs ys : List DV} {X Y : Array Value} (j : DRel w Z xs X) (g : DRel w Z ys Y) : ∀ (m s : Nat) (r : Bool),(s + m) * a.length≤xs.length→(s + m) * a.length≤ys.length→
    Ke (List.replicate m a).flatten (xs.drop (s * a.length)) (ys.drop (s * a.length)) = some r→(forIn (List.range' s m) ((none : Option Bool),()) (q7x k e b.size X Y) : Sem (Option Bool × Unit)).run P w = .ok (if r then (none,()) else (some false,())) w
  | 0,s,r,_,_,hc=>by
    simp only [List.replicate_zero,List.flatten_nil] at hc
    obtain ⟨u,n⟩:=qc2 hc
    rw [List.eq_nil_of_length_eq_zero u,List.eq_nil_of_length_eq_zero n] at hc
    simp [Ke] at hc;subst hc
    simp
  | m + 1,s,r,hlx,hly,hc=>by
    rw [List.replicate_succ,List.flatten_cons] at hc
    obtain ⟨p,q,hp,d,c⟩:=qed hc
    rw [List.drop_drop,List.drop_drop] at d
    have e1 : s * a.length + a.length = (s + 1) * a.length:=by rw [Nat.add_mul];simp
    have z : (s + 1) * a.length + m * a.length = (s + (m + 1)) * a.length:=by rw [← Nat.add_mul];congr 1;omega
    obtain ⟨y,x,l,t,v⟩:=qjh f h hi hs j g (o:=s * a.length) q8 q8 hp
    rw [List.range'_succ,List.forIn_cons]
    simp only [q7x,hs,Sem.run_bind,l,t,v,Result.andThen_ok]
    cases p with
    | false=>simp [c]
    | true=>
      rw [e1] at d
      have:=qjf f h hi hs j g m (s + 1) q (by rw [Nat.add_mul];omega) (by rw [Nat.add_mul];omega) d
      simp only [Bool.true_and] at c
      subst c
      rw [hs] at this
      simpa using this
theorem qcf : ∀ (d : Nat) (t : TypeId) (desc : TypeDesc) (ks : List (Option IntKind)),P.underlying t = some desc→Kz P d t = some ks→∀ k,d≤k→EqOk P w Z k t desc ks
  | 0,t,desc,ks,hu,hp,k,hk=>by simp [Kz] at hp
  | d + 1,t,desc,ks,hu,hp,k,hk=>by
    obtain ⟨k,rfl⟩ : ∃ k',k = k' + 1:=⟨k - 1,q8⟩
    intro xs ys X Y r z v c
    obtain ⟨s,m⟩:=qc2 c
    simp only [Kz,hu] at hp
    cases desc <;> simp only [reduceCtorEq,Option.some.injEq] at hp
    case bool=>
      subst hp
      refine ⟨by simp [Kn],fun _=>⟨rfl,fun x y l j=>?_⟩⟩
      match xs,ys,s,m,c with
      | [a],[b],_,_,c=>
        have ra:=z.2 0 a x rfl l
        have rb:=v.2 0 b y rfl j
        simp only [Ke] at c
        cases a <;> cases b <;> simp only [Jr,reduceCtorEq] at c
        simp at c;subst c
        cases ra;cases rb;simp [Op.equalIn,run_underlying hu]
    case int k0=>
      subst hp
      refine ⟨by simp [Kn],fun _=>⟨rfl,fun x y l j=>?_⟩⟩
      match xs,ys,s,m,c with
      | [a],[b],_,_,c=>
        have ra:=z.2 0 a x rfl l
        have rb:=v.2 0 b y rfl j
        simp only [Ke] at c
        cases a <;> cases b <;> simp only [Jr,reduceCtorEq] at c
        split at c <;> simp at c
        rename_i o u
        split at o <;> simp at o
        rename_i ab
        obtain ⟨rfl,rfl⟩:=ab
        subst o c
        simp at u;subst u
        cases ra;cases rb;simp [Op.equalIn,run_underlying hu]
    case struct fs=>
      refine ⟨fun _=>?_,by simp [Kn]⟩
      split at hp
      · simp at hp
      · rename_i ac
        simp only [Op.equalIn,Sem.run_bind,run_underlying hu,Result.andThen_ok,run_program,ac,Bool.false_eq_true,if_false]
        have:=q4f (P:=P) (w:=w) (Z:=Z) d k (fun t desc ks o u=>qcf d t desc ks o u k q8) xs ys X Y z v fs.toList 0 r ks hp q8 q8 (by simpa using c)
        rw [Array.forIn_toList] at this
        have e : (fun (f : Field) (_s : Option Bool × Unit)=>q7w k X Y f _s) = q7w k X Y:=rfl
        unfold q7w at this
        rw [this]
        cases r <;> simp
    case array n e=>
      refine ⟨fun _=>?_,by simp [Kn]⟩
      cases g : Kz P d e with
      | none=>simp [g] at hp
      | some a=>
        simp only [g] at hp
        split at hp
        · rename_i ai
          simp only [Option.some.injEq] at hp;subst hp
          obtain ⟨q,h⟩ : ∃ q,P.underlying e = some q:=by
            cases ad : P.underlying e with
            | none=>cases d <;> simp [Kz,ad] at g
            | some q=>exact ⟨q,rfl⟩
          obtain ⟨je,p,ae⟩:=qdq h
          have ag : (List.replicate n a).flatten.length = n * a.length:=by simp
          have:=qjf (qcf d e q a h g k q8) h p q8 z v n 0 r (by rw [Nat.zero_add];omega) (by rw [Nat.zero_add];omega) (by simpa using c)
          simp only [Op.equalIn,Sem.run_bind,run_underlying hu,Result.andThen_ok,Zq p,Std.Legacy.Range.forIn_eq_forIn_range']
          have e : (fun (i : Nat) (_s : Option Bool × Unit)=>q7x k e je.size X Y i _s) = q7x k e je.size X Y:=rfl
          unfold q7x at this
          simp only [Std.Legacy.Range.size,Nat.sub_zero,Nat.add_sub_cancel,Nat.div_one]
          rw [this]
          cases r <;> simp
        · simp at hp
end
section
variable {w : World} {Z : Nat→Prop} {inj : Inj} {st : AS} {a : Act} {Ds : List Nat}
theorem qp2 {op : BinOp} {k : IntKind} {x y : Int} {r : DV} (h : binI op k x y = some r) (hs : op≠.shl∧op≠.shr) : ∃ v,(∀ t,(binOp op t (.int k x) (.int k y)).run P w = .ok v w)∧RelD w Z r v:=by
  cases op <;> simp only [binI,reduceCtorEq,Option.some.injEq] at h <;> try (simp at hs;done)
  case add=>subst h;exact ⟨_,fun t=>by simp [binOp,Op.intArith],.int _ _⟩
  case sub=>subst h;exact ⟨_,fun t=>by simp [binOp,Op.intArith],.int _ _⟩
  case mul=>subst h;exact ⟨_,fun t=>by simp [binOp,Op.intArith],.int _ _⟩
  case quo=>split at h <;> simp at h;subst h;rename_i a;exact ⟨_,fun t=>by simp [binOp,Op.intDiv,a],.int _ _⟩
  case rem=>split at h <;> simp at h;subst h;rename_i a;exact ⟨_,fun t=>by simp [binOp,Op.intDiv,a],.int _ _⟩
  case and=>subst h;exact ⟨_,fun t=>by simp [binOp,Op.intBits],.int _ _⟩
  case or=>subst h;exact ⟨_,fun t=>by simp [binOp,Op.intBits],.int _ _⟩
  case xor=>subst h;exact ⟨_,fun t=>by simp [binOp,Op.intBits],.int _ _⟩
  case eql=>subst h;exact ⟨_,fun t=>by simp [binOp,Op.intCmp],.bool _⟩
  case neq=>subst h;exact ⟨_,fun t=>by simp [binOp,Op.intCmp],.bool _⟩
  case lss=>subst h;exact ⟨_,fun t=>by simp [binOp,Op.intCmp],.bool _⟩
  case leq=>subst h;exact ⟨_,fun t=>by simp [binOp,Op.intCmp],.bool _⟩
  case gtr=>subst h;exact ⟨_,fun t=>by simp [binOp,Op.intCmp],.bool _⟩
  case geq=>subst h;exact ⟨_,fun t=>by simp [binOp,Op.intCmp],.bool _⟩
theorem qnl {op : BinOp} {k b : IntKind} {x y : Int} {r : DV} (h : q91 op k x y = some r) : ∃ v,(∀ t,(binOp op t (.int k x) (.int b y)).run P w = .ok v w)∧RelD w Z r v:=by
  unfold q91 at h;split at h <;> try simp at h
  rename_i a;cases op <;> simp only [reduceCtorEq,Option.some.injEq] at h
  case shl=>subst h;exact ⟨_,fun t=>by simp [binOp,Op.shift,a],.int _ _⟩
  case shr=>subst h;exact ⟨_,fun t=>by simp [binOp,Op.shift,a],.int _ _⟩
theorem q2j {op : BinOp} {t : TypeId} {x y : Operand} {u v : Value} (a : ∀ c,u≠.agg c) (b : u≠.nilIface) : (eqGuard op t x y u v).run P w = .ok () w:=by
  unfold eqGuard;cases op <;> simp <;> cases u <;> simp_all
theorem qje {op : BinOp} {t : TypeId} {x y : Operand} {u v : Array Value} (h : P.eqGuardType P.depth t = false) : (eqGuard op t x y (.agg u) (.agg v)).run P w = .ok () w:=by
  unfold eqGuard;cases op <;> simp [h]
end
end Go.Am
namespace Go.Am
open Go
variable {P : Program} {T : Tab}
section
variable {w : World} {Z : Nat→Prop} {inj : Inj} {st : AS} {a : Act} {Ds : List Nat}
theorem qoa {a : TypeId → Option (List (Option IntKind))} {k : Nat} (b : ∀ t ks, a t = some ks → P.eqGuardType k t = false) : ∀ {l : List Field} {o : Nat} {ks}, tile P a o l = some ks → l.any (fun f => f.name != "_" && P.eqGuardType k f.type) = false
  | [],_,_,_=>rfl
  | f::r,o,ks,h=>by
    simp only [tile] at h
    cases hp : a f.type with
    | none=>simp [hp] at h
    | some ka=>
      simp only [hp] at h
      split at h <;> try simp at h
      cases c : tile P a (o + ka.length) r with
      | none=>simp [c] at h
      | some kb=>
        have:=qoa b c
        simp only [List.any_cons,this,b _ _ hp,Bool.and_false,Bool.or_false]
theorem qfz : ∀ (d : Nat) (t : TypeId) (ks : List (Option IntKind)),Kz P d t = some ks→∀ k,d≤k→P.eqGuardType k t = false
  | 0,t,ks,h,k,hk=>by simp [Kz] at h
  | d + 1,t,ks,h,k,hk=>by
    obtain ⟨k,rfl⟩ : ∃ c,k = c + 1:=⟨k - 1,q8⟩
    simp only [Kz] at h
    simp only [Program.eqGuardType]
    cases b : P.underlying t with
    | none=>rfl
    | some desc=>
      cases desc <;> simp only [b,reduceCtorEq] at h <;> try rfl
      case array n e=>
        cases hp : Kz P d e with
        | none=>simp [hp] at h
        | some a=>exact qfz d e a hp k q8
      case struct fs=>
        split at h <;> try simp at h
        have:=qoa (fun t ks hp=>qfz d t ks hp k q8) h
        simp only []
        rw [← Array.any_toList];exact this
theorem qlz {op : BinOp} {t : TypeId} {i : TI} {x y : Operand} {p q : List DV} {ks : List (Option IntKind)} {r : Bool} {b : DV} (h : RelS w Z inj st a Ds) (u : tiOf P t = some i) (v : st.ev x = some (.d (.agg p))) (s : st.ev y = some (.d (.agg q)))
    (he : i.eqs = some ks) (hc : Ke ks p q = some r) (m : (op = .eql∧b = .bool r)∨(op = .neq∧b = .bool (!r))) :
    Kt st st (.d b) w Z inj ((do pure (Next.value (← (do eqGuard op t x y (a.eval x) (a.eval y);binOp op t (a.eval x) (a.eval y) : Sem Value)) ) : Sem Next).run P w):=by
  obtain ⟨o,d,z,k⟩:=Yp u;have j:=Kb h v;have g:=Kb h s;generalize a.eval x = vx at j ⊢;generalize a.eval y = vy at g ⊢
  cases j with | d j=>cases j with | @agg _ X hl1 hr1=>
  cases g with | d g=>cases g with | @agg _ Y hl2 hr2=>
  obtain ⟨f,l⟩:=k.eqs ks he;have n : P.eqGuardType P.depth t = false:=qfz 8 t ks f _ (by unfold Program.depth Made.depth;omega);have c:=(qcf (w:=w) (Z:=Z) 8 t d ks k.und f Op.maxDepth (by unfold Op.maxDepth;omega) p q X Y r ⟨hl1,hr1⟩ ⟨hl2,hr2⟩ hc).1 l;rcases m with ⟨rfl,rfl⟩ | ⟨rfl,rfl⟩
  · exact .quiet h (Kl (x:=.bool r) (by simp [qje n,binOp,Op.equal,c])) (.d (.bool _))
  · exact .quiet h (Kl (x:=.bool (!r)) (by simp [qje n,binOp,Op.equal,c])) (.d (.bool _))
theorem qw9 {op : BinOp} {t : TypeId} {x y : Operand} {k l : IntKind} {p q : Int} {b : DV} (h : RelS w Z inj st a Ds) (r : st.ev x = some (.d (.int k p))) (m : st.ev y = some (.d (.int l q)))
    (c : binD op (.int k p) (.int l q) = some b) :
    Kt st st (.d b) w Z inj ((do pure (Next.value (← (do eqGuard op t x y (a.eval x) (a.eval y);binOp op t (a.eval x) (a.eval y) : Sem Value)) ) : Sem Next).run P w):=by
  have j:=Kb h r;have g:=Kb h m;generalize a.eval x = vx at j ⊢;generalize a.eval y = vy at g ⊢
  cases j with | d j=>
  cases j
  cases g with | d g=>
  cases g;have o:=q2j (P:=P) (w:=w) (op:=op) (t:=t) (x:=x) (y:=y) (u:=.int k p) (v:=.int l q) qd qd
  have key : ∃ v,(∀ t,(binOp op t (.int k p) (.int l q)).run P w = .ok v w)∧RelD w Z b v:=by
    unfold binD at c;split at c
    · rename_i e1 f;cases e1;cases f;exact qnl c
    · rename_i e1 f;cases e1;cases f;exact qnl c
    · rename_i z n2 e1 f;cases e1;cases f;split at c <;> try simp at c
      rename_i hk;subst hk;exact qp2 c ⟨fun e=>z e,fun e=>n2 e⟩
    · simp at c
  obtain ⟨v,s,n⟩:=key;exact .quiet h (Kl (x:=v) (by simp [o,s])) (.d n)
theorem maxD : Op.maxDepth = 9999 + 1:=rfl
theorem qsb {t : TypeId} (h : P.underlying t = some .bool) (p q : Bool) : (Op.equal t (.bool p) (.bool q)).run P w = .ok (p == q) w:=by
  rw [Op.equal,maxD,Op.equalIn];simp only [Sem.run_bind,run_underlying h,Result.andThen_ok];rfl
theorem qjg {t e : TypeId} (h : P.underlying t = some (.slice e)) (a : Option Addr) (n c : Nat) : (Op.equal t (.slice none 0 0) (.slice a n c)).run P w = .ok a.isNone w:=by
  rw [Op.equal,maxD,Op.equalIn];simp only [Sem.run_bind,run_underlying h,Result.andThen_ok];rfl
theorem qsf {t e : TypeId} (h : P.underlying t = some (.slice e)) (a : Addr) (n c : Nat) : (Op.equal t (.slice (some a) n c) (.slice none 0 0)).run P w = .ok false w:=by
  rw [Op.equal,maxD,Op.equalIn];simp only [Sem.run_bind,run_underlying h,Result.andThen_ok];rfl
theorem qsc {t : TypeId} {x y z} (h : P.underlying t = some (.func x y z)) : (Op.equal t .nilFunc .nilFunc).run P w = .ok true w:=by
  rw [Op.equal,maxD,Op.equalIn];simp only [Sem.run_bind,run_underlying h,Result.andThen_ok];rfl
theorem qsd {t : TypeId} {x y z} (h : P.underlying t = some (.func x y z)) (f g c) : (Op.equal t .nilFunc (.func f g c)).run P w = .ok false w:=by
  rw [Op.equal,maxD,Op.equalIn];simp only [Sem.run_bind,run_underlying h,Result.andThen_ok];rfl
theorem qse {t : TypeId} {x y z} (h : P.underlying t = some (.func x y z)) (f g c) : (Op.equal t (.func f g c) .nilFunc).run P w = .ok false w:=by
  rw [Op.equal,maxD,Op.equalIn];simp only [Sem.run_bind,run_underlying h,Result.andThen_ok];rfl
theorem q49 {t : TypeId} {u v : Value} {r : Bool} (a : (Op.equal t u v).run P w = .ok r w) (d : ∀ k n,u≠.int k n) (b : ∀ k n,u≠.float k n) (f : ∀ k n m,u≠.complex k n m) (c : ∀ s,u≠.string s) :
    (binOp .eql t u v).run P w = .ok (.bool r) w∧(binOp .neq t u v).run P w = .ok (.bool (!r)) w:=by
  cases u <;> first | (exfalso;exact d _ _ rfl) | (exfalso;exact b _ _ rfl) | (exfalso;exact f _ _ _ rfl) | (exfalso;exact c _ rfl) | (constructor <;> (simp only [binOp];simp [a]))
theorem qw8 {op : BinOp} {t : TypeId} {i : TI} {x y : Operand} {p q : DV} {b : DV} (h : RelS w Z inj st a Ds) (ht : tiOf P t = some i) (hx : st.ev x = some (.d p)) (hy : st.ev y = some (.d q))
    (m : binE op i.kind p q = some b) :
    Kt st st (.d b) w Z inj ((do pure (Next.value (← (do eqGuard op t x y (a.eval x) (a.eval y);binOp op t (a.eval x) (a.eval y) : Sem Value)) ) : Sem Next).run P w):=by
  obtain ⟨ab,d,z,k⟩:=Yp ht;have l:=Kb h hx;have j:=Kb h hy;generalize a.eval x = vx at l ⊢;generalize a.eval y = vy at j ⊢
  cases l with | d l=>
  cases j with | d j=>
  have key : ∀ r,eqK i.kind p q = some r→(eqGuard op t x y vx vy).run P w = .ok () w∧(binOp .eql t vx vy).run P w = .ok (.bool r) w∧(binOp .neq t vx vy).run P w = .ok (.bool (!r)) w:=by
    intro r c;have hk:=k.kind;unfold Zm at hk;unfold eqK at c;split at c <;> simp at c <;> (rename_i o;simp only [o] at hk)
    · subst c;obtain ⟨rfl,_⟩:=hk;cases l;cases j;exact ⟨q2j qd qd,q49 (qsb k.und _ _) qd qd qd qd⟩
    · subst c;cases l;cases j;exact ⟨q2j qd qd,by simp only [binOp,Op.stringOp];rfl,by simp only [binOp,Op.stringOp];rfl⟩
    · subst c;obtain ⟨e,u,de,v,rfl,_⟩:=hk;cases l;cases j;exact ⟨q2j qd qd,q49 (qjg k.und _ _ _) qd qd qd qd⟩
    · subst c;obtain ⟨e,u,de,v,rfl,_⟩:=hk;cases l;cases j;exact ⟨q2j qd qd,q49 (qjg k.und _ _ _) qd qd qd qd⟩
    · subst c;obtain ⟨e,u,de,v,rfl,_⟩:=hk;cases l;cases j;exact ⟨q2j qd qd,q49 (qsf k.und _ _ _) qd qd qd qd⟩
    · subst c;obtain ⟨⟨e,f,g,rfl⟩,_⟩:=hk;cases l;cases j;exact ⟨q2j qd qd,q49 (qsc k.und) qd qd qd qd⟩
    · subst c;obtain ⟨⟨e,f,g,rfl⟩,_⟩:=hk;cases l;cases j;exact ⟨q2j qd qd,q49 (qsd k.und _ _ _) qd qd qd qd⟩
    · subst c;obtain ⟨⟨e,f,g,rfl⟩,_⟩:=hk;cases l;cases j;exact ⟨q2j qd qd,q49 (qse k.und _ _ _) qd qd qd qd⟩
  unfold binE at m;split at m
  · cases c : eqK i.kind p q with
    | none=>simp [c] at m
    | some r=>
      simp [c] at m;subst m;obtain ⟨n,s,_⟩:=key r c;exact .quiet h (Kl (x:=.bool r) (by simp [n,s])) (.d (.bool _))
  · cases c : eqK i.kind p q with
    | none=>simp [c] at m
    | some r=>
      simp [c] at m;subst m;obtain ⟨n,_,s⟩:=key r c;exact .quiet h (Kl (x:=.bool (!r)) (by simp [n,s])) (.d (.bool _))
  · simp at m
end
end Go.Am
namespace Go.Am
open Go
variable {P : Program} {T : Tab}
section
variable {w : World} {Z : Nat→Prop} {inj : Inj} {st : AS} {a : Act} {Ds : List Nat}
theorem qx0 {op : UnOp} {x : Operand} {p b : DV} (h : RelS w Z inj st a Ds) (g : st.ev x = some (.d p)) (c : unD op p = some b) :
    Kt st st (.d b) w Z inj ((do pure (Next.value (← Op.unary op (a.eval x))) : Sem Next).run P w):=by
  have f:=Kb h g;generalize a.eval x = vx at f ⊢
  cases f with | d f=>
  unfold unD at c;split at c
  · simp at c;subst c;cases f;exact .quiet h (Kl (by simp [Op.unary,Op.intArith])) (.d (.int _ _))
  · simp at c;subst c;cases f;exact .quiet h (Kl (by simp [Op.unary])) (.d (.bool _))
  · cases f;simp only [binI,Option.some.injEq] at c;subst c;exact .quiet h (Kl (by simp [Op.unary,Op.intBits])) (.d (.int _ _))
  · simp at c
theorem qwe {src dst : TypeId} {i j : TI} {x : Operand} {k0 r k : IntKind} {n : Int} (h : RelS w Z inj st a Ds) (hi : tiOf P src = some i) (t : tiOf P dst = some j) (l : i.kind = .int k0) (f : j.kind = .int k) (s : st.ev x = some (.d (.int r n))) :
    Kt st st (.d (.int k (k.wrap n))) w Z inj ((do pure (Next.value (← convert src dst (a.eval x))) : Sem Next).run P w):=by
  obtain ⟨q,d,z,p⟩:=Yp hi;obtain ⟨g,u,v,o⟩:=Yp t;have m:=p.kind;have c:=o.kind;unfold Zm at m c;simp only [l,f] at m c;obtain ⟨rfl,_⟩:=m;obtain ⟨rfl,_⟩:=c;have b:=Kb h s;generalize a.eval x = vx at b ⊢
  cases b with | d b=>
  cases b;refine .quiet h (Kl (x:=.int k (k.wrap n)) ?_) (.d (.int _ _));simp only [convert,Sem.run_bind,run_underlying p.und,run_underlying o.und,Result.andThen_ok];simp [Conv.intToInt]
theorem qwr {f : FuncId} {first b : Array Operand} {j : List V} (h : RelS w Z inj st a Ds) (k : first.size = 0) (l : evL st.ev b.toList = some j) :
    Kt st st (match allD j with | some ds=>.d (.fn f ds) | none=>.fn f j) w Z inj ((do pure (Next.value (← Instr.makeFunc (.func f) (first.map a.eval) (b.map a.eval))) : Sem Next).run P w):=by
  have g:=q3h h l;have e1 : first.map a.eval = #[]:=by apply Array.eq_empty_of_size_eq_zero;simpa using k
  have n : (b.toList.map a.eval).toArray = b.map a.eval:=by apply Array.ext';simp
  rw [n] at g;refine .quiet h (Kl (x:=.func (.func f) #[] (b.map a.eval)) (by simp [Instr.makeFunc,e1])) ?_;split
  · rename_i ds hd;have:=q48 hd;subst this;refine .d (.fn (by simpa using g.1) fun i d c hd m=>?_);have:=g.2 i (.d d) c (by simp [hd]) m
    cases this with | d h=>exact h
  · exact .fn g.1 g.2
theorem qwq {f : FuncId} {first b : Array Operand} {j : List V} {ds : List DV} (h : RelS w Z inj st a Ds) (k : b.size = 0) (l : evL st.ev first.toList = some j) (hd : allD j = some ds) :
    Kt st st (.d (.bfn f ds)) w Z inj ((do pure (Next.value (← Instr.makeFunc (.func f) (first.map a.eval) (b.map a.eval))) : Sem Next).run P w):=by
  have g:=q3h h l;have e1 : b.map a.eval = #[]:=by apply Array.eq_empty_of_size_eq_zero;simpa using k
  have n : (first.toList.map a.eval).toArray = first.map a.eval:=by apply Array.ext';simp
  rw [n] at g;refine .quiet h (Kl (x:=.func (.func f) (first.map a.eval) #[]) (by simp [Instr.makeFunc,e1])) ?_;have:=q48 hd;subst this;refine .d (.bfn (by simpa using g.1) fun i d c hd m=>?_);have:=g.2 i (.d d) c (by simp [hd]) m
  cases this with | d h=>exact h
theorem qm0 {x : Operand} {k : Nat} {v : V} (h : RelS w Z inj st a Ds) (j : (∃ b d,st.ev x = some (.d (.tup b))∧b[k]? = some d∧v = .d d)∨∃ b,st.ev x = some (.tup b)∧b[k]? = some v) :
    Kt st st v w Z inj ((do pure (Next.value (← Instr.extract (a.eval x) k)) : Sem Next).run P w):=by
  rcases j with ⟨b,d,j,hk,rfl⟩ | ⟨b,j,hk⟩
  · have f:=Kb h j;generalize a.eval x = vx at f ⊢
    cases f with | d f=>
    cases f with | @tup _ cs hl hr=>
    obtain ⟨c,g⟩:=Y1 (xs:=cs) (i:=k) (by have:=K7 hk;omega);exact .quiet h (Kl (x:=c) (by simp [Instr.extract,g])) (.d (hr _ _ _ hk g))
  · have f:=Kb h j;generalize a.eval x = vx at f ⊢
    cases f with | @tup _ cs hl hr=>
    obtain ⟨c,g⟩:=Y1 (xs:=cs) (i:=k) (by have:=K7 hk;omega);exact .quiet h (Kl (x:=c) (by simp [Instr.extract,g])) (hr _ _ _ hk g)
theorem qhv {nx : Nat} {v : V} {x : Value} {cs : List V} (h : RelV w Z inj nx v x) (a : agD v = some cs) : ∃ xs,x = .agg xs∧LRel w Z inj nx cs xs:=by
  unfold agD at a;split at a <;> simp at a
  · subst a
    cases h with | d h=>
    cases h with | @agg _ X hl hr=>
    refine ⟨X,rfl,by simpa using hl,fun i d c hd g=>?_⟩;simp only [List.getElem?_map,Y0] at hd;obtain ⟨f,b,rfl⟩:=hd;exact .d (hr i f c b g)
  · subst a
    cases h with | @agg _ X hl hr=>exact ⟨X,rfl,hl,hr⟩
theorem qwi {s : TypeId} {i : TI} {x : Operand} {g v : V} {f off size : Nat} {ag : Bool} {cs r : List V} (h : RelS w Z inj st a Ds) (hi : tiOf P s = some i) (hx : st.ev x = some g) (hk : i.kind = .struct) (p : i.flds[f]? = some (off,size,ag))
    (ha : agD g = some cs) (hs : sub cs off size = some r) (hp : pack ag r = some v) :
    Kt st st v w Z inj ((do pure (Next.value (← Instr.field s (a.eval x) f)) : Sem Next).run P w):=by
  obtain ⟨j,d,z,k⟩:=Yp hi;have b:=k.kind;unfold Zm at b;simp only [hk] at b;obtain ⟨fs,rfl,c⟩:=b;obtain ⟨fd,jf,df,q,m,g3,o,g5,l,n⟩:=qf4 c p;obtain ⟨xs,he,t⟩:=qhv (Kb h hx) ha;subst o l n;obtain ⟨y,u,hr⟩:=qm9 (P:=P) m g3 t hs hp;refine .quiet h (Kl (x:=y) ?_) hr;simp only [Instr.field,Sem.run_bind,run_underlying k.und,Result.andThen_ok,q,he,asAgg,Sem.run_pure,u]
theorem qwk {t : TypeId} {i : TI} {x f : Operand} {j v : V} {k0 : IntKind} {n : Int} {cs r : List V} (h : RelS w Z inj st a Ds) (hi : tiOf P t = some i) (hx : st.ev x = some j) (hn : st.ev f = some (.d (.int k0 n))) (hk : i.kind = .array)
    (ha : agD j = some cs) (p : 0≤n∧n < i.len) (hs : sub cs (n.toNat * i.esize) i.esize = some r) (hp : pack i.eagg r = some v) :
    Kt st st v w Z inj ((do pure (Next.value (← Instr.index t (a.eval x) (a.eval f))) : Sem Next).run P w):=by
  obtain ⟨o,d,z,k⟩:=Yp hi;have b:=k.kind;unfold Zm at b;simp only [hk] at b;obtain ⟨e,ie,de,rfl,l,q,g,g4,g5⟩:=b;obtain ⟨xs,he,s⟩:=qhv (Kb h hx) ha;have c:=Kb h hn;generalize a.eval f = vx at c ⊢
  cases c with | d c=>
  cases c;rw [← g] at hs;rw [← g5] at hp;obtain ⟨y,m,u⟩:=qm9 (P:=P) l q s hs hp;refine .quiet h (Kl (x:=y) ?_) u;simp only [Instr.index,asIntOf,Sem.run_bind,Sem.run_pure,run_underlying k.und,Result.andThen_ok,he];rw [Sem.run_ite,qu p];simp only [Sem.run_bind,Zq l,Result.andThen_ok,g];rw [g] at m;exact m
theorem qwm {t : TypeId} {i : TI} {x j : Operand} {k0 : IntKind} {n : Int} {s : ByteArray} {b : UInt8} (h : RelS w Z inj st a Ds) (hi : tiOf P t = some i) (m : st.ev x = some (.d (.str s))) (o : st.ev j = some (.d (.int k0 n))) (hk : i.kind = .str)
    (hb : (if 0≤n then s[n.toNat]? else none) = some b) :
    Kt st st (.d (.int .u8 b.toNat)) w Z inj ((do pure (Next.value (← Instr.index t (a.eval x) (a.eval j))) : Sem Next).run P w):=by
  obtain ⟨l,d,z,k⟩:=Yp hi;have c:=k.kind;unfold Zm at c;simp only [hk] at c;obtain ⟨rfl,_⟩:=c;have f:=Kb h m;have g:=Kb h o;generalize a.eval x = vy at f ⊢;generalize a.eval j = vx at g ⊢
  cases f with | d f=>
  cases f
  cases g with | d g=>
  cases g;refine .quiet h (Kl (x:=.int .u8 b.toNat) ?_) (.d (.int _ _));simp only [Instr.index,asIntOf,Sem.run_bind,Sem.run_pure,run_underlying k.und,Result.andThen_ok,hb]
theorem qwj {s : TypeId} {i : TI} {p : Operand} {pv v : V} {f off size : Nat} {ag : Bool} (h : RelS w Z inj st a Ds) (hi : tiOf P s = some i) (hx : st.ev p = some pv) (hk : i.kind = .struct) (y : i.flds[f]? = some (off,size,ag))
    (hp : qey off pv = some v) :
    Kt st st v w Z inj ((do pure (Next.value (← Instr.fieldAt s (a.eval p) f)) : Sem Next).run P w):=by
  obtain ⟨q,d,z,k⟩:=Yp hi;have l:=k.kind;unfold Zm at l;simp only [hk] at l;obtain ⟨fs,rfl,m⟩:=l;obtain ⟨fd,jf,df,u,g2,g3,r,g5,t,g7⟩:=qf4 m y;have g:=Kb h hx;generalize a.eval p = vx at g ⊢
  have c : ∀ b o,(Instr.fieldAt s (.pointer (some ⟨b,o,none⟩)) f).run P w = .ok (.pointer (some ⟨b,o + off,none⟩)) w:=by
    intro b o;simp only [Instr.fieldAt,Instr.sureAddr,fieldPlace,Sem.run_bind,run_underlying k.und,Result.andThen_ok,u,Sem.run_pure,Zq g2,Sem.run_ite,r,qw g5,U5,t]
  cases pv <;> simp only [qey,reduceCtorEq,Option.some.injEq] at hp
  case ref n es ii j=>
    subst hp
    cases g with | @ref _ _ _ _ b o h1 h2=>
    refine .quiet h (Kl (c _ _)) ?_;have:=RelV.ref (w:=w) (Z:=Z) (nx:=st.nx) (es:=es) (i:=ii) (j:=j + off) h1 h2
    rwa [show o + (ii * es + (j + off)) = o + (ii * es + j) + off by omega] at this
  case dref cs j=>
    subst hp
    cases g with | @dref _ _ b o h1 h2 g=>
    refine .quiet h (Kl (c _ _)) ?_;have:=RelV.dref (inj:=inj) (nx:=st.nx) (j:=j + off) h1 h2 g
    rwa [← Nat.add_assoc] at this
  case d x=>
    cases x <;> simp only [reduceCtorEq,Option.some.injEq] at hp
    subst hp
    cases g with | d g=>
    cases g with | box h1 h2 g=>
    exact .quiet h (Kl (c _ _)) (RelV.dref (inj:=inj) (nx:=st.nx) (j:=off) h1 h2 g)
theorem qwl {t : TypeId} {i : TI} {x ix : Operand} {xv v : V} {k0 : IntKind} {n : Int} (h : RelS w Z inj st a Ds) (hi : tiOf P t = some i) (hx : st.ev x = some xv) (hn : st.ev ix = some (.d (.int k0 n)))
    (hp : q5m i xv n = some v) :
    Kt st st v w Z inj ((do pure (Next.value (← Instr.indexAt t (a.eval x) (a.eval ix))) : Sem Next).run P w):=by
  obtain ⟨ah,d,z,k⟩:=Yp hi;have p:=k.kind;unfold Zm at p;have s:=Kb h hn;generalize a.eval ix = vx at s ⊢
  cases s with | d s=>
  cases s;have l:=Kb h hx;generalize a.eval x = vx at l ⊢
  have r : i.kind = .slice→∀ b o len cap,0≤n→n < (len : Nat)→(Instr.indexAt t (.slice (some ⟨b,o,none⟩) len cap) (.int k0 n)).run P w = .ok (.pointer (some ⟨b,o + n.toNat * i.esize,none⟩)) w:=by
    intro hk b o len cap f q;simp only [hk] at p;obtain ⟨e,ie,de,ze,rfl,g1,g2,g3,g4,g5,g6,_⟩:=p;simp only [Instr.indexAt,asIntOf,Sem.run_bind,Sem.run_pure,run_underlying k.und,Result.andThen_ok];rw [Sem.run_ite,qu ⟨f,q⟩];simp only [Sem.run_bind,Zq g1,Result.andThen_ok,Sem.run_pure,U5,g6]
  have g : i.kind = .array→∀ b o,0≤n→n < i.len→(Instr.indexAt t (.pointer (some ⟨b,o,none⟩)) (.int k0 n)).run P w = .ok (.pointer (some ⟨b,o + n.toNat * i.esize,none⟩)) w:=by
    intro hk b o f q;simp only [hk] at p;obtain ⟨e,ie,de,rfl,g1,g2,g3,g4,_⟩:=p;simp only [Instr.indexAt,asIntOf,Instr.sureAddr,Sem.run_bind,Sem.run_pure,run_underlying k.und,Result.andThen_ok];rw [Sem.run_ite,qu ⟨f,q⟩];simp only [Sem.run_bind,Zq g1,Result.andThen_ok,Sem.run_pure,U5,g3]
  cases hk : i.kind <;> simp only [q5m,hk,reduceCtorEq] at hp
  case slice=>
    cases xv <;> (try simp only [reduceCtorEq] at hp)
    case d x=>
      cases x <;> (try simp only [reduceCtorEq] at hp)
      rename_i es xs;split at hp <;> simp at hp
      rename_i f;obtain ⟨f,he⟩:=f;obtain ⟨cs,y,rfl⟩:=hp;have u:=K7 y
      cases l with | d l=>
      cases l with
      | slnil=>simp at u
      | slemp=>simp at u
      | @sl _ _ b o cap q h2 h4 h5 h6=>
        refine .quiet h (Kl (r hk _ _ _ _ f q8)) ?_
        have:=RelV.dref (w:=w) (Z:=Z) (inj:=inj) (nx:=st.nx) (cs:=cs) (j:=0) (b:=b) (o:=o + n.toNat * i.esize) (h2 (by rintro rfl;simp at u))
          (fun k d hd=>by have:=(h5 n.toNat cs k d y hd).2;rwa [he,← Nat.add_assoc] at this)
          (fun k d c hd hc=>h6 n.toNat cs k d c y hd (by rwa [he,← Nat.add_assoc]))
        simpa using this
    case hs m es off len=>
      split at hp <;> simp at hp
      rename_i f;obtain ⟨f,q,he⟩:=f;subst hp
      cases l with
      | hsnil=>omega
      | @hs _ _ _ _ cap ad hn hle _ hcap=>
        obtain ⟨b,o,hi,rfl,_⟩:=hcap q8;refine .quiet h (Kl (r hk _ _ _ _ f q8)) ?_;have:=RelV.ref (w:=w) (Z:=Z) (nx:=st.nx) (es:=es) (i:=off + n.toNat) (j:=0) hn hi;rw [show o + off * es + n.toNat * i.esize = o + ((off + n.toNat) * es + 0) by rw [← he,Nat.add_mul];omega];exact this
  case array=>
    cases xv <;> (try simp only [reduceCtorEq] at hp)
    case ref m es e j=>
      split at hp <;> simp at hp
      rename_i f;subst hp
      cases l with | @ref _ _ _ _ b o q h2=>
      refine .quiet h (Kl (g hk _ _ f.1 f.2)) ?_;have:=RelV.ref (w:=w) (Z:=Z) (nx:=st.nx) (es:=es) (i:=e) (j:=j + n.toNat * i.esize) q h2
      rwa [← Nat.add_assoc,← Nat.add_assoc,Nat.add_assoc o] at this
    case dref cs j=>
      split at hp <;> simp at hp
      rename_i f;subst hp
      cases l with | @dref _ _ b o q h2 l=>
      refine .quiet h (Kl (g hk _ _ f.1 f.2)) ?_;have:=RelV.dref (inj:=inj) (nx:=st.nx) (j:=j + n.toNat * i.esize) q h2 l
      rwa [← Nat.add_assoc] at this
    case d x=>
      cases x <;> (try simp only [reduceCtorEq] at hp)
      split at hp <;> simp at hp
      rename_i f;subst hp
      cases l with | d l=>
      cases l with | box q h2 l=>
      exact .quiet h (Kl (g hk _ _ f.1 f.2)) (RelV.dref (inj:=inj) (nx:=st.nx) (j:=n.toNat * i.esize) q h2 l)
end
end Go.Am
