/- Lf1 Pl0 Lf2 Lf3 Lf4 Lf5 Lf6 -/
import Derived.Test.YtbknppciefodiaaGreatK6
namespace Go.Am
open Go
def iter {α β : Type} (f : α→Option (α ⊕ β)) : Nat→α→Option β
  | 0,_=>none
  | n + 1,a=>match f a with
    | none=>none
    | some (.inl a')=>iter f n a'
    | some (.inr b)=>some b
theorem qf1 {α β : Type} {f : α→Option (α ⊕ β)} : ∀ {n : Nat} {a : α} {b : β},iter f n a = some b→∀ m,n≤m→iter f m a = some b
  | 0,_,_,h,_,_=>by simp [iter] at h
  | n + 1,a,b,h,m,hm=>by
    obtain ⟨k,rfl⟩ : ∃ k,m = k + 1:=⟨m - 1,q0⟩
    simp only [iter] at h ⊢
    split at h
    · simp at h
    · rename_i a' c;exact qf1 h k q0
    · exact h
theorem qs1 {α β : Type} {f : α→Option (α ⊕ β)} {n m : Nat} {a : α} {b c : β} (h : iter f n a = some b) (j : iter f m a = some c) : b = c:=by
  have g:=qf1 h (max n m) q0
  have d:=qf1 j (max n m) q0
  rw [g] at d;exact Option.some.inj d
open Classical in
noncomputable def loop {α β : Type} (f : α→Option (α ⊕ β)) (a : α) : Option β:=
  if h : ∃ b n,iter f n a = some b then some h.choose else none
theorem q8p {α β : Type} {f : α→Option (α ⊕ β)} {a : α} {b : β} : loop f a = some b↔∃ n,iter f n a = some b:=by
  unfold loop
  split
  · rename_i h
    constructor
    · intro e;cases e;exact h.choose_spec
    · rintro ⟨n,c⟩
      obtain ⟨m,d⟩:=h.choose_spec
      rw [qs1 d c]
  · rename_i h
    constructor
    · intro e;cases e
    · rintro ⟨n,c⟩;exact absurd ⟨b,n,c⟩ h
theorem Kr {α β : Type} {f : α→Option (α ⊕ β)} {a a' : α} (h : f a = some (.inl a')) : loop f a = loop f a':=by
  apply Option.ext
  intro b
  rw [q8p,q8p]
  constructor
  · rintro ⟨n,c⟩
    cases n with
    | zero=>simp [iter] at c
    | succ n=>simp only [iter,h] at c;exact ⟨n,c⟩
  · rintro ⟨n,c⟩
    exact ⟨n + 1,by simp only [iter,h];exact c⟩
theorem K7 {α β : Type} {f : α→Option (α ⊕ β)} {a : α} {b : β} (h : f a = some (.inr b)) : loop f a = some b:=
  q8p.2 ⟨1,by simp [iter,h]⟩
theorem qsk {α β : Type} {f : α→Option (α ⊕ β)} (I : α→Prop) (μ : α→Nat) (Q : β→Prop) (step : ∀ a,I a→(∃ a',f a = some (.inl a')∧I a'∧μ a' < μ a)∨∃ b,f a = some (.inr b)∧Q b) {a : α} (h : I a) : ∃ b,loop f a = some b∧Q b:=by
  generalize j : μ a = n
  induction n using Nat.strongRecOn generalizing a with
  | _ n ih=>
    rcases step a h with ⟨a',d,c,g⟩ | ⟨b,d,c⟩
    · rw [Kr d];exact ih _ (j ▸ g) c rfl
    · exact ⟨b,K7 d,c⟩
def w64 (x : Int) : Int:=IntKind.i64.wrap x
theorem Qe {x : Int} (h : -9223372036854775808≤x∧x≤9223372036854775807) : w64 x = x:=qgv h
def idx {α : Type} (xs : List α) (i : Int) : Option α:=if 0≤i then xs[i.toNat]? else none
def app {α : Type} (c : Nat) (xs ys : List α) : Option (List α):=if (xs.length + ys.length) * (c * 4)≤4294967296 then some (xs ++ ys) else none
def sub2 (n : Nat) (a b : Int) : Option (Nat × Nat):=if 0≤a∧a≤b∧b≤n then some (a.toNat,b.toNat - a.toNat) else none
def cpyw {α : Type} (xs : List α) (w : Nat × Nat) (ys : List α) : List α:=splice xs w.1 (ys.take (min ys.length w.2))
theorem leb {n m : Nat} (h : Nat.ble n m = true) : n≤m:=by simpa using h
theorem qij {α : Type} {xs ys : List α} {w : Nat × Nat} (h : w.1 + w.2≤xs.length) : (cpyw xs w ys).length = xs.length:=by
  simp [cpyw,splice];omega
theorem ltd {n m : Nat} (h : Nat.blt n m = true) : n < m:=by simpa [Nat.blt_eq] using h
def eI (k : IntKind) (x : Int) : List DV:=[.int k x]
def eB (b : Bool) : List DV:=[.bool b]
theorem qbu {α : Type} {xs : List α} {i : Int} {v : α} (h : idx xs i = some v) : 0≤i∧xs[i.toNat]? = some v∧i.toNat < xs.length:=by
  unfold idx at h
  split at h
  · rename_i a;exact ⟨a,h,K3 h⟩
  · cases h
theorem q6 {α β : Type} {o : Option α} {f : α→Option β} {x : β} (h : o.bind f = some x) : ∃ v,o = some v∧f v = some x:=by
  cases o with
  | none=>cases h
  | some v=>exact ⟨v,rfl,h⟩
theorem qd {α : Type} {a b : α} (h : some a = some b) : a = b:=Option.some.inj h
section
variable {P : Program} {T : Tab} {base : Nat} {cs : List Code} {st : AS} {K : Ex→AS→Prop}
theorem RunK.mono {a : Ex→AS→Prop} : ∀ {cs : List Code} {st : AS},RunK P T base cs st K→(∀ ex st,K ex st→a ex st)→RunK P T base cs st a
  | [],_,h,hk=>hk _ _ h
  | c::cs,st,h,hk=>q30.mono h fun ex st h=>by
    cases ex with
    | nor=>exact RunK.mono (cs:=cs) h hk
    | exit i=>exact hk _ _ h
    | ret=>exact hk _ _ h
theorem qm {α : Type} {c : Operand} {a b : Code} {t : Bool} {X Y : Option α} {x : α} (f : st.ev c = some (.d (.bool t))) (h : cond t X Y = some x) (j : t = true→X = some x→RunK P T base (a::cs) st K) (g : t = false→Y = some x→RunK P T base (b::cs) st K) :
    RunK P T base (.cond c a b::cs) st K:=by
  cases t with
  | true=>exact Z4 f (j rfl h)
  | false=>exact Z2 f (g rfl h)
theorem Q5 {α β : Type} {body : Code} (f : α→Option (α ⊕ β)) (S : α→AS) (j : α) (m : β) (o : loop f j = some m) (p : WkE base st (S j))
    (round : ∀ a y,f a = some y→RunK P T base [body] (S a) (fun ex st'=>match ex with
      | .nor=>∃ a',y = .inl a'∧WkE base st' (S a')
      | ex=>∃ b,y = .inr b∧(b = m→K ex st'))) : RunK P T base (.loop body::cs) st K:=by
  obtain ⟨n,r⟩:=q8p.1 o
  refine qwj (fun x : Nat × α=>S x.2) (fun x=>iter f x.1 x.2 = some m) (fun x=>x.1) (n,j) p r ?_
  rintro ⟨k,a⟩ d
  cases k with
  | zero=>simp [iter] at d
  | succ k=>
    simp only [iter] at d
    split at d
    · cases d
    · rename_i a' l
      refine (round a _ l).mono ?_
      intro ex st' h
      cases ex with
      | nor=>
        obtain ⟨a'',c,g⟩:=h
        cases c
        exact ⟨(k,a'),d,qe,g⟩
      | exit i=>obtain ⟨b,c,_⟩:=h;cases c
      | ret=>obtain ⟨b,c,_⟩:=h;cases c
    · rename_i b l
      cases d
      refine (round a _ l).mono ?_
      intro ex st' h
      cases ex with
      | nor=>obtain ⟨a'',c,_⟩:=h;cases c
      | exit i=>obtain ⟨q,c,g⟩:=h;cases c;exact g rfl
      | ret=>obtain ⟨q,c,g⟩:=h;cases c;exact g rfl
theorem Jk {id : Nat} {N : AS→Prop} (h : N st) : q33 id N K (.exit id) st:=by simpa [q33] using h
theorem Qg {id : Nat} {N : AS→Prop} (h : N st) : q33 id N K .nor st:=h
theorem Yk {β : Type} {c : Code} (E : β→Prop) (S : β→AS) (f : cs≠[]) (g : RunK P T base [c] st (qay (fun st'=>∃ b,E b∧WkE base st' (S b)) K)) (a : ∀ b,E b→RunK P T base cs (S b) K) : RunK P T base (c::cs) st K:=by
  obtain ⟨ex,st1,h,d⟩:=q4t g
  refine ⟨ex,st1,h,?_⟩
  cases ex with
  | nor=>obtain ⟨b,hb,j⟩:=d;exact Y2 j (a b hb) f
  | exit i=>exact d
  | ret=>exact d
theorem Qc {β : Type} {id : Nat} {a : Code} (E : β→Prop) (S : β→AS) (d : cs≠[]) (g : RunK P T base [a] st (q33 id (fun st'=>∃ b,E b∧WkE base st' (S b)) K)) (c : ∀ b,E b→RunK P T base cs (S b) K) : RunK P T base (.block id a::cs) st K:=by
  refine qx (g.mono ?_)
  intro ex st' h
  cases ex with
  | nor=>obtain ⟨b,hb,f⟩:=h;exact Y2 f (c b hb) d
  | ret=>exact h
  | exit i=>
    simp only [q33] at h ⊢
    split
    · rename_i hi;rw [if_pos hi] at h;obtain ⟨b,hb,f⟩:=h;exact Y2 f (c b hb) d
    · rename_i hi;rw [if_neg hi] at h;exact h
theorem q69 {β : Type} {c : Code} (E : β→Prop) (S : β→AS) (d : RunK P T base [c] st (qay (fun st'=>∃ b,E b∧WkE base st' (S b)) K)) (a : ∀ b st',E b→WkE base st' (S b)→K .nor st') : RunK P T base [c] st K:=by
  refine d.mono ?_
  intro ex st' h
  cases ex with
  | nor=>obtain ⟨b,hb,f⟩:=h;exact a b st' hb f
  | exit i=>exact h
  | ret=>exact h
end
section
variable {P : Program} {T : Tab} {base : Nat} {ops : Array Oper} {dr : Dr} {l : List Oper} {sl : List (Nat × V)} {hp : List (Nat × Blk)} {nx : Nat} {K : AS→Prop} {ty : TypeId} {pos : String} {af : Array Edge} {t : Tmp} {g : Option (Nat × Bool)}
theorem qts {op : Op} (v : V) (a : Qo ops ⟨sl,hp,nx⟩ ⟨some t,op,ty,pos,af,g⟩ = some true) (b : opFn T ⟨sl,hp,nx⟩ op = some (v,⟨sl,hp,nx⟩)) (h : OpsK P T base ops dr l ⟨(t,v)::sl,hp,nx⟩ K) (c : okO dr l.length ⟨sl,hp,nx⟩ (op) ⟨sl,hp,nx⟩ = true:=by rfl) : OpsK P T base ops dr (⟨some t,op,ty,pos,af,g⟩::l) ⟨sl,hp,nx⟩ K:=
  Y3 a b h c
theorem qtl {op : Op} (v : V) (b : Blk) (a : Qo ops ⟨sl,hp,nx⟩ ⟨some t,op,ty,pos,af,g⟩ = some true) (c : opFn T ⟨sl,hp,nx⟩ op = some (v,⟨sl,(nx,b)::hp,nx + 1⟩)) (h : OpsK P T base ops dr l ⟨(t,v)::sl,(nx,b)::hp,nx + 1⟩ K) (d : okO dr l.length ⟨sl,hp,nx⟩ (op) ⟨sl,(nx,b)::hp,nx + 1⟩ = true:=by rfl) : OpsK P T base ops dr (⟨some t,op,ty,pos,af,g⟩::l) ⟨sl,hp,nx⟩ K:=
  Y3 a c h d
theorem q3h {op : Op} {es len : Nat} (xs : List (List DV)) (k : Qo ops ⟨sl,hp,nx⟩ ⟨some t,op,ty,pos,af,g⟩ = some true) (b : opFn T ⟨sl,hp,nx⟩ op = some (.hs nx es 0 len,⟨sl,(nx,.dat es xs)::hp,nx + 1⟩)) (a : len = xs.length) (c : touch op = 2) (f : find hp nx = none) (h : OpsK P T base ops dr l ⟨(t,.d (.sl es xs))::sl,hp,nx + 1⟩ K) (j : okF dr l.length (fp ⟨sl,hp,nx⟩ op) = true:=by rfl) : OpsK P T base ops dr (⟨some t,op,ty,pos,af,g⟩::l) ⟨sl,hp,nx⟩ K:=by
  subst a
  exact qtm (n:=nx) (hp2:=hp) (st1:=⟨sl,(nx,.dat es xs)::hp,nx + 1⟩) k b c ⟨rfl,rfl⟩ rfl f h j
theorem qtr {op : Op} (n : Nat) (b : Blk) (a : Qo ops ⟨sl,hp,nx⟩ ⟨none,op,ty,pos,af,g⟩ = some true) (c : opFn T ⟨sl,hp,nx⟩ op = some (.dead,⟨sl,repl hp n b,nx⟩)) (h : OpsK P T base ops dr l ⟨sl,repl hp n b,nx⟩ K) (d : okO dr l.length ⟨sl,hp,nx⟩ (op) ⟨sl,repl hp n b,nx⟩ = true:=by rfl) : OpsK P T base ops dr (⟨none,op,ty,pos,af,g⟩::l) ⟨sl,hp,nx⟩ K:=
  Y3 a c h d
theorem Q0 {α : Type} {x : Operand} {b : Bool} {X Y : Option α} {m : α} (c : Qo ops ⟨sl,hp,nx⟩ ⟨some t,.move x,ty,pos,af,g⟩ = some true) (a : AS.ev ⟨sl,hp,nx⟩ x = some (.d (.bool b))) (h : cond b X Y = some m)
    (j : X = some m→OpsK P T base ops dr l ⟨(t,.d (.bool true))::sl,hp,nx⟩ K) (f : Y = some m→OpsK P T base ops dr l ⟨(t,.d (.bool false))::sl,hp,nx⟩ K) : OpsK P T base ops dr (⟨some t,.move x,ty,pos,af,g⟩::l) ⟨sl,hp,nx⟩ K:=by
  cases b with
  | true=>exact qfq c a (j h)
  | false=>exact qfq c a (f h)
theorem q10 {dr : Dr} (hd : dr = none) {m n : List Oper} {st st1 st2 : AS} : Ke P T base ops dr m st st1→Ke P T base ops dr n st1 st2→Ke P T base ops dr (m ++ n) st st2
  | .nil,h2=>h2
  | .skip a b,h2=>.skip a (q10 hd b h2)
  | .op a b _ c,h2=>.op a b (by subst hd;rfl) (q10 hd c h2)
  | .opF a b c d e f _ g,h2=>.opF a b c d e f (by subst hd;rfl) (q10 hd g h2)
  | .callP a b c d e f g h _ i,h2=>.callP a b c d e f g h (by subst hd;rfl) (q10 hd i h2)
  | .callS a b c d e,h2=>.callS a b c d (q10 hd e h2)
  | .callF a b c d e f g h i,h2=>.callF a b c d e f g h (q10 hd i h2)
  | .callY a b c d e f g h i j k l,h2=>.callY a b c d e f g h i j k (q10 hd l h2)
  | .wk a b,h2=>.wk a (q10 hd b h2)
  | .piv _ _ _,_=>by cases hd
theorem qeq {F : List Fp} {m k : Nat} : fpAt (F.drop m) k = fpAt F (k + m):=by
  unfold fpAt
  rw [List.getElem?_drop,Nat.add_comm]
theorem qt6 {F : List Fp} {l a : List Oper} {dr : Dr} (hd : dr = some (F.drop a.length)) {st st1 : AS} {op : Op} (h : okO dr l.length st op st1 = true) : okO (some F) (l ++ a).length st op st1 = true:=by
  subst hd
  simp only [okO,qeq] at h
  simpa only [okO,List.length_append] using h
theorem qkx {F : List Fp} {l a : List Oper} {dr : Dr} (hd : dr = some (F.drop a.length)) {x : Fp} (h : okF dr l.length x = true) : okF (some F) (l ++ a).length x = true:=by
  subst hd
  simp only [okF,qeq] at h
  simpa only [okF,List.length_append] using h
theorem qr3 {F : List Fp} {m : List Oper} {dr : Dr} {k : Dr} (r : k = some F) (hd : dr = some (F.drop m.length)) {n : List Oper} {st st1 st2 : AS} (p : Ke P T base ops dr n st st1) (q : Ke P T base ops k m st1 st2) : Ke P T base ops k (n ++ m) st st2:=by
  subst r
  induction n generalizing st with
  | nil=>cases p with
    | nil=>exact q
    | wk _ _=>cases hd
  | cons o l ih=>
    cases p with
    | skip a b=>exact .skip a (ih b)
    | op a b c d=>exact .op a b (qt6 hd c) (ih d)
    | opF a b c d e f g h=>exact .opF a b c d e f (qkx hd g) (ih h)
    | callP a b c d e f g h i j=>exact .callP a b c d e f g h (qkx hd i) (ih j)
    | callS _ _ _ _ _=>cases hd
    | callF _ _ _ _ _ _ _ _ _=>cases hd
    | callY _ _ _ _ _ _ _ _ _ _ _ _=>cases hd
    | wk _ _=>cases hd
    | piv a b c=>
      cases hd
      rw [qeq] at a
      exact .piv (by show U4 (fpAt F (l ++ m).length) = true;rw [List.length_append];exact a) b (ih c)
def qik (dr : Dr) (k : Nat) : Dr:=match dr with
  | none=>none
  | some F=>some (F.drop k)
theorem qr2 {dr : Dr} {b a : List Oper} {st st1 st2 : AS} (c : Ke P T base ops (qik dr a.length) b st st1) (d : Ke P T base ops dr a st1 st2) : Ke P T base ops dr (b ++ a) st st2:=by
  cases dr with
  | none=>exact q10 rfl c d
  | some F=>exact qr3 rfl rfl c d
theorem Q2 (n : Nat) (Q : (List (Nat × V)→AS)→AS→Prop) (d : OpsK P T base ops (qik dr (l.drop n).length) (l.take n) ⟨sl,hp,nx⟩ (Q fun p=>⟨p ++ sl,hp,nx⟩)) (a : ∀ st',Q (fun p=>⟨p ++ sl,hp,nx⟩) st'→OpsK P T base ops dr (l.drop n) st' K) : OpsK P T base ops dr l ⟨sl,hp,nx⟩ K:=by
  obtain ⟨st1,c,b⟩:=d
  obtain ⟨st2,f,g⟩:=a st1 b
  refine ⟨st2,?_,g⟩
  have:=qr2 c f
  rwa [List.take_append_drop] at this
theorem qte {α : Type} {x y : Operand} {a : TypeId} {i : TI} {k : IntKind} {n : Int} {es : Nat} {xs : List α} {enc : α→List DV} {v : α} (o : idx xs n = some v) (f : Qo ops ⟨sl,hp,nx⟩ ⟨some t,.indexAddr a x y,ty,pos,af,g⟩ = some true) (b : T a = some i)
    (m : AS.ev ⟨sl,hp,nx⟩ x = some (.d (.sl es (xs.map enc)))) (c : AS.ev ⟨sl,hp,nx⟩ y = some (.d (.int k n))) (p : i.kind = .slice) (r : es = i.esize)
    (h : OpsK P T base ops dr l ⟨(t,.dref (enc v) 0)::sl,hp,nx⟩ K) : OpsK P T base ops dr (⟨some t,.indexAddr a x y,ty,pos,af,g⟩::l) ⟨sl,hp,nx⟩ K:=by
  obtain ⟨j,q,_⟩:=qbu o
  exact Y3 f (v:=.dref (enc v) 0) (st1:=⟨sl,hp,nx⟩) (by simp [opFn,m,c,b,q3d,p,r,j,q]) h (J3 rfl)
theorem qtd {α : Type} {x y : Operand} {a : TypeId} {i : TI} {k : IntKind} {n : Int} {m es len : Nat} {xs : List α} {v : α} (q : idx xs n = some v) (o : len = xs.length) (f : Qo ops ⟨sl,hp,nx⟩ ⟨some t,.indexAddr a x y,ty,pos,af,g⟩ = some true) (b : T a = some i)
    (p : AS.ev ⟨sl,hp,nx⟩ x = some (.hs m es 0 len)) (c : AS.ev ⟨sl,hp,nx⟩ y = some (.d (.int k n))) (r : i.kind = .slice) (s : es = i.esize)
    (h : OpsK P T base ops dr l ⟨(t,.ref m es n.toNat 0)::sl,hp,nx⟩ K) : OpsK P T base ops dr (⟨some t,.indexAddr a x y,ty,pos,af,g⟩::l) ⟨sl,hp,nx⟩ K:=by
  subst o
  obtain ⟨j,_,u⟩:=qbu q
  exact Y3 f (v:=.ref m es n.toNat 0) (st1:=⟨sl,hp,nx⟩) (by simp [opFn,p,c,b,q3d,r,s,j];omega) h (J3 rfl)
theorem qti {α : Type} {p : Operand} {a : TypeId} {i : TI} {m es j : Nat} {n : Int} {xs : List α} {enc : α→List DV} {r : List DV} {v : α} (w : V) (q : idx xs n = some v) (f : Qo ops ⟨sl,hp,nx⟩ ⟨some t,.load a p,ty,pos,af,g⟩ = some true) (b : T a = some i)
    (o : AS.ev ⟨sl,hp,nx⟩ p = some (.ref m es n.toNat j)) (hb : find hp m = some (.dat es (xs.map enc))) (hs : sub (enc v) j i.size = some r) (k : (q1f i.agg r).map .d = some w)
    (h : OpsK P T base ops dr l ⟨(t,w)::sl,hp,nx⟩ K) (c : okF dr l.length (fp ⟨sl,hp,nx⟩ (.load a p)) = true:=by rfl) : OpsK P T base ops dr (⟨some t,.load a p,ty,pos,af,g⟩::l) ⟨sl,hp,nx⟩ K:=
  ql0 f b o hb (by rw [List.getElem?_map,(qbu q).2.1];rfl) hs k h c
theorem Qw {α : Type} {p x : Operand} {f : TypeId} {i : TI} {m es j : Nat} {n : Int} {xs : List α} {enc : α→List DV} {v : α} (k : α) {u : V} {ds : List DV} (z : idx xs n = some v) (s : Qo ops ⟨sl,hp,nx⟩ ⟨none,.store f p x,ty,pos,af,g⟩ = some true) (q : T f = some i)
    (hp' : AS.ev ⟨sl,hp,nx⟩ p = some (.ref m es n.toNat j)) (w : AS.ev ⟨sl,hp,nx⟩ x = some u) (hb : find hp m = some (.dat es (xs.map enc))) (o : cellsOf u = ds.map .d) (t : ds.length = i.size) (hk : ds.all Y6 = true) (y : j + i.size≤(enc v).length) (hs : splice (enc v) j ds = enc k)
    (h : OpsK P T base ops dr l ⟨sl,repl hp m (.dat es ((xs.set n.toNat k).map enc)),nx⟩ K) (r : okO dr l.length ⟨sl,hp,nx⟩ (.store f p x) ⟨sl,repl hp m (.dat es ((xs.set n.toNat k).map enc)),nx⟩ = true:=by rfl) : OpsK P T base ops dr (⟨none,.store f p x,ty,pos,af,g⟩::l) ⟨sl,hp,nx⟩ K:=by
  refine Y3 s (v:=.dead) (st1:=⟨sl,repl hp m (.dat es ((xs.set n.toNat k).map enc)),nx⟩) ?_ h r
  have c : (cellsOf u).all Kc = true:=by rw [o,List.all_map];exact hk
  have a : (cellsOf u).length = i.size:=by rw [o];simpa using t
  have b : (xs.map enc)[n.toNat]? = some (enc v):=by rw [List.getElem?_map,(qbu z).2.1];rfl
  simp only [opFn,q,hp',w,J8,AS.blk,hb,Nat.beq_refl,b]
  rw [if_neg (by simp [c,a]),if_pos y,o,qdm]
  simp only [hs,List.map_set,AS.setBlk]
  rfl
theorem ql1 {α : Type} {x : Operand} {a : TypeId} {i : TI} {es : Nat} {xs : List α} {enc : α→List DV} (j : Qo ops ⟨sl,hp,nx⟩ ⟨some t,.call {callee:=.builtin .len,args:=#[x],argTypes:=#[a]},ty,pos,af,g⟩ = some true) (b : T a = some i) (f : i.kind = .slice) (c : AS.ev ⟨sl,hp,nx⟩ x = some (.d (.sl es (xs.map enc))))
    (h : OpsK P T base ops dr l ⟨(t,.d (.int .i64 (xs.length : Int)))::sl,hp,nx⟩ K) : OpsK P T base ops dr (⟨some t,.call {callee:=.builtin .len,args:=#[x],argTypes:=#[a]},ty,pos,af,g⟩::l) ⟨sl,hp,nx⟩ K:=
  qth j b f c qe h
theorem Kn {α : Type} {x y : Operand} {a c : TypeId} {i j : TI} {n es len : Nat} {xs ys zs : List α} {enc : α→List DV} (f : V) (d : app i.ebytes xs ys = some zs) (b : len = xs.length) (u : Qo ops ⟨sl,hp,nx⟩ ⟨some t,.call {callee:=.builtin .append,args:=#[x,y],argTypes:=#[a,c]},ty,pos,af,g⟩ = some true)
    (o : T a = some i) (k : T c = some j) (v : AS.ev ⟨sl,hp,nx⟩ x = some (.hs n es 0 len)) (q : AS.ev ⟨sl,hp,nx⟩ y = some f) (hb : find hp n = some (.dat es (xs.map enc))) (r : Yo ⟨sl,hp,nx⟩ f = some (ys.map enc))
    (z : i.kind = .slice) (m : j.kind = .slice) (he : es = i.esize) (w : Zo i.esize f = true)
    (h : OpsK P T base ops dr l ⟨(t,.hs nx es 0 zs.length)::sl,(nx,.dat es (zs.map enc))::repl hp n .dead,nx + 1⟩ K) (s : okF dr l.length (fp ⟨sl,hp,nx⟩ (.call {callee:=.builtin .append,args:=#[x,y],argTypes:=#[a,c]})) = true:=by rfl) : OpsK P T base ops dr (⟨some t,.call {callee:=.builtin .append,args:=#[x,y],argTypes:=#[a,c]},ty,pos,af,g⟩::l) ⟨sl,hp,nx⟩ K:=by
  subst b
  unfold app at d
  split at d
  · rename_i p
    cases d
    refine qt8 u o k v q hb qe r z m he w (by simpa [Nat.mul_assoc] using p) ?_ s
    simpa using h
  · cases d
theorem Km {α : Type} {n es len : Nat} {ys : List α} {enc : α→List DV} (a : len = ys.length) (hb : find hp n = some (.dat es (ys.map enc))) : Yo ⟨sl,hp,nx⟩ (.hs n es 0 len) = some (ys.map enc):=by
  subst a
  simp only [Yo,AS.blk,hb]
  rw [if_pos qe,List.drop_zero,List.take_of_length_le qe]
theorem q86 {o : Operand} {k : IntKind} {a : Int} {d : Nat} {st : AS} (h : st.ev o = some (.d (.int k a))) (b : 0≤a) : bound st d (some o) = some a.toNat:=by
  simp [bound,h,b]
theorem q8t {x : Operand} {f : TypeId} {lo hi : Option Operand} {i : TI} {n es len : Nat} {a b : Int} {w : Nat × Nat} (c : sub2 len a b = some w) (o : Qo ops ⟨sl,hp,nx⟩ ⟨some t,.slice f x lo hi none,ty,pos,af,g⟩ = some true) (k : T f = some i) (q : i.kind = .slice) (r : es = i.esize)
    (p : AS.ev ⟨sl,hp,nx⟩ x = some (.hs n es 0 len)) (d : 0≤a→bound ⟨sl,hp,nx⟩ 0 lo = some a.toNat) (j : 0≤b→bound ⟨sl,hp,nx⟩ len hi = some b.toNat)
    (h : OpsK P T base ops dr l ⟨(t,.hs n es w.1 w.2)::sl,hp,nx⟩ K) : OpsK P T base ops dr (⟨some t,.slice f x lo hi none,ty,pos,af,g⟩::l) ⟨sl,hp,nx⟩ K:=by
  unfold sub2 at c
  split at c
  · rename_i m
    cases c
    refine Y3 o (v:=.hs n es a.toNat (b.toNat - a.toNat)) (st1:=⟨sl,hp,nx⟩) ?_ h (J3 rfl)
    simp only [opFn,k,p,q,lenV,d m.1,j q0,qcm]
    rw [if_pos ⟨trivial,rfl⟩]
    rw [if_pos ⟨q0,q0,r⟩]
    simp
  · cases c
theorem qan {n : Nat} {a b : Int} {w : Nat × Nat} (h : sub2 n a b = some w) : w.1 + w.2≤n:=by
  unfold sub2 at h
  split at h
  · cases h;simp only;omega
  · cases h
theorem q11t {α β : Type} (f : α→β) (xs ys : List α) (j : Nat) : splice (xs.map f) j (ys.map f) = (splice xs j ys).map f:=by
  simp [splice,List.map_take,List.map_drop]
theorem qtb {α : Type} {x y : Operand} {a b : TypeId} {i j : TI} {n es : Nat} {w : Nat × Nat} {xs ys : List α} {enc : α→List DV} (c : V) (s : w.1 + w.2≤xs.length) (r : Qo ops ⟨sl,hp,nx⟩ ⟨some t,.call {callee:=.builtin .copy,args:=#[x,y],argTypes:=#[a,b]},ty,pos,af,g⟩ = some true)
    (m : T a = some i) (f : T b = some j) (u : AS.ev ⟨sl,hp,nx⟩ x = some (.hs n es w.1 w.2)) (o : AS.ev ⟨sl,hp,nx⟩ y = some c) (hb : find hp n = some (.dat es (xs.map enc))) (p : Yo ⟨sl,hp,nx⟩ c = some (ys.map enc))
    (hk : i.kind = .slice) (k : j.kind = .slice) (he : es = i.esize) (z : Zo i.esize c = true)
    (h : OpsK P T base ops dr l ⟨(t,.d (.int .i64 (min ys.length w.2 : Nat)))::sl,repl hp n (.dat es ((cpyw xs w ys).map enc)),nx⟩ K) (q : okO dr l.length ⟨sl,hp,nx⟩ (.call {callee:=.builtin .copy,args:=#[x,y],argTypes:=#[a,b]}) ⟨sl,repl hp n (.dat es ((cpyw xs w ys).map enc)),nx⟩ = true:=by rfl) : OpsK P T base ops dr (⟨some t,.call {callee:=.builtin .copy,args:=#[x,y],argTypes:=#[a,b]},ty,pos,af,g⟩::l) ⟨sl,hp,nx⟩ K:=by
  refine Y3 r (v:=.d (.int .i64 (min ys.length w.2 : Nat))) (st1:=⟨sl,repl hp n (.dat es ((cpyw xs w ys).map enc)),nx⟩) ?_ h q
  simp only [opFn,evL,u,o,Kw]
  simp only [List.getElem?_toArray,List.getElem?_cons_zero,List.getElem?_cons_succ,m,f]
  rw [if_pos ⟨hk,k,by simp [Zo,he],z⟩]
  simp only [copyV,AS.blk,hb,p]
  rw [if_pos ⟨by simpa using s,trivial⟩]
  simp only [List.length_map,cpyw,← List.map_take,q11t,AS.setBlk]
theorem qqh {α : Type} {n es : Nat} {w : Nat × Nat} {ys : List α} {enc : α→List DV} (a : w.1 + w.2≤ys.length) (hb : find hp n = some (.dat es (ys.map enc))) : Yo ⟨sl,hp,nx⟩ (.hs n es w.1 w.2) = some (((ys.drop w.1).take w.2).map enc):=by
  simp only [Yo,AS.blk,hb]
  rw [if_pos ⟨by simpa using a,trivial⟩,List.map_take,List.map_drop]
theorem q2e {k c : IntKind} {a b : Int} {r : List V} : minI false (.d (.int k a)) (.d (.int c b)::r) = minI false (.d (.int k (min a b))) r:=by
  simp only [minI]
  congr 3
  simp only [cond_false]
  split <;> omega
theorem U7 {k c : IntKind} {a b : Int} {r : List V} : minI true (.d (.int k a)) (.d (.int c b)::r) = minI true (.d (.int k (max a b))) r:=by
  simp only [minI]
  congr 3
  simp only [cond_true]
  split <;> omega
theorem q2g {xs : Array Operand} {ats : Array TypeId} {b : List V} {k : IntKind} {a : Int} {r : Int} (j : Qo ops ⟨sl,hp,nx⟩ ⟨some t,.call {callee:=.builtin .min,args:=xs,argTypes:=ats},ty,pos,af,g⟩ = some true) (f : evL (AS.ev ⟨sl,hp,nx⟩) xs.toList = some (.d (.int k a)::b)) (c : minI false (.d (.int k a)) b = some (.d (.int k r)))
    (h : OpsK P T base ops dr l ⟨(t,.d (.int k r))::sl,hp,nx⟩ K) : OpsK P T base ops dr (⟨some t,.call {callee:=.builtin .min,args:=xs,argTypes:=ats},ty,pos,af,g⟩::l) ⟨sl,hp,nx⟩ K:=
  Y3 j (v:=.d (.int k r)) (st1:=⟨sl,hp,nx⟩) (by simp [opFn,f,Kw,c]) h (J3 rfl)
theorem U9 {xs : Array Operand} {ats : Array TypeId} {b : List V} {k : IntKind} {a : Int} {r : Int} (j : Qo ops ⟨sl,hp,nx⟩ ⟨some t,.call {callee:=.builtin .max,args:=xs,argTypes:=ats},ty,pos,af,g⟩ = some true) (f : evL (AS.ev ⟨sl,hp,nx⟩) xs.toList = some (.d (.int k a)::b)) (c : minI true (.d (.int k a)) b = some (.d (.int k r)))
    (h : OpsK P T base ops dr l ⟨(t,.d (.int k r))::sl,hp,nx⟩ K) : OpsK P T base ops dr (⟨some t,.call {callee:=.builtin .max,args:=xs,argTypes:=ats},ty,pos,af,g⟩::l) ⟨sl,hp,nx⟩ K:=
  Y3 j (v:=.d (.int k r)) (st1:=⟨sl,hp,nx⟩) (by simp [opFn,f,Kw,c]) h (J3 rfl)
theorem q2h {c : Call} {f : FuncId} {ds : List DV} {r : DV} (a : List V) (b : Pure P T f ds r) (m : Qo ops ⟨sl,hp,nx⟩ ⟨some t,.call c,ty,pos,af,g⟩ = some true) (j : callee ⟨sl,hp,nx⟩ c = some (f,a)) (hd : Kg hp a = some ds)
    (hs : (a.all V.isD = true∨r.scalar = true)) (h : OpsK P T base ops dr l ⟨(t,.d r)::sl,hp,nx⟩ K) (k : okF dr l.length (fpC a) = true:=by rfl) : OpsK P T base ops dr (⟨some t,.call c,ty,pos,af,g⟩::l) ⟨sl,hp,nx⟩ K:=
  qkz m rfl j hd hs b h k
theorem Zc {hp : List (Nat × Blk)} {v : V} {d : DV} {a : List V} {ds : List DV} (h : toD hp 8 v = some d) (b : Kg hp a = some ds) : Kg hp (v::a) = some (d::ds):=by
  simp [Kg,h,b]
theorem Z6 {α : Type} {k n es len : Nat} {ys : List α} {enc : α→List DV} (a : len = ys.length) (hb : find hp n = some (.dat es (ys.map enc))) : toD hp (k + 1) (.hs n es 0 len) = some (.sl es (ys.map enc)):=by
  subst a
  simp only [toD,hb]
  rw [if_pos qe,List.drop_zero,List.take_of_length_le qe]
theorem q4m {k : Nat} {a : List V} {ds : List DV} (h : Yz (toD hp k) a = some ds) : toD hp (k + 1) (.tup a) = some (.tup ds):=by simp [toD,h]
theorem q12l {k : Nat} {a : List V} {ds : List DV} (h : Yz (toD hp k) a = some ds) : toD hp (k + 1) (.agg a) = some (.agg ds):=by simp [toD,h]
theorem qnz {k : Nat} {f : FuncId} {a : List V} {ds : List DV} (h : Yz (toD hp k) a = some ds) : toD hp (k + 1) (.fn f a) = some (.fn f ds):=by simp [toD,h]
theorem Yd {k : Nat} {v : V} {d : DV} {a : List V} {ds : List DV} (h : toD hp k v = some d) (b : Yz (toD hp k) a = some ds) : Yz (toD hp k) (v::a) = some (d::ds):=by simp [Yz,h,b]
inductive DLeL : List DV→List DV→Prop
  | nil : DLeL [] []
  | cons {x y : DV} {xs ys : List DV} : DLe x y→DLeL xs ys→DLeL (x::xs) (y::ys)
theorem DLeL.len {xs ys : List DV} (h : DLeL xs ys) : xs.length = ys.length:=by
  induction h with
  | nil=>rfl
  | cons _ _ ih=>simp [ih]
theorem DLeL.get {xs ys : List DV} (h : DLeL xs ys) : ∀ (i : Nat) (x y : DV),xs[i]? = some x→ys[i]? = some y→DLe x y:=by
  induction h with
  | nil=>intro i x y h;simp at h
  | cons h1 _ ih=>
    intro i x y b a
    cases i with
    | zero=>simp at b a;subst b a;exact h1
    | succ i=>exact ih i x y (by simpa using b) (by simpa using a)
theorem Kz {xs ys : List DV} (h : DLeL xs ys) : DLe (.tup xs) (.tup ys):=.tup h.len h.get
theorem qef {xs ys : List DV} (h : DLeL xs ys) : DLe (.agg xs) (.agg ys):=.agg h.len h.get
theorem finD {ex : Ex} {st : AS} {b : List ResultVar} {v : V} {r a : DV} (c : ex = .nor∨ex = .ret) (f : resV T st b = some v) (d : toD st.hp 8 v = some a) (g : DLe a r) : (ex = .nor∨ex = .ret)∧∃ v a,resV T st b = some v∧toD st.hp 8 v = some a∧DLe a r:=
  ⟨c,v,a,f,d,g⟩
end
theorem qoe {α : Type} {st : AS} {ρ : Nat→Nat} {fz ph : List Nat} {nx n es len : Nat} {ys : List α} {enc : α→List DV} (a : len = ys.length) (hb : st.blk n = some (.dat es (ys.map enc))) (b : n∈fz) : Wv st ρ fz ph nx (.hs n es 0 len) (.d (.sl es (ys.map enc))):=by
  subst a
  exact .frz hb b qe (by rw [List.drop_zero,List.take_of_length_le qe]) rfl
theorem Qy {st : AS} {ρ : Nat→Nat} {fz ph : List Nat} {nx n m es o l l' : Nat} (a : l = l') (d : ρ m = n) (b : m ∉ ph) (c : m < nx) : Wv st ρ fz ph nx (.hs n es o l) (.hs m es o l'):=a ▸ .hs d b c
inductive WvC (st : AS) (ρ : Nat→Nat) (fz ph : List Nat) (nx : Nat) : List V→List V→Prop
  | nil : WvC st ρ fz ph nx [] []
  | cons {c d : V} {cs ds : List V} : Wv st ρ fz ph nx c d→Kc d = true→WvC st ρ fz ph nx cs ds→WvC st ρ fz ph nx (c::cs) (d::ds)
theorem WvC.len {st : AS} {ρ : Nat→Nat} {fz ph : List Nat} {nx : Nat} {cs ds : List V} (h : WvC st ρ fz ph nx cs ds) : cs.length = ds.length:=by
  induction h with
  | nil=>rfl
  | cons _ _ _ ih=>simp [ih]
theorem WvC.get {st : AS} {ρ : Nat→Nat} {fz ph : List Nat} {nx : Nat} {cs ds : List V} (h : WvC st ρ fz ph nx cs ds) : ∀ (j : Nat) (c d : V),cs[j]? = some c→ds[j]? = some d→Wv st ρ fz ph nx c d∧Kc d = true:=by
  induction h with
  | nil=>intro i x y h;simp at h
  | cons h1 h2 _ ih=>
    intro i x y b a
    cases i with
    | zero=>simp at b a;subst b a;exact ⟨h1,h2⟩
    | succ i=>exact ih i x y (by simpa using b) (by simpa using a)
theorem J9 {st : AS} {ρ : Nat→Nat} {fz ph : List Nat} {nx es : Nat} {cs ds : List V} (h : WvC st ρ fz ph nx cs ds) : Wb st ρ fz ph nx (.cel es [cs]) (.cel es [ds]):=by
  refine .cel rfl fun i x y a b=>?_
  cases i with
  | zero=>simp at a b;subst a b;exact ⟨h.len,h.get⟩
  | succ i=>simp at a
theorem qgu {st : AS} {ρ : Nat→Nat} {fz ph : List Nat} {nx es : Nat} {cs : List DV} {ds : List V} (h : WvC st ρ fz ph nx (cs.map .d) ds) : Wb st ρ fz ph nx (.dat es [cs]) (.cel es [ds]):=by
  refine .datcel rfl fun i x y a b=>?_
  cases i with
  | zero=>
    simp at a b;subst a b
    exact ⟨by simpa using h.len,fun j c d f hd=>h.get j (.d c) d (by simp [f]) hd⟩
  | succ i=>simp at a
inductive WvL (st : AS) (ρ : Nat→Nat) (fz ph : List Nat) (nx : Nat) : List V→List V→Prop
  | nil : WvL st ρ fz ph nx [] []
  | cons {c d : V} {cs ds : List V} : Wv st ρ fz ph nx c d→WvL st ρ fz ph nx cs ds→WvL st ρ fz ph nx (c::cs) (d::ds)
theorem WvL.len {st : AS} {ρ : Nat→Nat} {fz ph : List Nat} {nx : Nat} {cs ds : List V} (h : WvL st ρ fz ph nx cs ds) : cs.length = ds.length:=by
  induction h with
  | nil=>rfl
  | cons _ _ ih=>simp [ih]
theorem WvL.get {st : AS} {ρ : Nat→Nat} {fz ph : List Nat} {nx : Nat} {cs ds : List V} (h : WvL st ρ fz ph nx cs ds) : ∀ (j : Nat) (c d : V),cs[j]? = some c→ds[j]? = some d→Wv st ρ fz ph nx c d:=by
  induction h with
  | nil=>intro i x y h;simp at h
  | cons h1 _ ih=>
    intro i x y b a
    cases i with
    | zero=>simp at b a;subst b a;exact h1
    | succ i=>exact ih i x y (by simpa using b) (by simpa using a)
theorem q1u {st : AS} {ρ : Nat→Nat} {fz ph : List Nat} {nx : Nat} {f : FuncId} {cs ds : List V} (h : WvL st ρ fz ph nx cs ds) : Wv st ρ fz ph nx (.fn f cs) (.fn f ds):=.fn h.len h.get
theorem qgx {st : AS} {ρ : Nat→Nat} {fz ph : List Nat} {nx : Nat} {cs ds : List V} (h : WvL st ρ fz ph nx cs ds) : Wv st ρ fz ph nx (.tup cs) (.tup ds):=.tup h.len h.get
theorem q13e {st : AS} {ρ : Nat→Nat} {fz ph : List Nat} {nx : Nat} {cs : List DV} {ds : List V} (h : WvL st ρ fz ph nx (cs.map .d) ds) : Wv st ρ fz ph nx (.d (.tup cs)) (.tup ds):=
  .dtup (by have:=h.len;simpa using this) fun i c d a hd=>h.get i _ d (by simp [a]) hd
theorem q13d {st : AS} {ρ : Nat→Nat} {fz ph : List Nat} {nx : Nat} {cs : List DV} {ds : List V} (h : WvL st ρ fz ph nx (cs.map .d) ds) : Wv st ρ fz ph nx (.d (.agg cs)) (.agg ds):=
  .dagg (by have:=h.len;simpa using this) fun i c d a hd=>h.get i _ d (by simp [a]) hd
theorem qde {st : AS} {ρ : Nat→Nat} {fz ph : List Nat} {nx : Nat} {cs ds : List V} (h : WvL st ρ fz ph nx cs ds) : Wv st ρ fz ph nx (.agg cs) (.agg ds):=.agg h.len h.get
theorem qiy {P : Program} {T : Tab} {f : FuncId} {ds a : List DV} (j : DLeL a ds) {l : List V} {hp hp' : List (Nat × Blk)} {nx nx' : Nat} {v : V} : K0 P T f l hp nx v hp' nx'→l = ds.map .d→hp = []→nx = 0→K0 P T f (a.map .d) [] 0 v hp' nx'
  | .wk e w,g,hh,hn=>by
    have h:=qiy j e g hh hn
    subst hh hn
    exact .wk h w
  | .mk h1 h2 h3 h4 h5 h6 h7 h8,g,hh,hn=>by
    subst g hh hn
    refine .mk h1 h2 h3 h4 (by simpa [j.len] using h5) (.wk (ρ:=fun n=>n) (fz:=[]) (ph:=[]) ⟨?_,?_,?_,?_,?_,?_,?_,?_⟩ h6) h7 h8
    · intro t p g
      simp only [AS.get,qbb] at g ⊢
      simp only [Nat.zero_le,if_true,Nat.sub_zero,List.getElem?_map,Option.map_eq_some_iff] at g ⊢
      obtain ⟨y,k,rfl⟩:=g
      obtain ⟨x,o⟩:=Z8 (xs:=a) (i:=t) (by rw [j.len];exact K3 k)
      exact ⟨_,⟨x,o,rfl⟩,.d (j.get t x y o k)⟩
    · intro n b h;simp [AS.blk,find] at h
    · intro n m b c h;simp [AS.blk,find] at h
    · intro n b h;simp [AS.blk,find] at h
    · intro n h;rfl
    · exact Nat.le_refl _
    · intro n h;cases h
    · intro n h;cases h
theorem q3j {P : Program} {T : Tab} {f : FuncId} {ds a : List DV} {r : DV} (c : DLeL a ds) (h : Pure P T f ds r) : Pure P T f a r:=by
  obtain ⟨v,hp,nx,g,e,d,b⟩:=h
  exact ⟨v,hp,nx,g,qiy c e rfl rfl rfl,d,b⟩
end Go.Am
namespace Go.Sh
open Go Go.Am
theorem Qi {α : Type} {xs : List α} {k : Nat} (h : k < xs.length) : idx xs (k : Int) = some xs[k]:=by simp [idx,h]
theorem Zr {α : Type} {xs : List α} {i : Int} {k : Nat} (hi : i = k) (h : k < xs.length) : idx xs i = some xs[k]:=by subst hi;exact Qi h
theorem Ky {α : Type} {c : Nat} {xs ys : List α} (h : (xs.length + ys.length) * (c * 4)≤4294967296) : app c xs ys = some (xs ++ ys):=by simp [app,h]
theorem qqe {α : Type} {c : Bool} {a b : α} : (cond c (some a) (some b)) = some (cond c a b):=by cases c <;> rfl
theorem Zs {α β σ : Type} {f : α→Option (α ⊕ β)} (mk : Nat→σ→α) (n : Nat) (I : Nat→σ→Prop) (Q : β→Prop)
    (step : ∀ k c,k < n→I k c→(∃ g,f (mk k c) = some (.inl (mk (k + 1) g))∧I (k + 1) g)∨∃ b,f (mk k c) = some (.inr b)∧Q b)
    (done : ∀ c,I n c→∃ b,f (mk n c) = some (.inr b)∧Q b) {k0 : Nat} {c0 : σ} (h : k0≤n) (l : I k0 c0) : ∃ b,loop f (mk k0 c0) = some b∧Q b:=by
  have key : ∀ m k c,n - k = m→k≤n→I k c→∃ b,loop f (mk k c) = some b∧Q b:=by
    intro m
    induction m with
    | zero=>
      intro k c j h hi
      obtain rfl : k = n:=by omega
      obtain ⟨b,d,a⟩:=done c hi
      exact ⟨b,K7 d,a⟩
    | succ m ih=>
      intro k c j h hi
      rcases step k c q0 hi with ⟨g,d,a⟩ | ⟨b,d,a⟩
      · rw [Kr d];exact ih (k + 1) g q0 q0 a
      · exact ⟨b,K7 d,a⟩
  exact key _ k0 c0 rfl h l
def I64 (x : Int) : Prop:=-9223372036854775808≤x∧x≤9223372036854775807
end Go.Sh
namespace Go.Am
open Go
theorem q13r {k : IntKind} {d : DV} (h : Ty (.int k) d) : ∃ n : Int,d = .int k n∧(Lit.int k n).wf = true:=by
  cases h with | int hw=>exact ⟨_,rfl,hw⟩
def q1v (l : List CT) (x : List DV) : Prop:=x.length = l.length∧∀ (j : Nat) (c : CT) (d : DV),l[j]? = some c→x[j]? = some d→Ty c d
theorem q13o {x : List DV} (h : q1v [] x) : x = []:=List.length_eq_zero_iff.1 h.1
theorem q13n {c : CT} {l : List CT} {x : List DV} (h : q1v (c::l) x) : ∃ d r,x = d::r∧Ty c d∧q1v l r:=by
  obtain ⟨b,a⟩:=h
  cases x with
  | nil=>simp at b
  | cons d r=>exact ⟨d,r,rfl,a 0 c d rfl rfl,by simpa using b,fun j f k g hd=>a (j + 1) f k (by simpa using g) (by simpa using hd)⟩
theorem q13s {α : Type} {l : List CT} {enc : α→List DV} {wf : α→Prop} (row : ∀ x,q1v l x→∃ a,x = enc a∧wf a) {d : DV} (h : Ty (.sl l) d) : ∃ xs : List α,DLe d (.sl l.length (xs.map enc))∧(∀ x∈xs,wf x)∧xs.length≤maxLen:=by
  cases h with
  | nil=>exact ⟨[],.nil _,qe,qe⟩
  | @sl _ xs hl h1 h2=>
    have key : ∀ ys : List (List DV),(∀ y∈ys,q1v l y)→∃ zs : List α,ys = zs.map enc∧∀ z∈zs,wf z:=by
      intro ys
      induction ys with
      | nil=>intro _;exact ⟨[],rfl,qe⟩
      | cons y ys ih=>
        intro f
        obtain ⟨a,rfl,k⟩:=row y (f y qe)
        obtain ⟨zs,rfl,b⟩:=ih fun z b=>f z (by simp [b])
        exact ⟨a::zs,rfl,by simpa using ⟨k,b⟩⟩
    obtain ⟨zs,rfl,b⟩:=key xs fun y f=>by
      obtain ⟨i,hi⟩:=List.getElem?_of_mem f
      exact ⟨h1 i y hi,fun j c d g hd=>h2 i y j c d hi g hd⟩
    exact ⟨zs,.refl _,b,by simpa using hl⟩
theorem qqn {α : Type} {es : Nat} {enc : α→List DV} {xs : List (List DV)} {zs : List α} (g : xs.length = zs.length) (h : ∀ (i : Nat) (x : List DV) (z : α),xs[i]? = some x→zs[i]? = some z→DLeL x (enc z)) : DLe (.sl es xs) (.sl es (zs.map enc)):=by
  have key : ∀ (i : Nat) (x y : List DV),xs[i]? = some x→(zs.map enc)[i]? = some y→DLeL x y:=fun i x y b a=>by
    rw [List.getElem?_map,Option.map_eq_some_iff] at a
    obtain ⟨z,k,rfl⟩:=a
    exact h i x z b k
  exact .sl (by simpa using g) (fun i x y b a=>(key i x y b a).len) fun i x y j c d b a f hd=>(key i x y b a).get j c d f hd
theorem q13t {α : Type} {l : List CT} {enc : α→List DV} {wf : α→Prop} (row : ∀ x,q1v l x→∃ a,DLeL x (enc a)∧wf a) {d : DV} (h : Ty (.sl l) d) : ∃ xs : List α,DLe d (.sl l.length (xs.map enc))∧(∀ x∈xs,wf x)∧xs.length≤maxLen:=by
  cases h with
  | nil=>exact ⟨[],.nil _,qe,qe⟩
  | @sl _ xs hl h1 h2=>
    have key : ∀ ys : List (List DV),(∀ y∈ys,q1v l y)→∃ zs : List α,ys.length = zs.length∧(∀ (i : Nat) (x : List DV) (z : α),ys[i]? = some x→zs[i]? = some z→DLeL x (enc z))∧∀ z∈zs,wf z:=by
      intro ys
      induction ys with
      | nil=>intro _;exact ⟨[],rfl,qe,qe⟩
      | cons y ys ih=>
        intro m
        obtain ⟨a,q,p⟩:=row y (m y qe)
        obtain ⟨zs,b,k,g⟩:=ih fun z k=>m z (by simp [k])
        refine ⟨a::zs,by simp [b],fun i x z n f=>?_,by simpa using ⟨p,g⟩⟩
        cases i with
        | zero=>simp only [List.getElem?_cons_zero,Option.some.injEq] at n f;subst n f;exact q
        | succ i=>exact k i x z (by simpa using n) (by simpa using f)
    obtain ⟨zs,b,k,g⟩:=key xs fun y m=>by
      obtain ⟨i,hi⟩:=List.getElem?_of_mem m
      exact ⟨h1 i y hi,fun j c d o hd=>h2 i y j c d hi o hd⟩
    exact ⟨zs,qqn b k,g,q0⟩
theorem q13u {n : Int} (h : (Lit.int .i64 n).wf = true) : -9223372036854775808≤n∧n≤9223372036854775807:=by
  simp [Lit.wf,IntKind.min,IntKind.max,IntKind.signed,IntKind.bits] at h
  omega
theorem q13j {xs : List DV} (h : Ja [] xs) : xs = []:=by cases h;rfl
theorem q13k {c : CT} {a : List (Bool × List CT)} {xs : List DV} (h : Ja ((false,[c])::a) xs) : ∃ d r,xs = d::r∧Ty c d∧Ja a r:=by
  cases h with | one h1 h2=>exact ⟨_,_,rfl,h1,h2⟩
theorem q13i {l : List CT} {a : List (Bool × List CT)} {xs : List DV} (h : Ja ((true,l)::a) xs) : ∃ x r,xs = .agg x::r∧q1v l x∧Ja a r:=by
  cases h with | agg h1 h2 h3=>exact ⟨_,_,rfl,⟨h1,h2⟩,h3⟩
end Go.Am
namespace Go.Am
open Go
theorem RunK.toEv {P : Program} {T : Tab} {base : Nat} {c : Code} {st : AS} {K : Ex→AS→Prop} (h : RunK P T base [c] st K) : ∃ ex st',Kq P T base c st ex st'∧K ex st':=q4t h
section
variable {P : Program} {T : Tab} {base : Nat} {ops : Array Oper} {l : List Oper} {sl : List (Nat × V)} {hp : List (Nat × Blk)} {nx : Nat} {K : AS→Prop} {ty : TypeId} {pos : String} {af : Array Edge} {dst : Option Tmp} {g : Option (Nat × Bool)}
theorem q3g {β : Type} {c : Call} {f : FuncId} {fn : Func} {d : Code} (j : List V) (E : β→Prop) (S : β→AS) (p : Qo ops ⟨sl,hp,nx⟩ ⟨dst,.call c,ty,pos,af,g⟩ = some true) (n : callee ⟨sl,hp,nx⟩ c = some (f,j))
    (u : P.funcs[f]? = some fn) (hb : fn.body = some d) (a : (fn.name == "runtime.NumGoroutine") = false) (k : codeOk fn.ntmps d = true) (s : Nat.ble j.length fn.ntmps = true)
    (h : RunK P T nx [d] ⟨Kv 0 j,hp,nx⟩ (fun ex st'=>(ex = .nor∨ex = .ret)∧∃ v,resV T st' fn.results.toList = some v∧∃ b,E b∧WkE base ((⟨sl,st'.hp,st'.nx⟩ : AS).putD dst v) (S b)))
    (o : ∀ b,E b→OpsK P T base ops none l (S b) K) : OpsK P T base ops none (⟨dst,.call c,ty,pos,af,g⟩::l) ⟨sl,hp,nx⟩ K:=by
  obtain ⟨ex,st',e,t,v,x,b,m,q⟩:=h.toEv
  obtain ⟨st2,y,r⟩:=o b m
  obtain ⟨ρ,fz,ph,w⟩:=q
  exact ⟨st2,.callS p rfl n (.mk u hb a k (by simpa using s) e t x) (.wk w y),r⟩
theorem q5g {β : Type} {c : Call} {gf : Operand} {n : Nat} {r : List V} {s : List (Nat × V)} {f : List Tmp} {assign body A B : Code} (E : β→Prop) (S : β→AS) (hA : assign = A) (hB : body = B) (hg : Qo ops ⟨sl,hp,nx⟩ ⟨dst,.call c,ty,pos,af,g⟩ = some true)
    (m : c.callee = .value gf) (y : AS.ev ⟨sl,hp,nx⟩ gf = some (.yld n)) (t : evL (AS.ev ⟨sl,hp,nx⟩) c.args.toList = some r) (hb : find hp n = some (.loop s f A B .ready none)) (hl : f.length = r.length)
    (h : RunK P T nx [assign] ⟨q1i s f r,hp,nx⟩ (fun ex st1=>ex = .nor∧∃ q,find st1.hp n = some (.loop q f A B .ready none)∧
      RunK P T nx [body] (st1.setBlk n (.loop q f A B .busy none)) (fun ex st2=>∃ o,find st2.hp n = some (.loop o f A B .busy none)∧match ex with
        | .nor=>∃ b,E b∧WkE base ((⟨sl,repl st2.hp n (.loop o f A B .ready none),st2.nx⟩ : AS).putD dst (.d (.bool true))) (S b)
        | ex=>OpsK P T base ops none l ((⟨sl,repl st2.hp n (.loop o f A B .done ex.code),st2.nx⟩ : AS).putD dst (.d (.bool false))) K)))
    (hr : ∀ b,E b→OpsK P T base ops none l (S b) K) : OpsK P T base ops none (⟨dst,.call c,ty,pos,af,g⟩::l) ⟨sl,hp,nx⟩ K:=by
  subst hA hB
  obtain ⟨ac,st1,e1,rfl,q,u,p⟩:=h.toEv
  obtain ⟨ex,st2,e2,o,x,v⟩:=p.toEv
  have key : ∀ a,Ke P T base ops none l ((⟨sl,repl st2.hp n (.loop o f assign body (if ex = .nor then .ready else .done) ex.code),st2.nx⟩ : AS).putD dst (.d (.bool (decide (ex = .nor))))) a→Ke P T base ops none (⟨dst,.call c,ty,pos,af,g⟩::l) ⟨sl,hp,nx⟩ a:=
    fun a h3=>.callY hg rfl m y t hb hl e1 u e2 x h3
  cases ex with
  | nor=>
    obtain ⟨b,z,ρ,fz,ph,w⟩:=v
    obtain ⟨a,k,j⟩:=hr b z
    exact ⟨a,key a (.wk w k),j⟩
  | exit i=>
    obtain ⟨a,k,j⟩:=v
    exact ⟨a,key a k,j⟩
  | ret=>
    obtain ⟨a,k,j⟩:=v
    exact ⟨a,key a k,j⟩
end
section
variable {P : Program} {T : Tab} {base : Nat} {cs : List Code} {sl : List (Nat × V)} {hp : List (Nat × Blk)} {nx : Nat} {K : Ex→AS→Prop}
def qdl (P : Program) (T : Tab) (base : Nat) (cs : List Code) (K : Ex→AS→Prop) : Ex→AS→Prop:=qay (fun st'=>RunK P T base cs st' K) K
theorem q6a {m : Operand} {j : Array Tmp} {assign body : Code} {f : FuncId} {fn : Func} {k : Code} (a : List V)
    (n : AS.ev ⟨sl,hp,nx⟩ m = some (.fn f a)∨∃ ds,AS.ev ⟨sl,hp,nx⟩ m = some (.d (.fn f ds))∧a = ds.map .d)
    (r : P.funcs[f]? = some fn) (hb : fn.body = some k) (g : (fn.name == "runtime.NumGoroutine") = false) (l : codeOk fn.ntmps k = true) (o : Nat.ble (a.length + 1) fn.ntmps = true)
    (h : ∀ A B,assign = A→body = B→RunK P T (nx + 1) [k] ⟨Kv 0 (.yld nx::a),(nx,.loop sl j.toList A B .ready none)::hp,nx + 1⟩ (fun c b=>(c = .nor∨c = .ret)∧∃ v,resV T b fn.results.toList = some v∧
      ∃ (s : List (Nat × V)) (ls : LoopState) (ex : Ex),find b.hp nx = some (.loop s j.toList A B ls ex.code)∧ls≠.busy∧qdl P T base cs K ex ⟨sl,repl b.hp nx .dead,b.nx⟩)) :
    RunK P T base (.rangeFunc m j assign body::cs) ⟨sl,hp,nx⟩ K:=by
  obtain ⟨c,b,e,p,v,u,s,ls,ex,w,q,t⟩:=(h assign body rfl rfl).toEv
  exact ⟨ex,_,.rangeF (pe:=ex.code) n (.mk r hb g l (by simpa using o) e p u) w q rfl,t⟩
theorem q4p {st : AS} (h : RunK P T base cs st K) : qdl P T base cs K .nor st:=h
theorem qb9 {st : AS} (h : K .ret st) : qdl P T base cs K .ret st:=h
end
inductive WvS (st : AS) (ρ : Nat→Nat) (fz ph : List Nat) (nx : Nat) : List (Nat × V)→List (Nat × V)→Prop
  | nil {s : List (Nat × V)} : WvS st ρ fz ph nx s []
  | cons {s s' : List (Nat × V)} {t : Nat} {v v' : V} : find s t = some v→Wv st ρ fz ph nx v v'→WvS st ρ fz ph nx s s'→WvS st ρ fz ph nx s ((t,v')::s')
theorem q138 {st : AS} {ρ : Nat→Nat} {fz ph : List Nat} {nx : Nat} {s b : List (Nat × V)} {d : List Tmp} {as c : Code} {f : LoopState} {pe : Option Code} (h : WvS st ρ fz ph nx s b) : Wb st ρ fz ph nx (.loop s d as c f pe) (.loop b d as c f pe):=by
  refine .loop fun t g a=>?_
  induction h with
  | nil=>simp [find] at a
  | @cons b t' v v'' h1 h2 _ ih=>
    simp only [find] at a
    cases hb : Nat.beq t' t with
    | true=>rw [hb] at a;cases a;obtain rfl:=Nat.eq_of_beq_eq_true hb;exact ⟨v,h1,h2⟩
    | false=>rw [hb] at a;exact ih a
theorem qnk {α : Type} {enc : α→List DV} {es : Nat} (a : ∀ x,(enc x).length = es) {xs : List α} {k : Nat} {v : α} (h : xs[k]? = some v) : sub (xs.flatMap enc) (k * es) es = some (enc v):=by
  induction xs generalizing k with
  | nil=>simp at h
  | cons x xs ih=>
    cases k with
    | zero=>
      simp at h;subst h
      have:=a x
      simp [sub,List.flatMap_cons,this]
    | succ k=>
      have d : xs[k]? = some v:=by simpa using h
      have:=ih d
      unfold sub at this ⊢
      have b:=a x
      have c : (k + 1) * es = (enc x).length + k * es:=by rw [Nat.succ_mul,b];omega
      rw [List.flatMap_cons,c]
      split at this
      · rename_i f
        rw [if_pos (by rw [List.length_append];omega),← List.drop_drop,List.drop_left]
        exact this
      · cases this
theorem q11s {α : Type} {enc : α→List DV} {es : Nat} (a : ∀ x,(enc x).length = es) {xs : List α} {k : Nat} {v : α} (h : k < xs.length) : splice (xs.flatMap enc) (k * es) (enc v) = (xs.set k v).flatMap enc:=by
  induction xs generalizing k with
  | nil=>simp at h
  | cons x xs ih=>
    have b:=a x
    have c:=a v
    cases k with
    | zero=>
      simp only [splice,Nat.zero_mul,List.take_zero,List.nil_append,Nat.zero_add,List.flatMap_cons,List.set_cons_zero]
      rw [c,← b,List.drop_left]
    | succ k=>
      have:=ih (k:=k) (by simpa using h)
      simp only [splice] at this ⊢
      have d : (k + 1) * es = (enc x).length + k * es:=by rw [Nat.succ_mul,b];omega
      rw [List.flatMap_cons,List.set_cons_succ,List.flatMap_cons,d,← this]
      rw [List.take_length_add_append,show (enc x).length + k * es + (enc v).length = (enc x).length + (k * es + (enc v).length) by omega,← List.drop_drop,List.drop_left]
      simp [List.append_assoc]
theorem qr9 {α : Type} {enc : α→List DV} {es : Nat} (a : ∀ x,(enc x).length = es) (xs : List α) : (xs.flatMap enc).length = xs.length * es:=by
  induction xs with
  | nil=>simp
  | cons x xs ih=>rw [List.flatMap_cons,List.length_append,a,ih,List.length_cons,Nat.succ_mul];omega
def idxA {α : Type} (n : Nat) (xs : List α) (i : Int) : Option α:=if 0≤i∧i < n then xs[i.toNat]? else none
def andI (k : IntKind) (x y : Int) : Int:=k.wrap (BitVec.ofInt k.bits x &&& BitVec.ofInt k.bits y).toNat
def xorI (k : IntKind) (x y : Int) : Int:=k.wrap (BitVec.ofInt k.bits x ^^^ BitVec.ofInt k.bits y).toNat
section
variable {P : Program} {T : Tab} {base : Nat} {ops : Array Oper} {dr : Dr} {l : List Oper} {sl : List (Nat × V)} {hp : List (Nat × Blk)} {nx : Nat} {K : AS→Prop} {ty : TypeId} {pos : String} {af : Array Edge} {t : Tmp} {g : Option (Nat × Bool)}
theorem q122 {α β : Type} (f : α→β) (cs : List α) (j n : Nat) : sub (cs.map f) j n = (sub cs j n).map (·.map f):=by
  unfold sub
  simp only [List.length_map]
  split
  · simp [List.map_take,List.map_drop]
  · rfl
theorem qbt {α : Type} {n : Nat} {xs : List α} {i : Int} {v : α} (h : idxA n xs i = some v) : 0≤i∧i < n∧xs[i.toNat]? = some v:=by
  unfold idxA at h
  split at h
  · rename_i a;exact ⟨a.1,a.2,h⟩
  · cases h
theorem qtf {α : Type} {x y : Operand} {a : TypeId} {i : TI} {k : IntKind} {n : Int} {enc : α→List DV} {v : α} (xs : List α) (w : V) (r : idxA i.len xs n = some v) (b : ∀ x,(enc x).length = i.esize) (j : Qo ops ⟨sl,hp,nx⟩ ⟨some t,.index a x y,ty,pos,af,g⟩ = some true) (c : T a = some i)
    (p : AS.ev ⟨sl,hp,nx⟩ x = some (.d (.agg (xs.flatMap enc)))) (f : AS.ev ⟨sl,hp,nx⟩ y = some (.d (.int k n))) (s : i.kind = .array) (m : pack i.eagg ((enc v).map .d) = some w)
    (h : OpsK P T base ops dr l ⟨(t,w)::sl,hp,nx⟩ K) : OpsK P T base ops dr (⟨some t,.index a x y,ty,pos,af,g⟩::l) ⟨sl,hp,nx⟩ K:=by
  obtain ⟨o,u,q⟩:=qbt r
  refine Y3 j (v:=w) (st1:=⟨sl,hp,nx⟩) ?_ h (J3 rfl)
  simp only [opFn,c,p,f,s,agD]
  rw [if_pos ⟨o,u⟩,q122,qnk b q]
  simp only [Option.map_some,m]
theorem qc3 {α : Type} {x y : Operand} {a : TypeId} {i : TI} {k : IntKind} {n : Int} {m es : Nat} {v : α} {xs : List α} (p : idxA i.len xs n = some v) (f : Qo ops ⟨sl,hp,nx⟩ ⟨some t,.indexAddr a x y,ty,pos,af,g⟩ = some true) (b : T a = some i)
    (o : AS.ev ⟨sl,hp,nx⟩ x = some (.ref m es 0 0)) (c : AS.ev ⟨sl,hp,nx⟩ y = some (.d (.int k n))) (q : i.kind = .array)
    (h : OpsK P T base ops dr l ⟨(t,.ref m es 0 (n.toNat * i.esize))::sl,hp,nx⟩ K) : OpsK P T base ops dr (⟨some t,.indexAddr a x y,ty,pos,af,g⟩::l) ⟨sl,hp,nx⟩ K:=by
  obtain ⟨j,r,_⟩:=qbt p
  exact Y3 f (v:=.ref m es 0 (n.toNat * i.esize)) (st1:=⟨sl,hp,nx⟩) (by simp [opFn,o,c,b,q3d,q,j,r]) h (J3 rfl)
theorem qfp {α : Type} {p : Operand} {a : TypeId} {i : TI} {m es sz ln : Nat} {n : Int} {xs : List α} {enc : α→List DV} {v : α} (w : V) (q : idxA ln xs n = some v) (b : ∀ x,(enc x).length = sz) (j : Qo ops ⟨sl,hp,nx⟩ ⟨some t,.load a p,ty,pos,af,g⟩ = some true) (c : T a = some i)
    (o : AS.ev ⟨sl,hp,nx⟩ p = some (.ref m es 0 (n.toNat * sz))) (hb : find hp m = some (.dat es [xs.flatMap enc])) (hs : sz = i.size) (k : (q1f i.agg (enc v)).map .d = some w)
    (h : OpsK P T base ops dr l ⟨(t,w)::sl,hp,nx⟩ K) (f : okF dr l.length (fp ⟨sl,hp,nx⟩ (.load a p)) = true:=by rfl) : OpsK P T base ops dr (⟨some t,.load a p,ty,pos,af,g⟩::l) ⟨sl,hp,nx⟩ K:=
  ql0 j c o hb rfl (by rw [← hs];exact qnk b (qbt q).2.2) k h f
theorem qtq {α : Type} {p x : Operand} {k : TypeId} {i : TI} {m es sz ln : Nat} {n : Int} {xs : List α} {enc : α→List DV} {v : α} (b : α) {u : V} (y : idxA ln xs n = some v) (a : ∀ x,(enc x).length = sz) (t : Qo ops ⟨sl,hp,nx⟩ ⟨none,.store k p x,ty,pos,af,g⟩ = some true) (r : T k = some i)
    (hp' : AS.ev ⟨sl,hp,nx⟩ p = some (.ref m es 0 (n.toNat * sz))) (w : AS.ev ⟨sl,hp,nx⟩ x = some u) (hb : find hp m = some (.dat es [xs.flatMap enc])) (hs : sz = i.size) (o : cellsOf u = (enc b).map .d) (z : (enc b).all Y6 = true)
    (h : OpsK P T base ops dr l ⟨sl,repl hp m (.dat es [(xs.set n.toNat b).flatMap enc]),nx⟩ K) (s : okO dr l.length ⟨sl,hp,nx⟩ (.store k p x) ⟨sl,repl hp m (.dat es [(xs.set n.toNat b).flatMap enc]),nx⟩ = true:=by rfl) : OpsK P T base ops dr (⟨none,.store k p x,ty,pos,af,g⟩::l) ⟨sl,hp,nx⟩ K:=by
  have c:=K3 (qbt y).2.2
  refine Y3 t (v:=.dead) (st1:=⟨sl,repl hp m (.dat es [(xs.set n.toNat b).flatMap enc]),nx⟩) ?_ h s
  have j : (cellsOf u).all Kc = true:=by rw [o,List.all_map];exact z
  have f : (cellsOf u).length = i.size:=by rw [o,List.length_map,a];exact hs
  have q : n.toNat * sz + i.size≤(xs.flatMap enc).length:=by
    rw [qr9 a,← hs,← Nat.succ_mul];exact Nat.mul_le_mul_right _ c
  simp only [opFn,r,hp',w,J8,AS.blk,hb,Nat.beq_refl]
  rw [if_neg (by simp [j,f])]
  simp only [List.getElem?_cons_zero]
  rw [if_pos q,o,qdm]
  simp only [q11s a c,AS.setBlk,List.set_cons_zero]
  rfl
theorem qdf {α : Type} {st : AS} {ρ : Nat→Nat} {fz ph : List Nat} {nx n es : Nat} {w : Nat × Nat} {ys : List α} {enc : α→List DV} (a : w.1 + w.2≤ys.length) (hb : st.blk n = some (.dat es (ys.map enc))) (b : n∈fz) : Wv st ρ fz ph nx (.hs n es w.1 w.2) (.d (.sl es (((ys.drop w.1).take w.2).map enc))):=
  .frz hb b (by simpa using a) (by rw [List.map_take,List.map_drop]) rfl
theorem qon {hp : List (Nat × Blk)} {a : List V} {ds C : List DV} (h : Kg hp a = some ds) : Kg hp (a ++ C.map .d) = some (ds ++ C):=by
  induction a generalizing ds with
  | nil=>
    simp [Kg] at h;subst h
    induction C with
    | nil=>rfl
    | cons c C ih=>
      simp only [List.nil_append,List.map_cons] at ih ⊢
      simp only [Kg]
      rw [show toD hp 8 (.d c) = some c from rfl,ih]
  | cons v a ih=>
    simp only [Kg] at h
    split at h <;> simp at h
    rename_i x l f b
    subst h
    simp only [List.cons_append,Kg,f,ih b]
theorem qra {a : List V} {C : List DV} : fpC (a ++ C.map .d) = fpC a:=by
  unfold fpC
  have : (C.map V.d).all V.isD = true:=by rw [List.all_map];simp [V.isD]
  rw [List.all_append,this,Bool.and_true]
theorem Y7 {c : Call} {f : FuncId} {C ds : List DV} {r : DV} (a : List V) (b : Pure P T f (ds ++ C) r) (m : Qo ops ⟨sl,hp,nx⟩ ⟨some t,.call c,ty,pos,af,g⟩ = some true) (j : callee ⟨sl,hp,nx⟩ c = some (f,a ++ C.map .d)) (hd : Kg hp a = some ds)
    (hs : (a.all V.isD = true∨r.scalar = true)) (h : OpsK P T base ops dr l ⟨(t,.d r)::sl,hp,nx⟩ K) (k : okF dr l.length (fpC a) = true:=by rfl) : OpsK P T base ops dr (⟨some t,.call c,ty,pos,af,g⟩::l) ⟨sl,hp,nx⟩ K:=by
  refine qkz m rfl j (qon hd) ?_ b h (by rw [qra];exact k)
  rcases hs with hs | hs
  · left
    rw [List.all_append,hs,Bool.true_and,List.all_map]
    simp [V.isD]
  · exact .inr hs
end
end Go.Am
namespace Go.Am
open Go
theorem Y9 {base : Nat} {st st' : AS} (l : List (Nat × Nat)) (fz ph : List Nat) (g : wkOk base l fz ph st'.hp st'.nx = true) (hs : WkL st (rho l) fz ph st'.nx st'.sl) (u : WkH st (rho l) fz ph st'.nx st'.hp) : Wk base (rho l) fz ph st st':=by
  simp only [wkOk,Bool.and_eq_true,Nat.ble_eq,List.all_eq_true] at g
  obtain ⟨⟨⟨⟨v,r⟩,s⟩,q⟩,o⟩:=g
  refine ⟨?_,?_,?_,?_,?_,v,?_,?_⟩
  · exact fun t x h=>hs.get (Zp h)
  · exact fun n y h=>u.get (Zp h)
  · intro n m b c a j d k w
    have:=o _ (Zp a)
    simp only [Bool.or_eq_true,Bool.and_eq_true,q5b,List.all_eq_true,Bool.not_eq_true'] at this
    rcases this with h | h
    · exact absurd h d
    · have:=h.2 _ (Zp j)
      rcases this with (f | f) | f
      · exact absurd f k
      · rw [w] at f;simp at f
      · exact Nat.eq_of_beq_eq_true f
  · intro n b a d p
    have:=o _ (Zp a)
    simp only [Bool.or_eq_true,Bool.and_eq_true,q5b,Bool.not_eq_true'] at this
    rcases this with h | h
    · exact absurd h d
    · rw [q5b.2 p] at h;exact absurd h.1 qe
  · intro n a
    unfold rho
    split
    · rename_i m j
      have:=r _ (Zp j)
      simp at this;omega
    · rfl
  · exact fun n a=>s n a
  · exact fun n a=>q n a
def q85 (l l3 : List (Nat × Nat)) (k k' nx nxN : Nat) : Bool:=
  (List.range k).all (fun i=>Nat.blt (rho l i) nx && Nat.beq (rho l3 (rho l i)) i) && (List.range nx).all (fun m=>(Nat.blt (rho l3 m) k && Nat.beq (rho l (rho l3 m)) m) || Nat.ble k' (rho l3 m)) && Nat.ble nx nxN
def OldL (l : List (Nat × Nat)) (k : Nat) (hp hpR : List (Nat × Blk)) : List (Nat × Blk)→Prop
  | []=>True
  | (m,b)::r=>(find hpR m = some b∨(find hp m = some b∧(List.range k).all (fun i=>!(Nat.beq (rho l i) m)) = true))∧OldL l k hp hpR r
theorem OldL.get {l : List (Nat × Nat)} {k : Nat} {hp a : List (Nat × Blk)} : ∀ {r : List (Nat × Blk)},OldL l k hp a r→∀ m b,(m,b)∈r→find a m = some b∨(find hp m = some b∧∀ i,i < k→rho l i≠m)
  | [],_,m,b,h=>by cases h
  | (m',b')::r,h,m,b,c=>by
    rcases List.mem_cons.1 c with e | c
    · cases e
      refine h.1.imp (fun x=>x) fun ⟨d,h2⟩=>⟨d,fun i hi e=>?_⟩
      have:=List.all_eq_true.1 h2 i (List.mem_range.2 hi)
      rw [e] at this;simp at this
    · exact OldL.get h.2 m b c
section
variable {P : Program} {T : Tab} {base : Nat} {ops : Array Oper} {l : List Oper} {sl : List (Nat × V)} {hp : List (Nat × Blk)} {nx : Nat} {K : AS→Prop} {ty : TypeId} {pos : String} {af : Array Edge} {dst : Option Tmp} {g : Option (Nat × Bool)}
theorem Jq {c : Call} {f : FuncId} {d : List V} {hp0 o : List (Nat × Blk)} {k w : Nat} {vR : V} (u y : List (Nat × Nat)) (t : List V) (x : V) (a q : List (Nat × Blk)) (j : Nat) (he : K0 P T f d hp0 k vR o w) (hg : Qo ops ⟨sl,hp,nx⟩ ⟨dst,.call c,ty,pos,af,g⟩ = some true) (z : callee ⟨sl,hp,nx⟩ c = some (f,t)) (p : t.length = d.length)
    (s : Wk 0 (rho u) [] [] ⟨Kv 0 t,hp,nx⟩ ⟨Kv 0 d,hp0,k⟩) (v : Wk 0 (rho y) [] [] ⟨[(0,vR)],o,w⟩ ⟨[(0,x)],a,j⟩) (hb : q85 u y k w nx j = true) (hold : OldL u k hp a q)
    (h : OpsK P T base ops none l ((⟨sl,q,j⟩ : AS).putD dst x) K) : OpsK P T base ops none (⟨dst,.call c,ty,pos,af,g⟩::l) ⟨sl,hp,nx⟩ K:=by
  obtain ⟨st2,e2,k2⟩:=h
  refine ⟨st2,.callF hg rfl z p s he v ⟨?_,?_,?_,?_,?_⟩ e2,k2⟩
  · intro i hi
    simp only [q85,Bool.and_eq_true,List.all_eq_true,List.mem_range] at hb
    have:=hb.1.1 i hi
    exact ⟨by simpa [Nat.blt_eq] using this.1,Nat.eq_of_beq_eq_true this.2⟩
  · intro m r
    simp only [q85,Bool.and_eq_true,List.all_eq_true,List.mem_range,Bool.or_eq_true] at hb
    rcases hb.1.2 m r with n | n
    · exact .inl ⟨by simpa [Nat.blt_eq] using n.1,Nat.eq_of_beq_eq_true n.2⟩
    · exact .inr (by simpa using n)
  · intro m r;cases r
  · exact fun m b n=>hold.get m b (Zp n)
  · simp only [q85,Bool.and_eq_true] at hb
    simpa using hb.2
end
theorem Kh {P : Program} {T : Tab} {f : FuncId} {fn : Func} {c : Code} {d : List V} {hp b : List (Nat × Blk)} {nx j : Nat} {vR : V} (m : P.funcs[f]? = some fn) (hb : fn.body = some c) (a : (fn.name == "runtime.NumGoroutine") = false) (g : codeOk fn.ntmps c = true) (k : Nat.ble d.length fn.ntmps = true)
    (h : RunK P T nx [c] ⟨Kv 0 d,hp,nx⟩ (fun ex st=>(ex = .nor∨ex = .ret)∧∃ v,resV T st fn.results.toList = some v∧WkE nx ⟨[(0,v)],st.hp,st.nx⟩ ⟨[(0,vR)],b,j⟩)) : K0 P T f d hp nx vR b j:=by
  obtain ⟨ex,st',e,l,v,n,ρ,fz,ph,w⟩:=q4t h
  exact .wk (.mk m hb a g (by simpa using k) e l n) w
def shlK (k : IntKind) (x y : Int) : Option Int:=if y < 0 then none else some (k.wrap (x * 2 ^ (min y.toNat k.bits)))
section
variable {P : Program} {T : Tab} {base : Nat} {ops : Array Oper} {dr : Dr} {l : List Oper} {sl : List (Nat × V)} {hp : List (Nat × Blk)} {nx : Nat} {K : AS→Prop} {ty : TypeId} {pos : String} {af : Array Edge} {t : Tmp} {g : Option (Nat × Bool)}
theorem qto {x y : Operand} {j f : TypeId} {a b r : Int} {k o : IntKind} (c : shlK k a b = some r) (p : Qo ops ⟨sl,hp,nx⟩ ⟨some t,.binOp .shl j x y f,ty,pos,af,g⟩ = some true) (m : AS.ev ⟨sl,hp,nx⟩ x = some (.d (.int k a))) (n : AS.ev ⟨sl,hp,nx⟩ y = some (.d (.int o b)))
    (h : OpsK P T base ops dr l ⟨(t,.d (.int k r))::sl,hp,nx⟩ K) : OpsK P T base ops dr (⟨some t,.binOp .shl j x y f,ty,pos,af,g⟩::l) ⟨sl,hp,nx⟩ K:=by
  unfold shlK at c
  split at c
  · cases c
  · rename_i q;cases c
    exact Y3 p (v:=.d (.int k (k.wrap (a * 2 ^ (min b.toNat k.bits))))) (st1:=⟨sl,hp,nx⟩) (by simp [opFn,m,n,binD,q9b,q]) h (J3 rfl)
end
def Qu (n m : Nat) : Option Unit:=if n = m then some () else none
theorem Kd {n m : Nat} {u : Unit} (h : Qu n m = some u) : n = m:=by
  unfold Qu at h
  split at h
  · assumption
  · cases h
def q4e (s : ByteArray) (i : Int) : Option Int:=(if 0≤i then s[i.toNat]? else none).map fun b=>(b.toNat : Int)
theorem qtg {P : Program} {T : Tab} {base : Nat} {ops : Array Oper} {dr : Dr} {l : List Oper} {sl : List (Nat × V)} {hp : List (Nat × Blk)} {nx : Nat} {K : AS→Prop} {ty : TypeId} {pos : String} {af : Array Edge} {t : Tmp} {g : Option (Nat × Bool)} {x y : Operand} {a : TypeId} {i : TI} {k : IntKind} {n v : Int} (s : ByteArray) (c : q4e s n = some v) (m : Qo ops ⟨sl,hp,nx⟩ ⟨some t,.index a x y,ty,pos,af,g⟩ = some true) (f : T a = some i)
    (o : AS.ev ⟨sl,hp,nx⟩ x = some (.d (.str s))) (j : AS.ev ⟨sl,hp,nx⟩ y = some (.d (.int k n))) (p : i.kind = .str)
    (h : OpsK P T base ops dr l ⟨(t,.d (.int .u8 v))::sl,hp,nx⟩ K) : OpsK P T base ops dr (⟨some t,.index a x y,ty,pos,af,g⟩::l) ⟨sl,hp,nx⟩ K:=by
  unfold q4e at c
  rw [Option.map_eq_some_iff] at c
  obtain ⟨b,hb,rfl⟩:=c
  refine Y3 m (v:=.d (.int .u8 b.toNat)) (st1:=⟨sl,hp,nx⟩) ?_ h (J3 rfl)
  simp only [opFn,f,o,j,p,hb,Option.map_some]
open Classical in
noncomputable def lim {α : Type} (f : Nat→Option α) : Option α:=if h : ∃ r n,f n = some r then some h.choose else none
theorem qf6 {α : Type} {f : Nat→Option α} {r : α} (h : lim f = some r) : ∃ n,f n = some r:=by
  unfold lim at h
  split at h
  · rename_i a;cases h;exact a.choose_spec
  · cases h
theorem qse {α : Type} {f : Nat→Option α} {n : Nat} {r : α} (h : f n = some r) : ∃ a,lim f = some a:=by
  unfold lim
  rw [dif_pos ⟨r,n,h⟩]
  exact ⟨_,rfl⟩
theorem Yg {P : Program} {T : Tab} {base : Nat} {c : Code} {cs : List Code} {st : AS} {K : Ex→AS→Prop} (h : RunK P T base (c::.loop c::cs) st K) : RunK P T base (.loop c::cs) st K:=by
  obtain ⟨ex,st1,d,b⟩:=h
  cases ex with
  | nor=>
    obtain ⟨a,st2,f,g⟩:=b
    exact ⟨a,st2,.loopN d f,g⟩
  | exit i=>exact ⟨_,_,.loopX d qe,b⟩
  | ret=>exact ⟨_,_,.loopX d qe,b⟩
def idxW {α : Type} (xs : List α) (w : Nat × Nat) (k : Int) : Option α:=if 0≤k∧k < w.2 then xs[w.1 + k.toNat]? else none
theorem qf0 {α : Type} {xs : List α} {w : Nat × Nat} {k : Int} {v : α} (h : idxW xs w k = some v) : idx xs ((w.1 : Int) + k) = some v:=by
  unfold idxW at h
  split at h
  · rename_i a
    unfold idx
    rw [if_pos q0]
    rw [show ((w.1 : Int) + k).toNat = w.1 + k.toNat by omega];exact h
  · cases h
def Uv (n : Nat) (w : Nat × Nat) : Option Unit:=if w.1 + w.2≤n then some () else none
theorem qdd {n : Nat} {w : Nat × Nat} {u : Unit} (h : Uv n w = some u) : w.1 + w.2≤n:=by
  unfold Uv at h
  split at h
  · assumption
  · cases h
def clrw {α : Type} (xs : List α) (w : Nat × Nat) (z : α) : List α:=splice xs w.1 (List.replicate w.2 z)
theorem qi4 {α : Type} {xs : List α} {w : Nat × Nat} {z : α} (h : w.1 + w.2≤xs.length) : (clrw xs w z).length = xs.length:=by
  unfold clrw splice;simp;omega
section
variable {P : Program} {T : Tab} {base : Nat} {ops : Array Oper} {dr : Dr} {l : List Oper} {sl : List (Nat × V)} {hp : List (Nat × Blk)} {nx : Nat} {K : AS→Prop} {ty : TypeId} {pos : String} {af : Array Edge} {t : Tmp} {g : Option (Nat × Bool)}
theorem qfo {α : Type} {x y : Operand} {a : TypeId} {i : TI} {k : IntKind} {n : Int} {m es : Nat} {xs : List α} {w : Nat × Nat} {v : α} (b : idxW xs w n = some v) (o : Qo ops ⟨sl,hp,nx⟩ ⟨some t,.indexAddr a x y,ty,pos,af,g⟩ = some true) (f : T a = some i)
    (p : AS.ev ⟨sl,hp,nx⟩ x = some (.hs m es w.1 w.2)) (j : AS.ev ⟨sl,hp,nx⟩ y = some (.d (.int k n))) (q : i.kind = .slice) (r : es = i.esize)
    (h : OpsK P T base ops dr l ⟨(t,.ref m es ((w.1 : Int) + n).toNat 0)::sl,hp,nx⟩ K) : OpsK P T base ops dr (⟨some t,.indexAddr a x y,ty,pos,af,g⟩::l) ⟨sl,hp,nx⟩ K:=by
  have c : 0≤n∧n < w.2:=by
    unfold idxW at b
    split at b
    · assumption
    · cases b
  refine qtc o f p j q r c.1 c.2 ?_
  rw [show ((w.1 : Int) + n).toNat = w.1 + n.toNat by omega] at h;exact h
theorem qta {α : Type} {x : Operand} {a : TypeId} {i : TI} {n es : Nat} {xs : List α} {enc : α→List DV} (z : α) {w : Nat × Nat} (j : w.1 + w.2≤xs.length) (f : Qo ops ⟨sl,hp,nx⟩ ⟨none,.call {callee:=.builtin .clear,args:=#[x],argTypes:=#[a]},ty,pos,af,g⟩ = some true) (b : T a = some i)
    (k : AS.ev ⟨sl,hp,nx⟩ x = some (.hs n es w.1 w.2)) (hb : find hp n = some (.dat es (xs.map enc))) (m : i.kind = .slice) (p : i.esize = es) (o : i.ezero = enc z)
    (h : OpsK P T base ops dr l ⟨sl,repl hp n (.dat es ((clrw xs w z).map enc)),nx⟩ K) (c : okO dr l.length ⟨sl,hp,nx⟩ (.call {callee:=.builtin .clear,args:=#[x],argTypes:=#[a]}) ⟨sl,repl hp n (.dat es ((clrw xs w z).map enc)),nx⟩ = true:=by rfl) :
    OpsK P T base ops dr (⟨none,.call {callee:=.builtin .clear,args:=#[x],argTypes:=#[a]},ty,pos,af,g⟩::l) ⟨sl,hp,nx⟩ K:=by
  subst p
  refine Y3 f (v:=.d (.tup [])) (st1:=⟨sl,repl hp n (.dat i.esize ((clrw xs w z).map enc)),nx⟩) ?_ h c
  simp only [opFn,evL,k,Kw]
  simp only [List.getElem?_toArray,List.getElem?_cons_zero,b]
  rw [if_pos ⟨m,by simp [Zo]⟩]
  simp only [Jl,AS.blk,hb]
  rw [if_pos ⟨by simpa using j,trivial⟩,o]
  simp [clrw,splice,AS.setBlk]
end
section
variable {P : Program} {T : Tab} {base : Nat} {ops : Array Oper} {dr : Dr} {l : List Oper} {sl : List (Nat × V)} {hp : List (Nat × Blk)} {nx : Nat} {K : AS→Prop} {ty : TypeId} {pos : String} {af : Array Edge} {t : Tmp} {g : Option (Nat × Bool)}
end
end Go.Am
namespace Go.Am
open Go
theorem J {α : Sort _} {a : α} : a = a:=rfl
abbrev q9 (n : Int) : DV:=.int .i64 n
abbrev q7 (n : Int) : V:=.d (.int .i64 n)
abbrev qu (b : Bool) : V:=.d (.bool b)
section
variable {P : Program} {T : Tab} {base : Nat} {ops : Array Oper} {dr : Dr} {l : List Oper} {sl : List (Nat × V)} {hp : List (Nat × Blk)} {nx : Nat} {K : AS→Prop} {ty : TypeId} {pos : String} {af : Array Edge} {t : Tmp} {g : Option (Nat × Bool)} {v : V}
theorem O {x : Operand} (a : (Qo ops ⟨sl,hp,nx⟩ ⟨some t,.move x,ty,pos,af,g⟩,AS.ev ⟨sl,hp,nx⟩ x) = (some true,some v))
    (h : OpsK P T base ops dr l ⟨(t,v)::sl,hp,nx⟩ K) : OpsK P T base ops dr (⟨some t,.move x,ty,pos,af,g⟩::l) ⟨sl,hp,nx⟩ K:=qfq (Prod.mk.inj a).1 (Prod.mk.inj a).2 h
theorem qb {x : Operand} (a : (Qo ops ⟨sl,hp,nx⟩ ⟨some t,.assign x,ty,pos,af,g⟩,AS.ev ⟨sl,hp,nx⟩ x) = (some true,some v))
    (h : OpsK P T base ops dr l ⟨(t,v)::sl,hp,nx⟩ K) : OpsK P T base ops dr (⟨some t,.assign x,ty,pos,af,g⟩::l) ⟨sl,hp,nx⟩ K:=qt9 (Prod.mk.inj a).1 (Prod.mk.inj a).2 h
theorem G {op : Op} (v : V) (a : (Qo ops ⟨sl,hp,nx⟩ ⟨some t,op,ty,pos,af,g⟩,opFn T ⟨sl,hp,nx⟩ op) = (some true,some (v,⟨sl,hp,nx⟩))) (h : OpsK P T base ops dr l ⟨(t,v)::sl,hp,nx⟩ K)
    (b : okO dr l.length ⟨sl,hp,nx⟩ (op) ⟨sl,hp,nx⟩ = true:=by rfl) : OpsK P T base ops dr (⟨some t,op,ty,pos,af,g⟩::l) ⟨sl,hp,nx⟩ K:=qts v (Prod.mk.inj a).1 (Prod.mk.inj a).2 h b
theorem Qd {op : Op} (n : Nat) (b : Blk) (a : (Qo ops ⟨sl,hp,nx⟩ ⟨none,op,ty,pos,af,g⟩,opFn T ⟨sl,hp,nx⟩ op) = (some true,some (.dead,⟨sl,repl hp n b,nx⟩))) (h : OpsK P T base ops dr l ⟨sl,repl hp n b,nx⟩ K) (c : okO dr l.length ⟨sl,hp,nx⟩ (op) ⟨sl,repl hp n b,nx⟩ = true:=by rfl) : OpsK P T base ops dr (⟨none,op,ty,pos,af,g⟩::l) ⟨sl,hp,nx⟩ K:=
  qtr n b (Prod.mk.inj a).1 (Prod.mk.inj a).2 h c
theorem Qj {op : Op} (v : V) (b : Blk) (a : (Qo ops ⟨sl,hp,nx⟩ ⟨some t,op,ty,pos,af,g⟩,opFn T ⟨sl,hp,nx⟩ op) = (some true,some (v,⟨sl,(nx,b)::hp,nx + 1⟩))) (h : OpsK P T base ops dr l ⟨(t,v)::sl,(nx,b)::hp,nx + 1⟩ K) (c : okO dr l.length ⟨sl,hp,nx⟩ (op) ⟨sl,(nx,b)::hp,nx + 1⟩ = true:=by rfl) : OpsK P T base ops dr (⟨some t,op,ty,pos,af,g⟩::l) ⟨sl,hp,nx⟩ K:=
  qtl v b (Prod.mk.inj a).1 (Prod.mk.inj a).2 h c
theorem q5f {α : Type} {x : Operand} {a : TypeId} {i : TI} {es : Nat} {xs : List α} {enc : α→List DV} (n : Int) (k : (xs.length : Int) = n) (j : Qo ops ⟨sl,hp,nx⟩ ⟨some t,.call {callee:=.builtin .len,args:=#[x],argTypes:=#[a]},ty,pos,af,g⟩ = some true) (b : T a = some i) (f : i.kind = .slice) (c : AS.ev ⟨sl,hp,nx⟩ x = some (.d (.sl es (xs.map enc))))
    (h : OpsK P T base ops dr l ⟨(t,.d (.int .i64 n))::sl,hp,nx⟩ K) : OpsK P T base ops dr (⟨some t,.call {callee:=.builtin .len,args:=#[x],argTypes:=#[a]},ty,pos,af,g⟩::l) ⟨sl,hp,nx⟩ K:=by
  subst k;exact ql1 j b f c h
theorem Q1 {α : Type} {x y : Operand} {a : TypeId} {i : TI} {k : IntKind} {n : Int} {es : Nat} {xs : List α} {enc : α→List DV} {v : α} (o : idx xs n = some v)
    (b : (Qo ops ⟨sl,hp,nx⟩ ⟨some t,.indexAddr a x y,ty,pos,af,g⟩,T a,AS.ev ⟨sl,hp,nx⟩ x,AS.ev ⟨sl,hp,nx⟩ y,i.kind,es) = (some true,some i,some (.d (.sl es (xs.map enc))),some (.d (.int k n)),.slice,i.esize))
    (h : OpsK P T base ops dr l ⟨(t,.dref (enc v) 0)::sl,hp,nx⟩ K) : OpsK P T base ops dr (⟨some t,.indexAddr a x y,ty,pos,af,g⟩::l) ⟨sl,hp,nx⟩ K:=by
  simp only [Prod.mk.injEq] at b
  obtain ⟨p,j,m,f,c,q⟩:=b
  exact qte o p j m f c q h
theorem qv {α : Type} {x y : Operand} {a : TypeId} {i : TI} {k : IntKind} {n : Int} {m es len : Nat} {xs : List α} {v : α} (q : idx xs n = some v) (f : len = xs.length)
    (b : (Qo ops ⟨sl,hp,nx⟩ ⟨some t,.indexAddr a x y,ty,pos,af,g⟩,T a,AS.ev ⟨sl,hp,nx⟩ x,AS.ev ⟨sl,hp,nx⟩ y,i.kind,es) = (some true,some i,some (.hs m es 0 len),some (.d (.int k n)),.slice,i.esize))
    (h : OpsK P T base ops dr l ⟨(t,.ref m es n.toNat 0)::sl,hp,nx⟩ K) : OpsK P T base ops dr (⟨some t,.indexAddr a x y,ty,pos,af,g⟩::l) ⟨sl,hp,nx⟩ K:=by
  simp only [Prod.mk.injEq] at b
  obtain ⟨r,o,p,j,c,s⟩:=b
  exact qtd q f r o p j c s h
theorem Q4 {α : Type} {p : Operand} {a : TypeId} {i : TI} {m es j : Nat} {n : Int} {xs : List α} {enc : α→List DV} {r : List DV} {v : α} (w : V) (s : idx xs n = some v)
    (b : (Qo ops ⟨sl,hp,nx⟩ ⟨some t,.load a p,ty,pos,af,g⟩,T a,AS.ev ⟨sl,hp,nx⟩ p,find hp m,sub (enc v) j i.size,(q1f i.agg r).map V.d) = (some true,some i,some (.ref m es n.toNat j),some (.dat es (xs.map enc)),some r,some w))
    (h : OpsK P T base ops dr l ⟨(t,w)::sl,hp,nx⟩ K) (c : okF dr l.length (fp ⟨sl,hp,nx⟩ (.load a p)) = true:=by rfl) : OpsK P T base ops dr (⟨some t,.load a p,ty,pos,af,g⟩::l) ⟨sl,hp,nx⟩ K:=by
  simp only [Prod.mk.injEq] at b
  obtain ⟨u,o,q,k,f,x⟩:=b
  exact qti w s u o q k f x h c
theorem Qa {α : Type} {x : Operand} {a : TypeId} {i : TI} {es : Nat} {xs : List α} {enc : α→List DV}
    (b : (Qo ops ⟨sl,hp,nx⟩ ⟨some t,.call {callee:=.builtin .len,args:=#[x],argTypes:=#[a]},ty,pos,af,g⟩,T a,i.kind,AS.ev ⟨sl,hp,nx⟩ x) = (some true,some i,.slice,some (.d (.sl es (xs.map enc)))))
    (h : OpsK P T base ops dr l ⟨(t,.d (.int .i64 (xs.length : Int)))::sl,hp,nx⟩ K) : OpsK P T base ops dr (⟨some t,.call {callee:=.builtin .len,args:=#[x],argTypes:=#[a]},ty,pos,af,g⟩::l) ⟨sl,hp,nx⟩ K:=by
  simp only [Prod.mk.injEq] at b
  obtain ⟨k,f,j,c⟩:=b
  exact ql1 k f j c h
theorem qz {c : Call} {f : FuncId} {ds : List DV} {r : DV} {a : List V} (b : Pure P T f ds r) (j : (Qo ops ⟨sl,hp,nx⟩ ⟨some t,.call c,ty,pos,af,g⟩,callee ⟨sl,hp,nx⟩ c,Kg hp a,a.all V.isD) = (some true,some (f,a),some ds,true))
    (h : OpsK P T base ops dr l ⟨(t,.d r)::sl,hp,nx⟩ K) (o : okF dr l.length (fpC a) = true:=by rfl) : OpsK P T base ops dr (⟨some t,.call c,ty,pos,af,g⟩::l) ⟨sl,hp,nx⟩ K:=by
  simp only [Prod.mk.injEq] at j
  obtain ⟨p,m,n,k⟩:=j
  exact q2h a b p m n (.inl k) h o
theorem qy {st : AS} {b : List ResultVar} {r : DV} (v : V) (a : (resV T st b,toD st.hp 8 v) = (some v,some r)) : (Ex.ret = .nor∨Ex.ret = .ret)∧∃ v c,resV T st b = some v∧toD st.hp 8 v = some c∧DLe c r:=by
  simp only [Prod.mk.injEq] at a
  exact ⟨.inr rfl,v,r,a.1,a.2,.refl _⟩
theorem qc {id : Nat} {ops : Array Oper} {b : Code} {cs : List Code} {st : AS} {K : Ex→AS→Prop} (h : OpsK P T base ops none ops.toList st (fun st'=>RunK P T base (b::cs) st' K)) : RunK P T base (.seq (.region id ops false) b::cs) st K:=qf (qt h)
theorem qp {a ops : Array Oper} {id : Nat} {b : Code} {cs : List Code} {st : AS} {K : Ex→AS→Prop} (h : OpsK P T base ops none ops.toList st (fun st'=>RunK P T base (b::cs) st' K)) : OpsK P T base a dr [] st (fun st'=>RunK P T base (.seq (.region id ops false) b::cs) st' K):=qa (qf (qt h))
theorem qo {a : Array Oper} {cs : List Code} {st : AS} {K : Ex→AS→Prop} (h : K .ret st) : OpsK P T base a dr [] st (fun st'=>RunK P T base (.ret::cs) st' K):=qa (Uq h)
theorem qr {a : Array Oper} {st : AS} {K : Ex→AS→Prop} (h : K .nor st) : OpsK P T base a dr [] st (fun st'=>RunK P T base [] st' K):=qa (Q7 h)
theorem K1 {dst : Option Tmp} {c : Call} {f : FuncId} {o : List V} {hp0 m : List (Nat × Blk)} {k s : Nat} {vR : V} (j p : List (Nat × Nat)) (q : List V) (t : V) (n : Nat) (a : List (Nat × Blk)) (b : Nat) (he : K0 P T f o hp0 k vR m s)
    (h : OpsK P T base ops none l ((⟨sl,a,b⟩ : AS).putD dst t) K)
    (v : Qo ops ⟨sl,hp,nx⟩ ⟨dst,.call c,ty,pos,af,g⟩ = some true:=by exact rfl) (u : callee ⟨sl,hp,nx⟩ c = some (f,q):=by exact rfl) (r : q.length = o.length:=by exact rfl)
    (w : wkOk 0 j [] [] hp0 k = true:=by exact rfl)
    (z : WkL ⟨Kv 0 q,hp,nx⟩ (rho j) [] [] k (Kv 0 o):=by
      repeat' first | exact trivial | refine And.intro (Exists.intro _ (And.intro rfl ?_)) ?_ | exact Wv.d (DLe.refl _) | exact Wv.ref rfl qs (ltd rfl) | exact Wv.mp rfl qs (ltd rfl) | exact Wv.hs rfl qs (ltd rfl) | exact Wv.d (DLe.nil _) | refine qde ?_ | refine qgx ?_ | refine q1u ?_ | refine WvL.cons ?_ ?_ | exact WvL.nil | exact Wv.dref _ _ | exact Wv.yld rfl qs (ltd rfl))
    (b1 : WkH ⟨Kv 0 q,hp,nx⟩ (rho j) [] [] k hp0:=by
      repeat' first | exact trivial | refine And.intro (And.intro (ltd rfl) (Or.inr (And.intro qs (Exists.intro _ (And.intro rfl ?_))))) ?_ | exact Wb.dat _ _ | exact Wb.mp _ | refine J9 ?_ | refine qgu ?_ | refine WvC.cons ?_ rfl ?_ | exact WvC.nil | exact Wv.d (DLe.refl _) | exact Wv.ref rfl qs (ltd rfl) | exact Wv.mp rfl qs (ltd rfl) | exact Wv.hs rfl qs (ltd rfl) | exact Wv.d (DLe.nil _))
    (x : wkOk 0 p [] [] (a.take n) b = true:=by exact rfl)
    (y : WkL ⟨[(0,vR)],m,s⟩ (rho p) [] [] b [(0,t)]:=by
      repeat' first | exact trivial | refine And.intro (Exists.intro _ (And.intro rfl ?_)) ?_ | exact Wv.d (DLe.refl _) | exact Wv.ref rfl qs (ltd rfl) | exact Wv.mp rfl qs (ltd rfl) | exact Wv.hs rfl qs (ltd rfl) | exact Wv.d (DLe.nil _) | refine qde ?_ | refine qgx ?_ | refine q1u ?_ | refine WvL.cons ?_ ?_ | exact WvL.nil | exact Wv.dref _ _ | exact Wv.yld rfl qs (ltd rfl))
    (b3 : WkH ⟨[(0,vR)],m,s⟩ (rho p) [] [] b (a.take n):=by
      repeat' first | exact trivial | refine And.intro (And.intro (ltd rfl) (Or.inr (And.intro qs (Exists.intro _ (And.intro rfl ?_))))) ?_ | exact Wb.dat _ _ | exact Wb.mp _ | refine J9 ?_ | refine qgu ?_ | refine WvC.cons ?_ rfl ?_ | exact WvC.nil | exact Wv.d (DLe.refl _) | exact Wv.ref rfl qs (ltd rfl) | exact Wv.mp rfl qs (ltd rfl) | exact Wv.hs rfl qs (ltd rfl) | exact Wv.d (DLe.nil _))
    (hb : q85 j p k s nx b = true:=by exact rfl)
    (hold : OldL j k hp (a.take n) a:=by repeat' first | exact trivial | refine And.intro (Or.inl rfl) ?_ | refine And.intro (Or.inr (And.intro rfl rfl)) ?_) :
    OpsK P T base ops none (⟨dst,.call c,ty,pos,af,g⟩::l) ⟨sl,hp,nx⟩ K:=
  Jq j p q t (a.take n) a b he v u r (Y9 j [] [] w z b1) (Y9 p [] [] x y b3) hb hold h
end
inductive WvR (st : AS) (ρ : Nat→Nat) (fz ph : List Nat) (nx : Nat) : List (List V)→List (List V)→Prop
  | nil : WvR st ρ fz ph nx [] []
  | cons {c d : List V} {cs ds : List (List V)} : WvC st ρ fz ph nx c d→WvR st ρ fz ph nx cs ds→WvR st ρ fz ph nx (c::cs) (d::ds)
theorem WvR.len {st : AS} {ρ : Nat→Nat} {fz ph : List Nat} {nx : Nat} {cs ds : List (List V)} (h : WvR st ρ fz ph nx cs ds) : cs.length = ds.length:=by
  induction h with
  | nil=>rfl
  | cons _ _ ih=>simp [ih]
theorem WvR.get {st : AS} {ρ : Nat→Nat} {fz ph : List Nat} {nx : Nat} {cs ds : List (List V)} (h : WvR st ρ fz ph nx cs ds) : ∀ (j : Nat) (c d : List V),cs[j]? = some c→ds[j]? = some d→WvC st ρ fz ph nx c d:=by
  induction h with
  | nil=>intro i x y h;simp at h
  | cons h1 _ ih=>
    intro i x y b a
    cases i with
    | zero=>simp at b a;subst b;subst a;exact h1
    | succ i=>exact ih i x y (by simpa using b) (by simpa using a)
theorem q136 {st : AS} {ρ : Nat→Nat} {fz ph : List Nat} {nx es : Nat} {cs ds : List (List V)} (h : WvR st ρ fz ph nx cs ds) : Wb st ρ fz ph nx (.cel es cs) (.cel es ds):=
  .cel h.len fun i x y b a=>⟨(h.get i x y b a).len,(h.get i x y b a).get⟩
theorem q137 {st : AS} {ρ : Nat→Nat} {fz ph : List Nat} {nx es : Nat} {cs : List (List DV)} {ds : List (List V)} (h : WvR st ρ fz ph nx (cs.map (·.map .d)) ds) : Wb st ρ fz ph nx (.dat es cs) (.cel es ds):=by
  refine .datcel (by simpa using h.len) fun i x y g f=>?_
  have a:=h.get i (x.map .d) y (by simp [g]) f
  refine ⟨by simpa using a.len,fun j c d b hd=>a.get j (.d c) d (by simp [b]) hd⟩
theorem wkA {base : Nat} {st st' : AS} (l : List (Nat × Nat)) (fz ph : List Nat) (a : wkOk base l fz ph st'.hp st'.nx = true:=by exact rfl)
    (hs : WkL st (rho l) fz ph st'.nx st'.sl:=by
      repeat' first | exact trivial | refine And.intro (Exists.intro _ (And.intro rfl ?_)) ?_ | exact Wv.d (DLe.refl _) | exact Wv.ref rfl qs (ltd rfl) | exact Wv.mp rfl qs (ltd rfl) | exact Wv.hs rfl qs (ltd rfl) | exact Wv.d (DLe.nil _) | exact Wv.nil qs (ltd rfl) | exact qoe rfl rfl qs | refine qde ?_ | refine q13d ?_ | refine qgx ?_ | refine q13e ?_ | refine q1u ?_ | refine WvL.cons ?_ ?_ | exact WvL.nil | exact Wv.dref _ _ | exact Wv.yld rfl qs (ltd rfl))
    (b : WkH st (rho l) fz ph st'.nx st'.hp:=by
      repeat' first | exact trivial | refine And.intro (And.intro (ltd rfl) (Or.inr (And.intro qs (Exists.intro _ (And.intro rfl ?_))))) ?_ | refine And.intro (And.intro (ltd rfl) (Or.inl (And.intro qs (Exists.intro _ (And.intro qs rfl))))) ?_ | exact Wb.dat _ _ | exact Wb.mp _ | refine J9 ?_ | refine qgu ?_ | refine q136 ?_ | refine q137 ?_ | refine WvR.cons ?_ ?_ | exact WvR.nil | refine q138 ?_ | refine WvS.cons rfl ?_ ?_ | exact WvS.nil | refine WvC.cons ?_ rfl ?_ | exact WvC.nil | exact Wv.d (DLe.refl _) | exact Wv.ref rfl qs (ltd rfl) | exact Wv.mp rfl qs (ltd rfl) | exact Wv.hs rfl qs (ltd rfl) | exact Wv.d (DLe.nil _) | exact Wv.nil qs (ltd rfl) | exact qoe rfl rfl qs | refine q1u ?_ | refine qde ?_ | refine WvL.cons ?_ ?_ | exact WvL.nil | exact Wv.yld rfl qs (ltd rfl)) : WkE base st st':=wkE l fz ph a hs b
theorem qn {st : AS} {ρ : Nat→Nat} {fz ph : List Nat} {nx t : Nat} {x : DV} (h : st.get t = some (.d x)) : ∃ v,st.get t = some v∧Wv st ρ fz ph nx v (.d x):=⟨_,h,.d (.refl _)⟩
theorem Qk {st : AS} {ρ : Nat→Nat} {fz ph : List Nat} {nx n es : Nat} {xs : List (List DV)} (d : Nat.blt n nx = true) (c : st.blk (ρ n) = some (.dat es xs)) (a : n ∉ ph:=by decide) :
    n < nx∧((n∈ph∧∃ e,e≠0∧(Blk.dat es xs) = .dat e [])∨(n ∉ ph∧∃ b,st.blk (ρ n) = some b∧Wb st ρ fz ph nx b (.dat es xs))):=⟨ltd d,.inr ⟨a,_,c,.dat _ _⟩⟩
abbrev U : Option (List Nat) × List Nat:=(some [],[])
abbrev qq (n : Nat) : Option (List Nat) × List Nat:=(some [n],[])
abbrev Qm (n : Nat) : Option (List Nat) × List Nat:=(some [n],[n])
end Go.Am
namespace Go.Am
open Go
inductive DLeR : List (List DV)→List (List DV)→Prop
  | nil : DLeR [] []
  | cons {x y : List DV} {xs ys : List (List DV)} : DLeL x y→DLeR xs ys→DLeR (x::xs) (y::ys)
structure q31 (ag : Bool) (ks : List (Option IntKind)) {α : Type} [DecidableEq α] (ek : α→DV) : Prop where
  agg : ∀ k,Zf (ek k) = ag
  len : ∀ k,(cellsD (ek k)).length = ks.length
  eq : ∀ a b,K6 ks (cellsD (ek a)) (cellsD (ek b)) = some (decide (a = b))
theorem key2 {k j : IntKind} : q31 true [some k,some j] (fun n : Int × Int=>DV.agg [.int k n.1,.int j n.2]):=
  ⟨fun _=>rfl,fun _=>rfl,fun a b=>by
    obtain ⟨c,d⟩:=a;obtain ⟨b1,f⟩:=b
    simp [cellsD,K6,q1x];rfl⟩
section
variable {α β : Type} [DecidableEq α]
def Yv (z : β) (k : α) : List (α × β)→β
  | []=>z
  | (a,v)::r=>if k = a then v else Yv z k r
def qfh (k : α) : List (α × β)→Bool
  | []=>false
  | (a,_)::r=>if k = a then true else qfh k r
def U8 (k : α) (v : β) : List (α × β)→List (α × β)
  | []=>[(k,v)]
  | (a,w)::r=>if k = a then (k,v)::r else (a,w)::U8 k v r
abbrev mrow (ek : α→DV) (ev : β→DV) (es : List (α × β)) : List (DV × DV):=es.map fun e=>(ek e.1,ev e.2)
variable {ag : Bool} {ks : List (Option IntKind)} {ek : α→DV} {ev : β→DV}
def q2f (k : α) : List (α × β)→Option Nat
  | []=>none
  | (a,_)::r=>if k = a then some 0 else (q2f k r).map (· + 1)
theorem qfg (b : q31 ag ks ek) (k : α) : ∀ es : List (α × β),Za ag ks (ek k) (mrow ek ev es) = some (q2f k es)
  | []=>rfl
  | (a,v)::r=>by
    have c:=qfg b k r
    simp only [mrow,List.map_cons,Za,b.agg,and_self,if_true,b.eq,q2f] at c ⊢
    by_cases h : k = a
    · simp [h]
    · simp only [h,decide_false,if_false,c]
      cases q2f k r <;> rfl
theorem qk8 (a : q31 ag ks ek) (k : α) : U5 ag ks (ek k) = true:=by
  simp [U5,a.agg,a.len]
theorem qsu (b : q31 ag ks ek) (z : β) (k : α) (es : List (α × β)) : mget ag ks (ev z) (ek k) (mrow ek ev es) = some (ev (Yv z k es),qfh k es):=by
  unfold mget
  rw [qfg b]
  induction es with
  | nil=>rfl
  | cons e r ih=>
    obtain ⟨a,v⟩:=e
    simp only [q2f,Yv,qfh]
    by_cases h : k = a
    · simp [h]
    · simp only [h,if_false]
      cases hp : q2f k r with
      | none=>rw [hp] at ih;simpa using ih
      | some j=>rw [hp] at ih;simpa using ih
theorem qsz (b : q31 ag ks ek) (k : α) (v : β) (es : List (α × β)) : mput ag ks (ek k) (ev v) (mrow ek ev es) = some (mrow ek ev (U8 k v es)):=by
  unfold mput
  rw [qfg b]
  induction es with
  | nil=>rfl
  | cons e r ih=>
    obtain ⟨a,w⟩:=e
    simp only [q2f,U8]
    by_cases h : k = a
    · simp [h]
    · simp only [h,if_false]
      cases hp : q2f k r with
      | none=>rw [hp] at ih;simp at ih ⊢;exact ih
      | some j=>rw [hp] at ih;simp at ih ⊢;exact ih
end
section
variable {P : Program} {T : Tab} {base : Nat} {ops : Array Oper} {dr : Dr} {l : List Oper} {sl : List (Nat × V)} {hp : List (Nat × Blk)} {nx : Nat} {K : AS→Prop} {ty : TypeId} {pos : String} {af : Array Edge} {t : Tmp} {g : Option (Nat × Bool)}
variable {α β : Type} [DecidableEq α] {ek : α→DV} {ev : β→DV} {mt : TypeId} {i : TI} {ks : List (Option IntKind)} {n : Nat} {es : List (α × β)}
theorem qtj {x a : Operand} (c : q31 i.eagg ks ek) (z : β) (k : α) (q : Qo ops ⟨sl,hp,nx⟩ ⟨some t,.lookup mt x a false,ty,pos,af,g⟩ = some true) (f : T mt = some i) (b : i.keys = some ks) (p : i.ezero = [ev z])
    (j : AS.ev ⟨sl,hp,nx⟩ x = some (.mp n)) (o : AS.ev ⟨sl,hp,nx⟩ a = some (.d (ek k))) (hb : find hp n = some (.mp (mrow ek ev es)))
    (h : OpsK P T base ops dr l ⟨(t,.d (ev (Yv z k es)))::sl,hp,nx⟩ K) (m : okO dr l.length ⟨sl,hp,nx⟩ (.lookup mt x a false) ⟨sl,hp,nx⟩ = true:=by rfl) : OpsK P T base ops dr (⟨some t,.lookup mt x a false,ty,pos,af,g⟩::l) ⟨sl,hp,nx⟩ K:=by
  refine Y3 q (v:=.d (ev (Yv z k es))) (st1:=⟨sl,hp,nx⟩) ?_ h m
  simp only [opFn,f,j,o,b,AS.blk,hb,p,qk8 c,if_true,qsu c,Option.map_some,cond_false]
theorem qtk {m a y : Operand} (c : q31 i.eagg ks ek) (k : α) (v : β) (s : Qo ops ⟨sl,hp,nx⟩ ⟨none,.mapUpdate mt m a y,ty,pos,af,g⟩ = some true) (j : T mt = some i) (b : i.keys = some ks)
    (f : AS.ev ⟨sl,hp,nx⟩ m = some (.mp n)) (r : AS.ev ⟨sl,hp,nx⟩ a = some (.d (ek k))) (p : AS.ev ⟨sl,hp,nx⟩ y = some (.d (ev v))) (hb : find hp n = some (.mp (mrow ek ev es))) (o : Y6 (ev v) = true)
    (h : OpsK P T base ops dr l ⟨sl,repl hp n (.mp (mrow ek ev (U8 k v es))),nx⟩ K) (q : okO dr l.length ⟨sl,hp,nx⟩ (.mapUpdate mt m a y) ⟨sl,repl hp n (.mp (mrow ek ev (U8 k v es))),nx⟩ = true:=by rfl) : OpsK P T base ops dr (⟨none,.mapUpdate mt m a y,ty,pos,af,g⟩::l) ⟨sl,hp,nx⟩ K:=by
  refine Y3 s (v:=.dead) (st1:=⟨sl,repl hp n (.mp (mrow ek ev (U8 k v es))),nx⟩) ?_ h q
  simp only [opFn,j,f,r,p,b,AS.blk,hb,qk8 c,o,and_self,if_true,qsz c,Option.map_some]
  rfl
end
end Go.Am
