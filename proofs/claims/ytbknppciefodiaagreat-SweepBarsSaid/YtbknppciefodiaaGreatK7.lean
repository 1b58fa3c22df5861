/- Am31 Lf1 Pl0 Lf2 Lf3 Lf4 Lf5 Lf6 -/
import Derived.Test.YtbknppciefodiaaGreatK6
namespace Go.Am
open Go
variable {P : Program} {T : Tab}
section
variable {base : Nat} {ops : Array Oper} {dr : Dr} {l : List Oper} {sl : List (Nat × V)} {hp : List (Nat × Blk)} {nx : Nat} {K : AS→Prop} {ty : TypeId} {pos : String} {af : Array Edge} {t : Tmp} {g : Option (Nat × Bool)} {v : V}
theorem K2 {et : TypeId} {i : TI} (hg : Qi ops ⟨sl,hp,nx⟩ ⟨some t,.alloc et,ty,pos,af,g⟩ = some true) (hT : T et = some i)
    (h : OpsK P T base ops dr l ⟨(t,.ref nx i.size 0 0)::sl,(nx,.dat i.size [i.zero])::hp,nx + 1⟩ K) (hF : okF dr l.length (fp ⟨sl,hp,nx⟩ (.alloc et)) = true:=by rfl) : OpsK P T base ops dr (⟨some t,.alloc et,ty,pos,af,g⟩::l) ⟨sl,hp,nx⟩ K:=
  Y6 hg (v:=.ref nx i.size 0 0) (st1:=⟨sl,(nx,.dat i.size [i.zero])::hp,nx + 1⟩) (by simp only [opFn,hT,Option.map_some];rfl) h (qim rfl hF)
theorem qpy {x y : Operand} {st0 xt : TypeId} {i j : TI} {n es len : Nat} {xs ys : List (List DV)} {yv : V} (hg : Qi ops ⟨sl,hp,nx⟩ ⟨some t,.call {callee:=.builtin .append,args:=#[x,y],argTypes:=#[st0,xt]},ty,pos,af,g⟩ = some true)
    (hT : T st0 = some i) (hT2 : T xt = some j) (hx : AS.ev ⟨sl,hp,nx⟩ x = some (.hs n es 0 len)) (hy : AS.ev ⟨sl,hp,nx⟩ y = some yv) (hb : find hp n = some (.dat es xs)) (hl : len = xs.length) (hc : Yf ⟨sl,hp,nx⟩ yv = some ys)
    (hk : i.kind = .slice) (hk2 : j.kind = .slice) (he : es = i.esize) (hf : Zg i.esize yv = true) (hr : (len + ys.length) * (i.ebytes * 4)≤4294967296)
    (h : OpsK P T base ops dr l ⟨(t,.hs nx es 0 (len + ys.length))::sl,(nx,.dat es (xs ++ ys))::repl hp n .dead,nx + 1⟩ K) (hF : okF dr l.length (fp ⟨sl,hp,nx⟩ (.call {callee:=.builtin .append,args:=#[x,y],argTypes:=#[st0,xt]})) = true:=by rfl) : OpsK P T base ops dr (⟨some t,.call {callee:=.builtin .append,args:=#[x,y],argTypes:=#[st0,xt]},ty,pos,af,g⟩::l) ⟨sl,hp,nx⟩ K:=by
  refine Y6 hg (v:=.hs nx es 0 (len + ys.length)) (st1:=⟨sl,(nx,.dat es (xs ++ ys))::repl hp n .dead,nx + 1⟩) ?_ h (qim rfl hF)
  subst hl
  have e : ((xs.drop 0).take xs.length ++ ys) = xs ++ ys:=by simp
  simp only [opFn,evL,hx,hy,Kt]
  simp only [List.getElem?_toArray,List.getElem?_cons_zero,List.getElem?_cons_succ,hT,hT2]
  rw [if_pos ⟨hk,hk2,hf⟩]
  simp only [Yk,AS.blk,hb,hc]
  rw [if_pos ⟨q6,trivial,hr,he⟩,e]
  rfl
theorem qe3 {x : Operand} (hg : Qi ops ⟨sl,hp,nx⟩ ⟨some t,.move x,ty,pos,af,g⟩ = some true) (hx : AS.ev ⟨sl,hp,nx⟩ x = some v)
    (h : OpsK P T base ops dr l ⟨(t,v)::sl,hp,nx⟩ K) : OpsK P T base ops dr (⟨some t,.move x,ty,pos,af,g⟩::l) ⟨sl,hp,nx⟩ K:=
  Y6 hg (v:=v) (st1:=⟨sl,hp,nx⟩) (by simp only [opFn,hx,Option.map_some]) h (Zq rfl)
theorem qpz {x : Operand} (hg : Qi ops ⟨sl,hp,nx⟩ ⟨some t,.assign x,ty,pos,af,g⟩ = some true) (hx : AS.ev ⟨sl,hp,nx⟩ x = some v)
    (h : OpsK P T base ops dr l ⟨(t,v)::sl,hp,nx⟩ K) : OpsK P T base ops dr (⟨some t,.assign x,ty,pos,af,g⟩::l) ⟨sl,hp,nx⟩ K:=
  Y6 hg (v:=v) (st1:=⟨sl,hp,nx⟩) (by simp only [opFn,hx,Option.map_some]) h (Zq rfl)
theorem qc {op : Op} {j : Nat} {w : Bool} (hg : Qi ops ⟨sl,hp,nx⟩ ⟨some t,op,ty,pos,af,some (j,w)⟩ = some false) (h : OpsK P T base ops dr l ⟨(t,.d (.tup []))::sl,hp,nx⟩ K) : OpsK P T base ops dr (⟨some t,op,ty,pos,af,some (j,w)⟩::l) ⟨sl,hp,nx⟩ K:=
  qqd hg h
theorem qq7 {x : Operand} {xt : TypeId} {i : TI} {es : Nat} {xs : List (List DV)} {m : Nat} (hg : Qi ops ⟨sl,hp,nx⟩ ⟨some t,.call {callee:=.builtin .len,args:=#[x],argTypes:=#[xt]},ty,pos,af,g⟩ = some true) (hT : T xt = some i) (hk : i.kind = .slice) (hx : AS.ev ⟨sl,hp,nx⟩ x = some (.d (.sl es xs))) (hm : xs.length = m)
    (h : OpsK P T base ops dr l ⟨(t,.d (.int .i64 m))::sl,hp,nx⟩ K) : OpsK P T base ops dr (⟨some t,.call {callee:=.builtin .len,args:=#[x],argTypes:=#[xt]},ty,pos,af,g⟩::l) ⟨sl,hp,nx⟩ K:=by
  subst hm
  exact Y6 hg (v:=.d (.int .i64 xs.length)) (st1:=⟨sl,hp,nx⟩) (by simp only [opFn,evL,hx,Kt];simp only [List.getElem?_toArray,List.getElem?_cons_zero,hT,hk]) h (Zq rfl)
end
end Go.Am
namespace Go.Am
open Go
def iter {α β : Type} (f : α→Option (α ⊕ β)) : Nat→α→Option β
  | 0,_=>none
  | n + 1,a=>match f a with
    | none=>none
    | some (.inl a')=>iter f n a'
    | some (.inr b)=>some b
theorem qdh {α β : Type} {f : α→Option (α ⊕ β)} : ∀ {n : Nat} {a : α} {b : β},iter f n a = some b→∀ m,n≤m→iter f m a = some b
  | 0,_,_,h,_,_=>by simp [iter] at h
  | n + 1,a,b,h,m,hm=>by
    obtain ⟨k,rfl⟩ : ∃ k,m = k + 1:=⟨m - 1,q6⟩
    simp only [iter] at h ⊢
    split at h
    · simp at h
    · rename_i a' he;exact qdh h k q6
    · exact h
theorem qoz {α β : Type} {f : α→Option (α ⊕ β)} {n m : Nat} {a : α} {b c : β} (h : iter f n a = some b) (h' : iter f m a = some c) : b = c:=by
  have h1:=qdh h (max n m) q6
  have h2:=qdh h' (max n m) q6
  rw [h1] at h2;exact Option.some.inj h2
open Classical in
noncomputable def loop {α β : Type} (f : α→Option (α ⊕ β)) (a : α) : Option β:=
  if h : ∃ b n,iter f n a = some b then some h.choose else none
theorem q7i {α β : Type} {f : α→Option (α ⊕ β)} {a : α} {b : β} : loop f a = some b↔∃ n,iter f n a = some b:=by
  unfold loop
  split
  · rename_i h
    constructor
    · intro e;cases e;exact h.choose_spec
    · rintro ⟨n,hn⟩
      obtain ⟨m,hm⟩:=h.choose_spec
      rw [qoz hm hn]
  · rename_i h
    constructor
    · intro e;cases e
    · rintro ⟨n,hn⟩;exact absurd ⟨b,n,hn⟩ h
theorem Ko {α β : Type} {f : α→Option (α ⊕ β)} {a a' : α} (h : f a = some (.inl a')) : loop f a = loop f a':=by
  apply Option.ext
  intro b
  rw [q7i,q7i]
  constructor
  · rintro ⟨n,hn⟩
    cases n with
    | zero=>simp [iter] at hn
    | succ n=>simp only [iter,h] at hn;exact ⟨n,hn⟩
  · rintro ⟨n,hn⟩
    exact ⟨n + 1,by simp only [iter,h];exact hn⟩
theorem Kc {α β : Type} {f : α→Option (α ⊕ β)} {a : α} {b : β} (h : f a = some (.inr b)) : loop f a = some b:=
  q7i.2 ⟨1,by simp [iter,h]⟩
theorem qpd {α β : Type} {f : α→Option (α ⊕ β)} (I : α→Prop) (μ : α→Nat) (Q : β→Prop) (step : ∀ a,I a→(∃ a',f a = some (.inl a')∧I a'∧μ a' < μ a)∨∃ b,f a = some (.inr b)∧Q b) {a : α} (h : I a) : ∃ b,loop f a = some b∧Q b:=by
  generalize hn : μ a = n
  induction n using Nat.strongRecOn generalizing a with
  | _ n ih=>
    rcases step a h with ⟨a',h1,h2,h3⟩ | ⟨b,h1,h2⟩
    · rw [Ko h1];exact ih _ (hn ▸ h3) h2 rfl
    · exact ⟨b,Kc h1,h2⟩
def w64 (x : Int) : Int:=IntKind.i64.wrap x
theorem Q6 {x : Int} (h : -9223372036854775808≤x∧x≤9223372036854775807) : w64 x = x:=qf1 h
def idx {α : Type} (xs : List α) (i : Int) : Option α:=if 0≤i then xs[i.toNat]? else none
def app {α : Type} (c : Nat) (xs ys : List α) : Option (List α):=if (xs.length + ys.length) * (c * 4)≤4294967296 then some (xs ++ ys) else none
def sub2 (n : Nat) (a b : Int) : Option (Nat × Nat):=if 0≤a∧a≤b∧b≤n then some (a.toNat,b.toNat - a.toNat) else none
def cpyw {α : Type} (xs : List α) (w : Nat × Nat) (ys : List α) : List α:=splice xs w.1 (ys.take (min ys.length w.2))
theorem leb {n m : Nat} (h : Nat.ble n m = true) : n≤m:=by simpa using h
theorem qgf {α : Type} {xs ys : List α} {w : Nat × Nat} (h : w.1 + w.2≤xs.length) : (cpyw xs w ys).length = xs.length:=by
  simp [cpyw,splice];omega
theorem ltd {n m : Nat} (h : Nat.blt n m = true) : n < m:=by simpa [Nat.blt_eq] using h
def eI (k : IntKind) (x : Int) : List DV:=[.int k x]
def eB (b : Bool) : List DV:=[.bool b]
theorem qai {α : Type} {xs : List α} {i : Int} {v : α} (h : idx xs i = some v) : 0≤i∧xs[i.toNat]? = some v∧i.toNat < xs.length:=by
  unfold idx at h
  split at h
  · rename_i h0;exact ⟨h0,h,K4 h⟩
  · cases h
theorem q8 {α β : Type} {o : Option α} {f : α→Option β} {x : β} (h : o.bind f = some x) : ∃ v,o = some v∧f v = some x:=by
  cases o with
  | none=>cases h
  | some v=>exact ⟨v,rfl,h⟩
theorem qe {α : Type} {a b : α} (h : some a = some b) : a = b:=Option.some.inj h
section
variable {P : Program} {T : Tab} {base : Nat} {cs : List Code} {st : AS} {K : Ex→AS→Prop}
theorem RunK.mono {K' : Ex→AS→Prop} : ∀ {cs : List Code} {st : AS},RunK P T base cs st K→(∀ ex st,K ex st→K' ex st)→RunK P T base cs st K'
  | [],_,h,hk=>hk _ _ h
  | c::cs,st,h,hk=>q2d.mono h fun ex st h=>by
    cases ex with
    | nor=>exact RunK.mono (cs:=cs) h hk
    | exit i=>exact hk _ _ h
    | ret=>exact hk _ _ h
theorem qo {α : Type} {c : Operand} {a b : Code} {t : Bool} {X Y : Option α} {x : α} (hc : st.ev c = some (.d (.bool t))) (h : cond t X Y = some x) (ht : t = true→X = some x→RunK P T base (a::cs) st K) (hf : t = false→Y = some x→RunK P T base (b::cs) st K) :
    RunK P T base (.cond c a b::cs) st K:=by
  cases t with
  | true=>exact q3d hc (ht rfl h)
  | false=>exact Jo hc (hf rfl h)
theorem Q8 {α β : Type} {body : Code} (f : α→Option (α ⊕ β)) (S : α→AS) (a0 : α) (m : β) (hm : loop f a0 = some m) (h0 : WkE base st (S a0))
    (round : ∀ a y,f a = some y→RunK P T base [body] (S a) (fun ex st'=>match ex with
      | .nor=>∃ a',y = .inl a'∧WkE base st' (S a')
      | ex=>∃ b,y = .inr b∧(b = m→K ex st'))) : RunK P T base (.loop body::cs) st K:=by
  obtain ⟨n,hn⟩:=q7i.1 hm
  refine qt0 (fun x : Nat × α=>S x.2) (fun x=>iter f x.1 x.2 = some m) (fun x=>x.1) (n,a0) h0 hn ?_
  rintro ⟨k,a⟩ hk
  cases k with
  | zero=>simp [iter] at hk
  | succ k=>
    simp only [iter] at hk
    split at hk
    · cases hk
    · rename_i a' he
      refine (round a _ he).mono ?_
      intro ex st' h
      cases ex with
      | nor=>
        obtain ⟨a'',h1,h2⟩:=h
        cases h1
        exact ⟨(k,a'),hk,qd,h2⟩
      | exit i=>obtain ⟨b,h1,_⟩:=h;cases h1
      | ret=>obtain ⟨b,h1,_⟩:=h;cases h1
    · rename_i b he
      cases hk
      refine (round a _ he).mono ?_
      intro ex st' h
      cases ex with
      | nor=>obtain ⟨a'',h1,_⟩:=h;cases h1
      | exit i=>obtain ⟨b',h1,h2⟩:=h;cases h1;exact h2 rfl
      | ret=>obtain ⟨b',h1,h2⟩:=h;cases h1;exact h2 rfl
theorem q2f {id : Nat} {N : AS→Prop} (h : N st) : q2g id N K (.exit id) st:=by simpa [q2g] using h
theorem Qc {id : Nat} {N : AS→Prop} (h : N st) : q2g id N K .nor st:=h
theorem Yb {β : Type} {c : Code} (E : β→Prop) (S : β→AS) (hne : cs≠[]) (hc : RunK P T base [c] st (q9p (fun st'=>∃ b,E b∧WkE base st' (S b)) K)) (hrest : ∀ b,E b→RunK P T base cs (S b) K) : RunK P T base (c::cs) st K:=by
  obtain ⟨ex,st1,e1,k1⟩:=q43 hc
  refine ⟨ex,st1,e1,?_⟩
  cases ex with
  | nor=>obtain ⟨b,hb,hw⟩:=k1;exact Yn hw (hrest b hb) hne
  | exit i=>exact k1
  | ret=>exact k1
theorem Qe {β : Type} {id : Nat} {a : Code} (E : β→Prop) (S : β→AS) (hne : cs≠[]) (hc : RunK P T base [a] st (q2g id (fun st'=>∃ b,E b∧WkE base st' (S b)) K)) (hrest : ∀ b,E b→RunK P T base cs (S b) K) : RunK P T base (.block id a::cs) st K:=by
  refine Q0 (hc.mono ?_)
  intro ex st' h
  cases ex with
  | nor=>obtain ⟨b,hb,hw⟩:=h;exact Yn hw (hrest b hb) hne
  | ret=>exact h
  | exit i=>
    simp only [q2g] at h ⊢
    split
    · rename_i hi;rw [if_pos hi] at h;obtain ⟨b,hb,hw⟩:=h;exact Yn hw (hrest b hb) hne
    · rename_i hi;rw [if_neg hi] at h;exact h
theorem qb7 {β : Type} {c : Code} (E : β→Prop) (S : β→AS) (hc : RunK P T base [c] st (q9p (fun st'=>∃ b,E b∧WkE base st' (S b)) K)) (hrest : ∀ b st',E b→WkE base st' (S b)→K .nor st') : RunK P T base [c] st K:=by
  refine hc.mono ?_
  intro ex st' h
  cases ex with
  | nor=>obtain ⟨b,hb,hw⟩:=h;exact hrest b st' hb hw
  | exit i=>exact h
  | ret=>exact h
end
section
variable {P : Program} {T : Tab} {base : Nat} {ops : Array Oper} {dr : Dr} {l : List Oper} {sl : List (Nat × V)} {hp : List (Nat × Blk)} {nx : Nat} {K : AS→Prop} {ty : TypeId} {pos : String} {af : Array Edge} {t : Tmp} {g : Option (Nat × Bool)}
theorem qqg {op : Op} (v : V) (hg : Qi ops ⟨sl,hp,nx⟩ ⟨some t,op,ty,pos,af,g⟩ = some true) (ho : opFn T ⟨sl,hp,nx⟩ op = some (v,⟨sl,hp,nx⟩)) (h : OpsK P T base ops dr l ⟨(t,v)::sl,hp,nx⟩ K) (hF : okO dr l.length ⟨sl,hp,nx⟩ (op) ⟨sl,hp,nx⟩ = true:=by rfl) : OpsK P T base ops dr (⟨some t,op,ty,pos,af,g⟩::l) ⟨sl,hp,nx⟩ K:=
  Y6 hg ho h hF
theorem qq9 {op : Op} (v : V) (b : Blk) (hg : Qi ops ⟨sl,hp,nx⟩ ⟨some t,op,ty,pos,af,g⟩ = some true) (ho : opFn T ⟨sl,hp,nx⟩ op = some (v,⟨sl,(nx,b)::hp,nx + 1⟩)) (h : OpsK P T base ops dr l ⟨(t,v)::sl,(nx,b)::hp,nx + 1⟩ K) (hF : okO dr l.length ⟨sl,hp,nx⟩ (op) ⟨sl,(nx,b)::hp,nx + 1⟩ = true:=by rfl) : OpsK P T base ops dr (⟨some t,op,ty,pos,af,g⟩::l) ⟨sl,hp,nx⟩ K:=
  Y6 hg ho h hF
theorem qio {op : Op} {es len : Nat} (xs : List (List DV)) (hg : Qi ops ⟨sl,hp,nx⟩ ⟨some t,op,ty,pos,af,g⟩ = some true) (ho : opFn T ⟨sl,hp,nx⟩ op = some (.hs nx es 0 len,⟨sl,(nx,.dat es xs)::hp,nx + 1⟩)) (hl : len = xs.length) (ht : touch op = 2) (hf : find hp nx = none) (h : OpsK P T base ops dr l ⟨(t,.d (.sl es xs))::sl,hp,nx + 1⟩ K) (hF : okF dr l.length (fp ⟨sl,hp,nx⟩ op) = true:=by rfl) : OpsK P T base ops dr (⟨some t,op,ty,pos,af,g⟩::l) ⟨sl,hp,nx⟩ K:=by
  subst hl
  exact qqa (n:=nx) (hp2:=hp) (st1:=⟨sl,(nx,.dat es xs)::hp,nx + 1⟩) hg ho ht ⟨rfl,rfl⟩ rfl hf h hF
theorem qqf {op : Op} (n : Nat) (b : Blk) (hg : Qi ops ⟨sl,hp,nx⟩ ⟨none,op,ty,pos,af,g⟩ = some true) (ho : opFn T ⟨sl,hp,nx⟩ op = some (.dead,⟨sl,repl hp n b,nx⟩)) (h : OpsK P T base ops dr l ⟨sl,repl hp n b,nx⟩ K) (hF : okO dr l.length ⟨sl,hp,nx⟩ (op) ⟨sl,repl hp n b,nx⟩ = true:=by rfl) : OpsK P T base ops dr (⟨none,op,ty,pos,af,g⟩::l) ⟨sl,hp,nx⟩ K:=
  Y6 hg ho h hF
theorem Qb {α : Type} {x : Operand} {b : Bool} {X Y : Option α} {m : α} (hg : Qi ops ⟨sl,hp,nx⟩ ⟨some t,.move x,ty,pos,af,g⟩ = some true) (hx : AS.ev ⟨sl,hp,nx⟩ x = some (.d (.bool b))) (h : cond b X Y = some m)
    (ht : X = some m→OpsK P T base ops dr l ⟨(t,.d (.bool true))::sl,hp,nx⟩ K) (hf : Y = some m→OpsK P T base ops dr l ⟨(t,.d (.bool false))::sl,hp,nx⟩ K) : OpsK P T base ops dr (⟨some t,.move x,ty,pos,af,g⟩::l) ⟨sl,hp,nx⟩ K:=by
  cases b with
  | true=>exact qe3 hg hx (ht h)
  | false=>exact qe3 hg hx (hf h)
theorem Uh {dr : Dr} (hd : dr = none) {l1 l2 : List Oper} {st st1 st2 : AS} : Kd P T base ops dr l1 st st1→Kd P T base ops dr l2 st1 st2→Kd P T base ops dr (l1 ++ l2) st st2
  | .nil,h2=>h2
  | .skip a b,h2=>.skip a (Uh hd b h2)
  | .op a b _ c,h2=>.op a b (by subst hd;rfl) (Uh hd c h2)
  | .opF a b c d e f _ g,h2=>.opF a b c d e f (by subst hd;rfl) (Uh hd g h2)
  | .callP a b c d e f g h _ i,h2=>.callP a b c d e f g h (by subst hd;rfl) (Uh hd i h2)
  | .callS a b c d e,h2=>.callS a b c d (Uh hd e h2)
  | .callF a b c d e f g h i,h2=>.callF a b c d e f g h (Uh hd i h2)
  | .callY a b c d e f g h i j k l,h2=>.callY a b c d e f g h i j k (Uh hd l h2)
  | .wk a b,h2=>.wk a (Uh hd b h2)
  | .piv _ _ _,_=>by cases hd
theorem qd5 {F : List Fp} {m k : Nat} : fpAt (F.drop m) k = fpAt F (k + m):=by
  unfold fpAt
  rw [List.getElem?_drop,Nat.add_comm]
theorem qpw {F : List Fp} {l l2 : List Oper} {dr : Dr} (hd : dr = some (F.drop l2.length)) {st st1 : AS} {op : Op} (h : okO dr l.length st op st1 = true) : okO (some F) (l ++ l2).length st op st1 = true:=by
  subst hd
  simp only [okO,qd5] at h
  simpa only [okO,List.length_append] using h
theorem qil {F : List Fp} {l l2 : List Oper} {dr : Dr} (hd : dr = some (F.drop l2.length)) {x : Fp} (h : okF dr l.length x = true) : okF (some F) (l ++ l2).length x = true:=by
  subst hd
  simp only [okF,qd5] at h
  simpa only [okF,List.length_append] using h
theorem qo1 {F : List Fp} {l2 : List Oper} {dr : Dr} {k : Dr} (hk : k = some F) (hd : dr = some (F.drop l2.length)) {l1 : List Oper} {st st1 st2 : AS} (h1 : Kd P T base ops dr l1 st st1) (h2 : Kd P T base ops k l2 st1 st2) : Kd P T base ops k (l1 ++ l2) st st2:=by
  subst hk
  induction l1 generalizing st with
  | nil=>cases h1 with
    | nil=>exact h2
    | wk _ _=>cases hd
  | cons o l ih=>
    cases h1 with
    | skip a b=>exact .skip a (ih b)
    | op a b c d=>exact .op a b (qpw hd c) (ih d)
    | opF a b c d e f g h=>exact .opF a b c d e f (qil hd g) (ih h)
    | callP a b c d e f g h i j=>exact .callP a b c d e f g h (qil hd i) (ih j)
    | callS _ _ _ _ _=>cases hd
    | callF _ _ _ _ _ _ _ _ _=>cases hd
    | callY _ _ _ _ _ _ _ _ _ _ _ _=>cases hd
    | wk _ _=>cases hd
    | piv a b c=>
      cases hd
      rw [qd5] at a
      exact .piv (by show Jl (fpAt F (l ++ l2).length) = true;rw [List.length_append];exact a) b (ih c)
def qgh (dr : Dr) (k : Nat) : Dr:=match dr with
  | none=>none
  | some F=>some (F.drop k)
theorem qo0 {dr : Dr} {l1 l2 : List Oper} {st st1 st2 : AS} (h1 : Kd P T base ops (qgh dr l2.length) l1 st st1) (h2 : Kd P T base ops dr l2 st1 st2) : Kd P T base ops dr (l1 ++ l2) st st2:=by
  cases dr with
  | none=>exact Uh rfl h1 h2
  | some F=>exact qo1 rfl rfl h1 h2
theorem Qa (n : Nat) (Q : (List (Nat × V)→AS)→AS→Prop) (h1 : OpsK P T base ops (qgh dr (l.drop n).length) (l.take n) ⟨sl,hp,nx⟩ (Q fun p=>⟨p ++ sl,hp,nx⟩)) (h2 : ∀ st',Q (fun p=>⟨p ++ sl,hp,nx⟩) st'→OpsK P T base ops dr (l.drop n) st' K) : OpsK P T base ops dr l ⟨sl,hp,nx⟩ K:=by
  obtain ⟨st1,e1,k1⟩:=h1
  obtain ⟨st2,e2,k2⟩:=h2 st1 k1
  refine ⟨st2,?_,k2⟩
  have:=qo0 e1 e2
  rwa [List.take_append_drop] at this
theorem qq4 {α : Type} {x y : Operand} {xt : TypeId} {i : TI} {k : IntKind} {n : Int} {es : Nat} {xs : List α} {enc : α→List DV} {v : α} (hv : idx xs n = some v) (hg : Qi ops ⟨sl,hp,nx⟩ ⟨some t,.indexAddr xt x y,ty,pos,af,g⟩ = some true) (hT : T xt = some i)
    (hx : AS.ev ⟨sl,hp,nx⟩ x = some (.d (.sl es (xs.map enc)))) (hy : AS.ev ⟨sl,hp,nx⟩ y = some (.d (.int k n))) (hk : i.kind = .slice) (he : es = i.esize)
    (h : OpsK P T base ops dr l ⟨(t,.dref (enc v) 0)::sl,hp,nx⟩ K) : OpsK P T base ops dr (⟨some t,.indexAddr xt x y,ty,pos,af,g⟩::l) ⟨sl,hp,nx⟩ K:=by
  obtain ⟨h0,h1,_⟩:=qai hv
  exact Y6 hg (v:=.dref (enc v) 0) (st1:=⟨sl,hp,nx⟩) (by simp [opFn,hx,hy,hT,q2p,hk,he,h0,h1]) h (Zq rfl)
theorem qq3 {α : Type} {x y : Operand} {xt : TypeId} {i : TI} {k : IntKind} {n : Int} {m es len : Nat} {xs : List α} {v : α} (hv : idx xs n = some v) (hl : len = xs.length) (hg : Qi ops ⟨sl,hp,nx⟩ ⟨some t,.indexAddr xt x y,ty,pos,af,g⟩ = some true) (hT : T xt = some i)
    (hx : AS.ev ⟨sl,hp,nx⟩ x = some (.hs m es 0 len)) (hy : AS.ev ⟨sl,hp,nx⟩ y = some (.d (.int k n))) (hk : i.kind = .slice) (he : es = i.esize)
    (h : OpsK P T base ops dr l ⟨(t,.ref m es n.toNat 0)::sl,hp,nx⟩ K) : OpsK P T base ops dr (⟨some t,.indexAddr xt x y,ty,pos,af,g⟩::l) ⟨sl,hp,nx⟩ K:=by
  subst hl
  obtain ⟨h0,_,h1⟩:=qai hv
  exact Y6 hg (v:=.ref m es n.toNat 0) (st1:=⟨sl,hp,nx⟩) (by simp [opFn,hx,hy,hT,q2p,hk,he,h0];omega) h (Zq rfl)
theorem qq8 {α : Type} {p : Operand} {xt : TypeId} {i : TI} {m es j : Nat} {n : Int} {xs : List α} {enc : α→List DV} {r : List DV} {v : α} (w : V) (hv : idx xs n = some v) (hg : Qi ops ⟨sl,hp,nx⟩ ⟨some t,.load xt p,ty,pos,af,g⟩ = some true) (hT : T xt = some i)
    (hx : AS.ev ⟨sl,hp,nx⟩ p = some (.ref m es n.toNat j)) (hb : find hp m = some (.dat es (xs.map enc))) (hs : sub (enc v) j i.size = some r) (hw : (Uz i.agg r).map .d = some w)
    (h : OpsK P T base ops dr l ⟨(t,w)::sl,hp,nx⟩ K) (hF : okF dr l.length (fp ⟨sl,hp,nx⟩ (.load xt p)) = true:=by rfl) : OpsK P T base ops dr (⟨some t,.load xt p,ty,pos,af,g⟩::l) ⟨sl,hp,nx⟩ K:=
  qip hg hT hx hb (by rw [List.getElem?_map,(qai hv).2.1];rfl) hs hw h hF
theorem Qt {α : Type} {p x : Operand} {xt : TypeId} {i : TI} {m es j : Nat} {n : Int} {xs : List α} {enc : α→List DV} {v : α} (v' : α) {u : V} {ds : List DV} (hv : idx xs n = some v) (hg : Qi ops ⟨sl,hp,nx⟩ ⟨none,.store xt p x,ty,pos,af,g⟩ = some true) (hT : T xt = some i)
    (hp' : AS.ev ⟨sl,hp,nx⟩ p = some (.ref m es n.toNat j)) (hx : AS.ev ⟨sl,hp,nx⟩ x = some u) (hb : find hp m = some (.dat es (xs.map enc))) (hc : cellsOf u = ds.map .d) (hl : ds.length = i.size) (hk : ds.all Y5 = true) (hj : j + i.size≤(enc v).length) (hs : splice (enc v) j ds = enc v')
    (h : OpsK P T base ops dr l ⟨sl,repl hp m (.dat es ((xs.set n.toNat v').map enc)),nx⟩ K) (hF : okO dr l.length ⟨sl,hp,nx⟩ (.store xt p x) ⟨sl,repl hp m (.dat es ((xs.set n.toNat v').map enc)),nx⟩ = true:=by rfl) : OpsK P T base ops dr (⟨none,.store xt p x,ty,pos,af,g⟩::l) ⟨sl,hp,nx⟩ K:=by
  refine Y6 hg (v:=.dead) (st1:=⟨sl,repl hp m (.dat es ((xs.set n.toNat v').map enc)),nx⟩) ?_ h hF
  have hall : (cellsOf u).all Kb = true:=by rw [hc,List.all_map];exact hk
  have hlen : (cellsOf u).length = i.size:=by rw [hc];simpa using hl
  have hrow : (xs.map enc)[n.toNat]? = some (enc v):=by rw [List.getElem?_map,(qai hv).2.1];rfl
  simp only [opFn,hT,hp',hx,Zw,AS.blk,hb,Nat.beq_refl,hrow]
  rw [if_neg (by simp [hall,hlen]),if_pos hj,hc,qc6]
  simp only [hs,List.map_set,AS.setBlk]
  rfl
theorem qiq {α : Type} {x : Operand} {xt : TypeId} {i : TI} {es : Nat} {xs : List α} {enc : α→List DV} (hg : Qi ops ⟨sl,hp,nx⟩ ⟨some t,.call {callee:=.builtin .len,args:=#[x],argTypes:=#[xt]},ty,pos,af,g⟩ = some true) (hT : T xt = some i) (hk : i.kind = .slice) (hx : AS.ev ⟨sl,hp,nx⟩ x = some (.d (.sl es (xs.map enc))))
    (h : OpsK P T base ops dr l ⟨(t,.d (.int .i64 (xs.length : Int)))::sl,hp,nx⟩ K) : OpsK P T base ops dr (⟨some t,.call {callee:=.builtin .len,args:=#[x],argTypes:=#[xt]},ty,pos,af,g⟩::l) ⟨sl,hp,nx⟩ K:=
  qq7 hg hT hk hx qd h
theorem Kw {α : Type} {x y : Operand} {st0 xt : TypeId} {i j : TI} {n es len : Nat} {xs ys zs : List α} {enc : α→List DV} (yv : V) (hz : app i.ebytes xs ys = some zs) (hlen : len = xs.length) (hg : Qi ops ⟨sl,hp,nx⟩ ⟨some t,.call {callee:=.builtin .append,args:=#[x,y],argTypes:=#[st0,xt]},ty,pos,af,g⟩ = some true)
    (hT : T st0 = some i) (hT2 : T xt = some j) (hx : AS.ev ⟨sl,hp,nx⟩ x = some (.hs n es 0 len)) (hy : AS.ev ⟨sl,hp,nx⟩ y = some yv) (hb : find hp n = some (.dat es (xs.map enc))) (hc : Yf ⟨sl,hp,nx⟩ yv = some (ys.map enc))
    (hk : i.kind = .slice) (hk2 : j.kind = .slice) (he : es = i.esize) (hf : Zg i.esize yv = true)
    (h : OpsK P T base ops dr l ⟨(t,.hs nx es 0 zs.length)::sl,(nx,.dat es (zs.map enc))::repl hp n .dead,nx + 1⟩ K) (hF : okF dr l.length (fp ⟨sl,hp,nx⟩ (.call {callee:=.builtin .append,args:=#[x,y],argTypes:=#[st0,xt]})) = true:=by rfl) : OpsK P T base ops dr (⟨some t,.call {callee:=.builtin .append,args:=#[x,y],argTypes:=#[st0,xt]},ty,pos,af,g⟩::l) ⟨sl,hp,nx⟩ K:=by
  subst hlen
  unfold app at hz
  split at hz
  · rename_i hr
    cases hz
    refine qpy hg hT hT2 hx hy hb qd hc hk hk2 he hf (by simpa [Nat.mul_assoc] using hr) ?_ hF
    simpa using h
  · cases hz
theorem Ku {α : Type} {n es len : Nat} {ys : List α} {enc : α→List DV} (hlen : len = ys.length) (hb : find hp n = some (.dat es (ys.map enc))) : Yf ⟨sl,hp,nx⟩ (.hs n es 0 len) = some (ys.map enc):=by
  subst hlen
  simp only [Yf,AS.blk,hb]
  rw [if_pos qd,List.drop_zero,List.take_of_length_le qd]
theorem q6x {o : Operand} {k : IntKind} {a : Int} {d : Nat} {st : AS} (h : st.ev o = some (.d (.int k a))) (h0 : 0≤a) : bound st d (some o) = some a.toNat:=by
  simp [bound,h,h0]
theorem q7o {x : Operand} {xt : TypeId} {lo hi : Option Operand} {i : TI} {n es len : Nat} {a b : Int} {w : Nat × Nat} (hz : sub2 len a b = some w) (hg : Qi ops ⟨sl,hp,nx⟩ ⟨some t,.slice xt x lo hi none,ty,pos,af,g⟩ = some true) (hT : T xt = some i) (hk : i.kind = .slice) (he : es = i.esize)
    (hx : AS.ev ⟨sl,hp,nx⟩ x = some (.hs n es 0 len)) (hlo : 0≤a→bound ⟨sl,hp,nx⟩ 0 lo = some a.toNat) (hhi : 0≤b→bound ⟨sl,hp,nx⟩ len hi = some b.toNat)
    (h : OpsK P T base ops dr l ⟨(t,.hs n es w.1 w.2)::sl,hp,nx⟩ K) : OpsK P T base ops dr (⟨some t,.slice xt x lo hi none,ty,pos,af,g⟩::l) ⟨sl,hp,nx⟩ K:=by
  unfold sub2 at hz
  split at hz
  · rename_i hr
    cases hz
    refine Y6 hg (v:=.hs n es a.toNat (b.toNat - a.toNat)) (st1:=⟨sl,hp,nx⟩) ?_ h (Zq rfl)
    simp only [opFn,hT,hx,hk,lenV,hlo hr.1,hhi q6,qbe]
    rw [if_pos ⟨trivial,rfl⟩]
    rw [if_pos ⟨q6,q6,he⟩]
    simp
  · cases hz
theorem q9h {n : Nat} {a b : Int} {w : Nat × Nat} (h : sub2 n a b = some w) : w.1 + w.2≤n:=by
  unfold sub2 at h
  split at h
  · cases h;simp only;omega
  · cases h
theorem qy5 {α β : Type} (f : α→β) (xs ys : List α) (j : Nat) : splice (xs.map f) j (ys.map f) = (splice xs j ys).map f:=by
  simp [splice,List.map_take,List.map_drop]
theorem qq1 {α : Type} {x y : Operand} {st0 xt : TypeId} {i j : TI} {n es : Nat} {w : Nat × Nat} {xs ys : List α} {enc : α→List DV} (yv : V) (hw : w.1 + w.2≤xs.length) (hg : Qi ops ⟨sl,hp,nx⟩ ⟨some t,.call {callee:=.builtin .copy,args:=#[x,y],argTypes:=#[st0,xt]},ty,pos,af,g⟩ = some true)
    (hT : T st0 = some i) (hT2 : T xt = some j) (hx : AS.ev ⟨sl,hp,nx⟩ x = some (.hs n es w.1 w.2)) (hy : AS.ev ⟨sl,hp,nx⟩ y = some yv) (hb : find hp n = some (.dat es (xs.map enc))) (hc : Yf ⟨sl,hp,nx⟩ yv = some (ys.map enc))
    (hk : i.kind = .slice) (hk2 : j.kind = .slice) (he : es = i.esize) (hf : Zg i.esize yv = true)
    (h : OpsK P T base ops dr l ⟨(t,.d (.int .i64 (min ys.length w.2 : Nat)))::sl,repl hp n (.dat es ((cpyw xs w ys).map enc)),nx⟩ K) (hF : okO dr l.length ⟨sl,hp,nx⟩ (.call {callee:=.builtin .copy,args:=#[x,y],argTypes:=#[st0,xt]}) ⟨sl,repl hp n (.dat es ((cpyw xs w ys).map enc)),nx⟩ = true:=by rfl) : OpsK P T base ops dr (⟨some t,.call {callee:=.builtin .copy,args:=#[x,y],argTypes:=#[st0,xt]},ty,pos,af,g⟩::l) ⟨sl,hp,nx⟩ K:=by
  refine Y6 hg (v:=.d (.int .i64 (min ys.length w.2 : Nat))) (st1:=⟨sl,repl hp n (.dat es ((cpyw xs w ys).map enc)),nx⟩) ?_ h hF
  simp only [opFn,evL,hx,hy,Kt]
  simp only [List.getElem?_toArray,List.getElem?_cons_zero,List.getElem?_cons_succ,hT,hT2]
  rw [if_pos ⟨hk,hk2,by simp [Zg,he],hf⟩]
  simp only [copyV,AS.blk,hb,hc]
  rw [if_pos ⟨by simpa using hw,trivial⟩]
  simp only [List.length_map,cpyw,← List.map_take,qy5,AS.setBlk]
theorem qnd {α : Type} {n es : Nat} {w : Nat × Nat} {ys : List α} {enc : α→List DV} (hw : w.1 + w.2≤ys.length) (hb : find hp n = some (.dat es (ys.map enc))) : Yf ⟨sl,hp,nx⟩ (.hs n es w.1 w.2) = some (((ys.drop w.1).take w.2).map enc):=by
  simp only [Yf,AS.blk,hb]
  rw [if_pos ⟨by simpa using hw,trivial⟩,List.map_take,List.map_drop]
theorem Uv {k k' : IntKind} {a b : Int} {r : List V} : minI false (.d (.int k a)) (.d (.int k' b)::r) = minI false (.d (.int k (min a b))) r:=by
  simp only [minI]
  congr 3
  simp only [cond_false]
  split <;> omega
theorem U6 {k k' : IntKind} {a b : Int} {r : List V} : minI true (.d (.int k a)) (.d (.int k' b)::r) = minI true (.d (.int k (max a b))) r:=by
  simp only [minI]
  congr 3
  simp only [cond_true]
  split <;> omega
theorem Uy {xs : Array Operand} {ats : Array TypeId} {vs : List V} {k : IntKind} {a : Int} {r : Int} (hg : Qi ops ⟨sl,hp,nx⟩ ⟨some t,.call {callee:=.builtin .min,args:=xs,argTypes:=ats},ty,pos,af,g⟩ = some true) (hx : evL (AS.ev ⟨sl,hp,nx⟩) xs.toList = some (.d (.int k a)::vs)) (hr : minI false (.d (.int k a)) vs = some (.d (.int k r)))
    (h : OpsK P T base ops dr l ⟨(t,.d (.int k r))::sl,hp,nx⟩ K) : OpsK P T base ops dr (⟨some t,.call {callee:=.builtin .min,args:=xs,argTypes:=ats},ty,pos,af,g⟩::l) ⟨sl,hp,nx⟩ K:=
  Y6 hg (v:=.d (.int k r)) (st1:=⟨sl,hp,nx⟩) (by simp [opFn,hx,Kt,hr]) h (Zq rfl)
theorem U8 {xs : Array Operand} {ats : Array TypeId} {vs : List V} {k : IntKind} {a : Int} {r : Int} (hg : Qi ops ⟨sl,hp,nx⟩ ⟨some t,.call {callee:=.builtin .max,args:=xs,argTypes:=ats},ty,pos,af,g⟩ = some true) (hx : evL (AS.ev ⟨sl,hp,nx⟩) xs.toList = some (.d (.int k a)::vs)) (hr : minI true (.d (.int k a)) vs = some (.d (.int k r)))
    (h : OpsK P T base ops dr l ⟨(t,.d (.int k r))::sl,hp,nx⟩ K) : OpsK P T base ops dr (⟨some t,.call {callee:=.builtin .max,args:=xs,argTypes:=ats},ty,pos,af,g⟩::l) ⟨sl,hp,nx⟩ K:=
  Y6 hg (v:=.d (.int k r)) (st1:=⟨sl,hp,nx⟩) (by simp [opFn,hx,Kt,hr]) h (Zq rfl)
theorem qar {c : Call} {f : FuncId} {ds : List DV} {r : DV} (vs : List V) (hpu : Pure P T f ds r) (hg : Qi ops ⟨sl,hp,nx⟩ ⟨some t,.call c,ty,pos,af,g⟩ = some true) (hc : callee ⟨sl,hp,nx⟩ c = some (f,vs)) (hd : Ke hp vs = some ds)
    (hs : (vs.all V.isD = true∨r.scalar = true)) (h : OpsK P T base ops dr l ⟨(t,.d r)::sl,hp,nx⟩ K) (hF : okF dr l.length (fpC vs) = true:=by rfl) : OpsK P T base ops dr (⟨some t,.call c,ty,pos,af,g⟩::l) ⟨sl,hp,nx⟩ K:=
  qin hg rfl hc hd hs hpu h hF
theorem q1a {hp : List (Nat × Blk)} {v : V} {d : DV} {vs : List V} {ds : List DV} (h : toD hp 8 v = some d) (h2 : Ke hp vs = some ds) : Ke hp (v::vs) = some (d::ds):=by
  simp [Ke,h,h2]
theorem Za {α : Type} {k n es len : Nat} {ys : List α} {enc : α→List DV} (hlen : len = ys.length) (hb : find hp n = some (.dat es (ys.map enc))) : toD hp (k + 1) (.hs n es 0 len) = some (.sl es (ys.map enc)):=by
  subst hlen
  simp only [toD,hb]
  rw [if_pos qd,List.drop_zero,List.take_of_length_le qd]
theorem q9o {k : Nat} {vs : List V} {ds : List DV} (h : Yv (toD hp k) vs = some ds) : toD hp (k + 1) (.tup vs) = some (.tup ds):=by simp [toD,h]
theorem ql6 {k : Nat} {vs : List V} {ds : List DV} (h : Yv (toD hp k) vs = some ds) : toD hp (k + 1) (.agg vs) = some (.agg ds):=by simp [toD,h]
theorem Y2 {k : Nat} {v : V} {d : DV} {vs : List V} {ds : List DV} (h : toD hp k v = some d) (h2 : Yv (toD hp k) vs = some ds) : Yv (toD hp k) (v::vs) = some (d::ds):=by simp [Yv,h,h2]
inductive DLeL : List DV→List DV→Prop
  | nil : DLeL [] []
  | cons {x y : DV} {xs ys : List DV} : DLe x y→DLeL xs ys→DLeL (x::xs) (y::ys)
theorem DLeL.len {xs ys : List DV} (h : DLeL xs ys) : xs.length = ys.length:=by
  induction h with
  | nil=>rfl
  | cons _ _ ih=>simp [ih]
theorem DLeL.get {xs ys : List DV} (h : DLeL xs ys) : ∀ (i : Nat) (x y : DV),xs[i]? = some x→ys[i]? = some y→DLe x y:=by
  induction h with
  | nil=>intro i x y h;simp at h
  | cons h1 _ ih=>
    intro i x y hx hy
    cases i with
    | zero=>simp at hx hy;subst hx hy;exact h1
    | succ i=>exact ih i x y (by simpa using hx) (by simpa using hy)
theorem Kz {xs ys : List DV} (h : DLeL xs ys) : DLe (.tup xs) (.tup ys):=.tup h.len h.get
theorem qgg {xs ys : List DV} (h : DLeL xs ys) : DLe (.agg xs) (.agg ys):=.agg h.len h.get
theorem finD {ex : Ex} {st : AS} {rs : List ResultVar} {v : V} {r r' : DV} (hx : ex = .nor∨ex = .ret) (hv : resV T st rs = some v) (ht : toD st.hp 8 v = some r') (he : DLe r' r) : (ex = .nor∨ex = .ret)∧∃ v r',resV T st rs = some v∧toD st.hp 8 v = some r'∧DLe r' r:=
  ⟨hx,v,r',hv,ht,he⟩
end
theorem qlj {α : Type} {st : AS} {ρ : Nat→Nat} {fz ph : List Nat} {nx n es len : Nat} {ys : List α} {enc : α→List DV} (hl : len = ys.length) (hb : st.blk n = some (.dat es (ys.map enc))) (hn : n∈fz) : Wv st ρ fz ph nx (.hs n es 0 len) (.d (.sl es (ys.map enc))):=by
  subst hl
  exact .frz hb hn qd (by rw [List.drop_zero,List.take_of_length_le qd]) rfl
theorem Qx {st : AS} {ρ : Nat→Nat} {fz ph : List Nat} {nx n m es o l l' : Nat} (hl : l = l') (h1 : ρ m = n) (h2 : m ∉ ph) (h3 : m < nx) : Wv st ρ fz ph nx (.hs n es o l) (.hs m es o l'):=hl ▸ .hs h1 h2 h3
inductive WvC (st : AS) (ρ : Nat→Nat) (fz ph : List Nat) (nx : Nat) : List V→List V→Prop
  | nil : WvC st ρ fz ph nx [] []
  | cons {c d : V} {cs ds : List V} : Wv st ρ fz ph nx c d→Kb d = true→WvC st ρ fz ph nx cs ds→WvC st ρ fz ph nx (c::cs) (d::ds)
theorem WvC.len {st : AS} {ρ : Nat→Nat} {fz ph : List Nat} {nx : Nat} {cs ds : List V} (h : WvC st ρ fz ph nx cs ds) : cs.length = ds.length:=by
  induction h with
  | nil=>rfl
  | cons _ _ _ ih=>simp [ih]
theorem WvC.get {st : AS} {ρ : Nat→Nat} {fz ph : List Nat} {nx : Nat} {cs ds : List V} (h : WvC st ρ fz ph nx cs ds) : ∀ (j : Nat) (c d : V),cs[j]? = some c→ds[j]? = some d→Wv st ρ fz ph nx c d∧Kb d = true:=by
  induction h with
  | nil=>intro i x y h;simp at h
  | cons h1 h2 _ ih=>
    intro i x y hx hy
    cases i with
    | zero=>simp at hx hy;subst hx hy;exact ⟨h1,h2⟩
    | succ i=>exact ih i x y (by simpa using hx) (by simpa using hy)
theorem Uc {st : AS} {ρ : Nat→Nat} {fz ph : List Nat} {nx es : Nat} {cs ds : List V} (h : WvC st ρ fz ph nx cs ds) : Wb st ρ fz ph nx (.cel es [cs]) (.cel es [ds]):=by
  refine .cel rfl fun i x y hx hy=>?_
  cases i with
  | zero=>simp at hx hy;subst hx hy;exact ⟨h.len,h.get⟩
  | succ i=>simp at hx
theorem qf0 {st : AS} {ρ : Nat→Nat} {fz ph : List Nat} {nx es : Nat} {cs : List DV} {ds : List V} (h : WvC st ρ fz ph nx (cs.map .d) ds) : Wb st ρ fz ph nx (.dat es [cs]) (.cel es [ds]):=by
  refine .datcel rfl fun i x y hx hy=>?_
  cases i with
  | zero=>
    simp at hx hy;subst hx hy
    exact ⟨by simpa using h.len,fun j c d hc hd=>h.get j (.d c) d (by simp [hc]) hd⟩
  | succ i=>simp at hx
inductive WvL (st : AS) (ρ : Nat→Nat) (fz ph : List Nat) (nx : Nat) : List V→List V→Prop
  | nil : WvL st ρ fz ph nx [] []
  | cons {c d : V} {cs ds : List V} : Wv st ρ fz ph nx c d→WvL st ρ fz ph nx cs ds→WvL st ρ fz ph nx (c::cs) (d::ds)
theorem WvL.len {st : AS} {ρ : Nat→Nat} {fz ph : List Nat} {nx : Nat} {cs ds : List V} (h : WvL st ρ fz ph nx cs ds) : cs.length = ds.length:=by
  induction h with
  | nil=>rfl
  | cons _ _ ih=>simp [ih]
theorem WvL.get {st : AS} {ρ : Nat→Nat} {fz ph : List Nat} {nx : Nat} {cs ds : List V} (h : WvL st ρ fz ph nx cs ds) : ∀ (j : Nat) (c d : V),cs[j]? = some c→ds[j]? = some d→Wv st ρ fz ph nx c d:=by
  induction h with
  | nil=>intro i x y h;simp at h
  | cons h1 _ ih=>
    intro i x y hx hy
    cases i with
    | zero=>simp at hx hy;subst hx hy;exact h1
    | succ i=>exact ih i x y (by simpa using hx) (by simpa using hy)
theorem q3z {st : AS} {ρ : Nat→Nat} {fz ph : List Nat} {nx : Nat} {f : FuncId} {cs ds : List V} (h : WvL st ρ fz ph nx cs ds) : Wv st ρ fz ph nx (.fn f cs) (.fn f ds):=.fn h.len h.get
theorem qf3 {st : AS} {ρ : Nat→Nat} {fz ph : List Nat} {nx : Nat} {cs ds : List V} (h : WvL st ρ fz ph nx cs ds) : Wv st ρ fz ph nx (.tup cs) (.tup ds):=.tup h.len h.get
theorem qz9 {st : AS} {ρ : Nat→Nat} {fz ph : List Nat} {nx : Nat} {cs : List DV} {ds : List V} (h : WvL st ρ fz ph nx (cs.map .d) ds) : Wv st ρ fz ph nx (.d (.tup cs)) (.tup ds):=
  .dtup (by have:=h.len;simpa using this) fun i c d hc hd=>h.get i _ d (by simp [hc]) hd
theorem qz8 {st : AS} {ρ : Nat→Nat} {fz ph : List Nat} {nx : Nat} {cs : List DV} {ds : List V} (h : WvL st ρ fz ph nx (cs.map .d) ds) : Wv st ρ fz ph nx (.d (.agg cs)) (.agg ds):=
  .dagg (by have:=h.len;simpa using this) fun i c d hc hd=>h.get i _ d (by simp [hc]) hd
theorem qbx {st : AS} {ρ : Nat→Nat} {fz ph : List Nat} {nx : Nat} {cs ds : List V} (h : WvL st ρ fz ph nx cs ds) : Wv st ρ fz ph nx (.agg cs) (.agg ds):=.agg h.len h.get
theorem qgw {P : Program} {T : Tab} {f : FuncId} {ds ds' : List DV} (hl : DLeL ds' ds) {vs : List V} {hp hp' : List (Nat × Blk)} {nx nx' : Nat} {v : V} : K0 P T f vs hp nx v hp' nx'→vs = ds.map .d→hp = []→nx = 0→K0 P T f (ds'.map .d) [] 0 v hp' nx'
  | .wk e w,hv,hh,hn=>by
    have h:=qgw hl e hv hh hn
    subst hh hn
    exact .wk h w
  | .mk h1 h2 h3 h4 h5 h6 h7 h8,hv,hh,hn=>by
    subst hv hh hn
    refine .mk h1 h2 h3 h4 (by simpa [hl.len] using h5) (.wk (ρ:=fun n=>n) (fz:=[]) (ph:=[]) ⟨?_,?_,?_,?_,?_,?_,?_,?_⟩ h6) h7 h8
    · intro t v' hv
      simp only [AS.get,qa2] at hv ⊢
      simp only [Nat.zero_le,if_true,Nat.sub_zero,List.getElem?_map,Option.map_eq_some_iff] at hv ⊢
      obtain ⟨y,hy,rfl⟩:=hv
      obtain ⟨x,hx⟩:=Yt (xs:=ds') (i:=t) (by rw [hl.len];exact K4 hy)
      exact ⟨_,⟨x,hx,rfl⟩,.d (hl.get t x y hx hy)⟩
    · intro n b h;simp [AS.blk,find] at h
    · intro n m b c h;simp [AS.blk,find] at h
    · intro n b h;simp [AS.blk,find] at h
    · intro n h;rfl
    · exact Nat.le_refl _
    · intro n h;cases h
    · intro n h;cases h
theorem q7q {P : Program} {T : Tab} {f : FuncId} {ds ds' : List DV} {r : DV} (hl : DLeL ds' ds) (h : Pure P T f ds r) : Pure P T f ds' r:=by
  obtain ⟨v,hp,nx,r',e,ht,hle⟩:=h
  exact ⟨v,hp,nx,r',qgw hl e rfl rfl rfl,ht,hle⟩
end Go.Am
namespace Go.Sh
open Go Go.Am
theorem Qj {α : Type} {xs : List α} {k : Nat} (h : k < xs.length) : idx xs (k : Int) = some xs[k]:=by simp [idx,h]
theorem U4 {α : Type} {xs : List α} {i : Int} {k : Nat} (hi : i = k) (h : k < xs.length) : idx xs i = some xs[k]:=by subst hi;exact Qj h
theorem Kr {α : Type} {c : Nat} {xs ys : List α} (h : (xs.length + ys.length) * (c * 4)≤4294967296) : app c xs ys = some (xs ++ ys):=by simp [app,h]
theorem qna {α : Type} {c : Bool} {a b : α} : (cond c (some a) (some b)) = some (cond c a b):=by cases c <;> rfl
theorem J9 {α β σ : Type} {f : α→Option (α ⊕ β)} (mk : Nat→σ→α) (n : Nat) (I : Nat→σ→Prop) (Q : β→Prop)
    (step : ∀ k c,k < n→I k c→(∃ c',f (mk k c) = some (.inl (mk (k + 1) c'))∧I (k + 1) c')∨∃ b,f (mk k c) = some (.inr b)∧Q b)
    (done : ∀ c,I n c→∃ b,f (mk n c) = some (.inr b)∧Q b) {k0 : Nat} {c0 : σ} (hk : k0≤n) (h0 : I k0 c0) : ∃ b,loop f (mk k0 c0) = some b∧Q b:=by
  have key : ∀ m k c,n - k = m→k≤n→I k c→∃ b,loop f (mk k c) = some b∧Q b:=by
    intro m
    induction m with
    | zero=>
      intro k c hm hk hi
      obtain rfl : k = n:=by omega
      obtain ⟨b,h1,h2⟩:=done c hi
      exact ⟨b,Kc h1,h2⟩
    | succ m ih=>
      intro k c hm hk hi
      rcases step k c q6 hi with ⟨c',h1,h2⟩ | ⟨b,h1,h2⟩
      · rw [Ko h1];exact ih (k + 1) c' q6 q6 h2
      · exact ⟨b,Kc h1,h2⟩
  exact key _ k0 c0 rfl hk h0
def I64 (x : Int) : Prop:=-9223372036854775808≤x∧x≤9223372036854775807
end Go.Sh
namespace Go.Am
open Go
theorem qzo {k : IntKind} {d : DV} (h : Ty (.int k) d) : ∃ n : Int,d = .int k n∧(Lit.int k n).wf = true:=by
  cases h with | int hw=>exact ⟨_,rfl,hw⟩
def q19 (l : List CT) (x : List DV) : Prop:=x.length = l.length∧∀ (j : Nat) (c : CT) (d : DV),l[j]? = some c→x[j]? = some d→Ty c d
theorem qzl {x : List DV} (h : q19 [] x) : x = []:=List.length_eq_zero_iff.1 h.1
theorem qzk {c : CT} {l : List CT} {x : List DV} (h : q19 (c::l) x) : ∃ d r,x = d::r∧Ty c d∧q19 l r:=by
  obtain ⟨h1,h2⟩:=h
  cases x with
  | nil=>simp at h1
  | cons d r=>exact ⟨d,r,rfl,h2 0 c d rfl rfl,by simpa using h1,fun j c' d' hc hd=>h2 (j + 1) c' d' (by simpa using hc) (by simpa using hd)⟩
theorem qzp {α : Type} {l : List CT} {enc : α→List DV} {wf : α→Prop} (row : ∀ x,q19 l x→∃ a,x = enc a∧wf a) {d : DV} (h : Ty (.sl l) d) : ∃ xs : List α,DLe d (.sl l.length (xs.map enc))∧(∀ x∈xs,wf x)∧xs.length≤maxLen:=by
  cases h with
  | nil=>exact ⟨[],.nil _,qd,qd⟩
  | @sl _ xs hl h1 h2=>
    have key : ∀ ys : List (List DV),(∀ y∈ys,q19 l y)→∃ zs : List α,ys = zs.map enc∧∀ z∈zs,wf z:=by
      intro ys
      induction ys with
      | nil=>intro _;exact ⟨[],rfl,qd⟩
      | cons y ys ih=>
        intro hy
        obtain ⟨a,rfl,ha⟩:=row y (hy y qd)
        obtain ⟨zs,rfl,hz⟩:=ih fun z hz=>hy z (by simp [hz])
        exact ⟨a::zs,rfl,by simpa using ⟨ha,hz⟩⟩
    obtain ⟨zs,rfl,hz⟩:=key xs fun y hy=>by
      obtain ⟨i,hi⟩:=List.getElem?_of_mem hy
      exact ⟨h1 i y hi,fun j c d hc hd=>h2 i y j c d hi hc hd⟩
    exact ⟨zs,.refl _,hz,by simpa using hl⟩
theorem qnl {α : Type} {es : Nat} {enc : α→List DV} {xs : List (List DV)} {zs : List α} (hl : xs.length = zs.length) (h : ∀ (i : Nat) (x : List DV) (z : α),xs[i]? = some x→zs[i]? = some z→DLeL x (enc z)) : DLe (.sl es xs) (.sl es (zs.map enc)):=by
  have key : ∀ (i : Nat) (x y : List DV),xs[i]? = some x→(zs.map enc)[i]? = some y→DLeL x y:=fun i x y hx hy=>by
    rw [List.getElem?_map,Option.map_eq_some_iff] at hy
    obtain ⟨z,hz,rfl⟩:=hy
    exact h i x z hx hz
  exact .sl (by simpa using hl) (fun i x y hx hy=>(key i x y hx hy).len) fun i x y j c d hx hy hc hd=>(key i x y hx hy).get j c d hc hd
theorem qzq {α : Type} {l : List CT} {enc : α→List DV} {wf : α→Prop} (row : ∀ x,q19 l x→∃ a,DLeL x (enc a)∧wf a) {d : DV} (h : Ty (.sl l) d) : ∃ xs : List α,DLe d (.sl l.length (xs.map enc))∧(∀ x∈xs,wf x)∧xs.length≤maxLen:=by
  cases h with
  | nil=>exact ⟨[],.nil _,qd,qd⟩
  | @sl _ xs hl h1 h2=>
    have key : ∀ ys : List (List DV),(∀ y∈ys,q19 l y)→∃ zs : List α,ys.length = zs.length∧(∀ (i : Nat) (x : List DV) (z : α),ys[i]? = some x→zs[i]? = some z→DLeL x (enc z))∧∀ z∈zs,wf z:=by
      intro ys
      induction ys with
      | nil=>intro _;exact ⟨[],rfl,qd,qd⟩
      | cons y ys ih=>
        intro hy
        obtain ⟨a,ha,hw⟩:=row y (hy y qd)
        obtain ⟨zs,hzl,hz,hzw⟩:=ih fun z hz=>hy z (by simp [hz])
        refine ⟨a::zs,by simp [hzl],fun i x z hx hz'=>?_,by simpa using ⟨hw,hzw⟩⟩
        cases i with
        | zero=>simp only [List.getElem?_cons_zero,Option.some.injEq] at hx hz';subst hx hz';exact ha
        | succ i=>exact hz i x z (by simpa using hx) (by simpa using hz')
    obtain ⟨zs,hzl,hz,hzw⟩:=key xs fun y hy=>by
      obtain ⟨i,hi⟩:=List.getElem?_of_mem hy
      exact ⟨h1 i y hi,fun j c d hc hd=>h2 i y j c d hi hc hd⟩
    exact ⟨zs,qnl hzl hz,hzw,q6⟩
theorem qzr {n : Int} (h : (Lit.int .i64 n).wf = true) : -9223372036854775808≤n∧n≤9223372036854775807:=by
  simp [Lit.wf,IntKind.min,IntKind.max,IntKind.signed,IntKind.bits] at h
  omega
theorem qzg {xs : List DV} (h : Zx [] xs) : xs = []:=by cases h;rfl
theorem qzh {c : CT} {ps : List (Bool × List CT)} {xs : List DV} (h : Zx ((false,[c])::ps) xs) : ∃ d r,xs = d::r∧Ty c d∧Zx ps r:=by
  cases h with | one h1 h2=>exact ⟨_,_,rfl,h1,h2⟩
theorem qzf {l : List CT} {ps : List (Bool × List CT)} {xs : List DV} (h : Zx ((true,l)::ps) xs) : ∃ x r,xs = .agg x::r∧q19 l x∧Zx ps r:=by
  cases h with | agg h1 h2 h3=>exact ⟨_,_,rfl,⟨h1,h2⟩,h3⟩
end Go.Am
namespace Go.Am
open Go
theorem RunK.toEv {P : Program} {T : Tab} {base : Nat} {c : Code} {st : AS} {K : Ex→AS→Prop} (h : RunK P T base [c] st K) : ∃ ex st',Km P T base c st ex st'∧K ex st':=q43 h
section
variable {P : Program} {T : Tab} {base : Nat} {ops : Array Oper} {l : List Oper} {sl : List (Nat × V)} {hp : List (Nat × Blk)} {nx : Nat} {K : AS→Prop} {ty : TypeId} {pos : String} {af : Array Edge} {dst : Option Tmp} {g : Option (Nat × Bool)}
theorem qap {β : Type} {c : Call} {f : FuncId} {fn : Func} {cd : Code} (vs : List V) (E : β→Prop) (S : β→AS) (hg : Qi ops ⟨sl,hp,nx⟩ ⟨dst,.call c,ty,pos,af,g⟩ = some true) (hc : callee ⟨sl,hp,nx⟩ c = some (f,vs))
    (hf : P.funcs[f]? = some fn) (hb : fn.body = some cd) (hname : (fn.name == "runtime.NumGoroutine") = false) (hok : codeOk fn.ntmps cd = true) (hl : Nat.ble vs.length fn.ntmps = true)
    (h : RunK P T nx [cd] ⟨Ks 0 vs,hp,nx⟩ (fun ex st'=>(ex = .nor∨ex = .ret)∧∃ v,resV T st' fn.results.toList = some v∧∃ b,E b∧WkE base ((⟨sl,st'.hp,st'.nx⟩ : AS).putD dst v) (S b)))
    (hr : ∀ b,E b→OpsK P T base ops none l (S b) K) : OpsK P T base ops none (⟨dst,.call c,ty,pos,af,g⟩::l) ⟨sl,hp,nx⟩ K:=by
  obtain ⟨ex,st',e,hx,v,hv,b,hb',hw⟩:=h.toEv
  obtain ⟨st2,e2,k2⟩:=hr b hb'
  obtain ⟨ρ,fz,ph,w⟩:=hw
  exact ⟨st2,.callS hg rfl hc (.mk hf hb hname hok (by simpa using hl) e hx hv) (.wk w e2),k2⟩
theorem qas {β : Type} {c : Call} {gf : Operand} {n : Nat} {vs : List V} {s : List (Nat × V)} {ps : List Tmp} {assign body A B : Code} (E : β→Prop) (S : β→AS) (hA : assign = A) (hB : body = B) (hg : Qi ops ⟨sl,hp,nx⟩ ⟨dst,.call c,ty,pos,af,g⟩ = some true)
    (hcal : c.callee = .value gf) (hev : AS.ev ⟨sl,hp,nx⟩ gf = some (.yld n)) (hvs : evL (AS.ev ⟨sl,hp,nx⟩) c.args.toList = some vs) (hb : find hp n = some (.loop s ps A B .ready none)) (hl : ps.length = vs.length)
    (h : RunK P T nx [assign] ⟨q11 s ps vs,hp,nx⟩ (fun ex st1=>ex = .nor∧∃ s1,find st1.hp n = some (.loop s1 ps A B .ready none)∧
      RunK P T nx [body] (st1.setBlk n (.loop s1 ps A B .busy none)) (fun ex st2=>∃ s2,find st2.hp n = some (.loop s2 ps A B .busy none)∧match ex with
        | .nor=>∃ b,E b∧WkE base ((⟨sl,repl st2.hp n (.loop s2 ps A B .ready none),st2.nx⟩ : AS).putD dst (.d (.bool true))) (S b)
        | ex=>OpsK P T base ops none l ((⟨sl,repl st2.hp n (.loop s2 ps A B .done ex.code),st2.nx⟩ : AS).putD dst (.d (.bool false))) K)))
    (hr : ∀ b,E b→OpsK P T base ops none l (S b) K) : OpsK P T base ops none (⟨dst,.call c,ty,pos,af,g⟩::l) ⟨sl,hp,nx⟩ K:=by
  subst hA hB
  obtain ⟨ex1,st1,e1,rfl,s1,hb1,hrun⟩:=h.toEv
  obtain ⟨ex,st2,e2,s2,hb2,hk⟩:=hrun.toEv
  have key : ∀ st3,Kd P T base ops none l ((⟨sl,repl st2.hp n (.loop s2 ps assign body (if ex = .nor then .ready else .done) ex.code),st2.nx⟩ : AS).putD dst (.d (.bool (decide (ex = .nor))))) st3→Kd P T base ops none (⟨dst,.call c,ty,pos,af,g⟩::l) ⟨sl,hp,nx⟩ st3:=
    fun st3 h3=>.callY hg rfl hcal hev hvs hb hl e1 hb1 e2 hb2 h3
  cases ex with
  | nor=>
    obtain ⟨b,hb',ρ,fz,ph,w⟩:=hk
    obtain ⟨st3,e3,k3⟩:=hr b hb'
    exact ⟨st3,key st3 (.wk w e3),k3⟩
  | exit i=>
    obtain ⟨st3,e3,k3⟩:=hk
    exact ⟨st3,key st3 e3,k3⟩
  | ret=>
    obtain ⟨st3,e3,k3⟩:=hk
    exact ⟨st3,key st3 e3,k3⟩
end
section
variable {P : Program} {T : Tab} {base : Nat} {cs : List Code} {sl : List (Nat × V)} {hp : List (Nat × Blk)} {nx : Nat} {K : Ex→AS→Prop}
def qc5 (P : Program) (T : Tab) (base : Nat) (cs : List Code) (K : Ex→AS→Prop) : Ex→AS→Prop:=q9p (fun st'=>RunK P T base cs st' K) K
theorem qb8 {gf : Operand} {ps : Array Tmp} {assign body : Code} {f : FuncId} {fn : Func} {cd : Code} (caps : List V)
    (hg : AS.ev ⟨sl,hp,nx⟩ gf = some (.fn f caps)∨∃ ds,AS.ev ⟨sl,hp,nx⟩ gf = some (.d (.fn f ds))∧caps = ds.map .d)
    (hf : P.funcs[f]? = some fn) (hb : fn.body = some cd) (hname : (fn.name == "runtime.NumGoroutine") = false) (hok : codeOk fn.ntmps cd = true) (hl : Nat.ble (caps.length + 1) fn.ntmps = true)
    (h : ∀ A B,assign = A→body = B→RunK P T (nx + 1) [cd] ⟨Ks 0 (.yld nx::caps),(nx,.loop sl ps.toList A B .ready none)::hp,nx + 1⟩ (fun exF stF=>(exF = .nor∨exF = .ret)∧∃ v,resV T stF fn.results.toList = some v∧
      ∃ (s : List (Nat × V)) (ls : LoopState) (ex : Ex),find stF.hp nx = some (.loop s ps.toList A B ls ex.code)∧ls≠.busy∧qc5 P T base cs K ex ⟨sl,repl stF.hp nx .dead,stF.nx⟩)) :
    RunK P T base (.rangeFunc gf ps assign body::cs) ⟨sl,hp,nx⟩ K:=by
  obtain ⟨exF,stF,e,hx,v,hv,s,ls,ex,h1,h2,h3⟩:=(h assign body rfl rfl).toEv
  exact ⟨ex,_,.rangeF (pe:=ex.code) hg (.mk hf hb hname hok (by simpa using hl) e hx hv) h1 h2 rfl,h3⟩
theorem qa0 {st : AS} (h : RunK P T base cs st K) : qc5 P T base cs K .nor st:=h
theorem qfa {st : AS} (h : K .ret st) : qc5 P T base cs K .ret st:=h
end
inductive WvS (st : AS) (ρ : Nat→Nat) (fz ph : List Nat) (nx : Nat) : List (Nat × V)→List (Nat × V)→Prop
  | nil {s : List (Nat × V)} : WvS st ρ fz ph nx s []
  | cons {s s' : List (Nat × V)} {t : Nat} {v v' : V} : find s t = some v→Wv st ρ fz ph nx v v'→WvS st ρ fz ph nx s s'→WvS st ρ fz ph nx s ((t,v')::s')
theorem qz3 {st : AS} {ρ : Nat→Nat} {fz ph : List Nat} {nx : Nat} {s s' : List (Nat × V)} {ps : List Tmp} {as bo : Code} {dn : LoopState} {pe : Option Code} (h : WvS st ρ fz ph nx s s') : Wb st ρ fz ph nx (.loop s ps as bo dn pe) (.loop s' ps as bo dn pe):=by
  refine .loop fun t v' hv=>?_
  induction h with
  | nil=>simp [find] at hv
  | @cons s' t' v v'' h1 h2 _ ih=>
    simp only [find] at hv
    cases hb : Nat.beq t' t with
    | true=>rw [hb] at hv;cases hv;obtain rfl:=Nat.eq_of_beq_eq_true hb;exact ⟨v,h1,h2⟩
    | false=>rw [hb] at hv;exact ih hv
theorem qky {α : Type} {enc : α→List DV} {es : Nat} (hes : ∀ x,(enc x).length = es) {xs : List α} {k : Nat} {v : α} (h : xs[k]? = some v) : sub (xs.flatMap enc) (k * es) es = some (enc v):=by
  induction xs generalizing k with
  | nil=>simp at h
  | cons x xs ih=>
    cases k with
    | zero=>
      simp at h;subst h
      have:=hes x
      simp [sub,List.flatMap_cons,this]
    | succ k=>
      have h' : xs[k]? = some v:=by simpa using h
      have:=ih h'
      unfold sub at this ⊢
      have hx:=hes x
      have hk : (k + 1) * es = (enc x).length + k * es:=by rw [Nat.succ_mul,hx];omega
      rw [List.flatMap_cons,hk]
      split at this
      · rename_i hle
        rw [if_pos (by rw [List.length_append];omega),← List.drop_drop,List.drop_left]
        exact this
      · cases this
theorem qy4 {α : Type} {enc : α→List DV} {es : Nat} (hes : ∀ x,(enc x).length = es) {xs : List α} {k : Nat} {v : α} (h : k < xs.length) : splice (xs.flatMap enc) (k * es) (enc v) = (xs.set k v).flatMap enc:=by
  induction xs generalizing k with
  | nil=>simp at h
  | cons x xs ih=>
    have hx:=hes x
    have hv:=hes v
    cases k with
    | zero=>
      simp only [splice,Nat.zero_mul,List.take_zero,List.nil_append,Nat.zero_add,List.flatMap_cons,List.set_cons_zero]
      rw [hv,← hx,List.drop_left]
    | succ k=>
      have:=ih (k:=k) (by simpa using h)
      simp only [splice] at this ⊢
      have hk : (k + 1) * es = (enc x).length + k * es:=by rw [Nat.succ_mul,hx];omega
      rw [List.flatMap_cons,List.set_cons_succ,List.flatMap_cons,hk,← this]
      rw [List.take_length_add_append,show (enc x).length + k * es + (enc v).length = (enc x).length + (k * es + (enc v).length) by omega,← List.drop_drop,List.drop_left]
      simp [List.append_assoc]
theorem qo6 {α : Type} {enc : α→List DV} {es : Nat} (hes : ∀ x,(enc x).length = es) (xs : List α) : (xs.flatMap enc).length = xs.length * es:=by
  induction xs with
  | nil=>simp
  | cons x xs ih=>rw [List.flatMap_cons,List.length_append,hes,ih,List.length_cons,Nat.succ_mul];omega
def idxA {α : Type} (n : Nat) (xs : List α) (i : Int) : Option α:=if 0≤i∧i < n then xs[i.toNat]? else none
def andI (k : IntKind) (x y : Int) : Int:=k.wrap (BitVec.ofInt k.bits x &&& BitVec.ofInt k.bits y).toNat
def xorI (k : IntKind) (x y : Int) : Int:=k.wrap (BitVec.ofInt k.bits x ^^^ BitVec.ofInt k.bits y).toNat
section
variable {P : Program} {T : Tab} {base : Nat} {ops : Array Oper} {dr : Dr} {l : List Oper} {sl : List (Nat × V)} {hp : List (Nat × Blk)} {nx : Nat} {K : AS→Prop} {ty : TypeId} {pos : String} {af : Array Edge} {t : Tmp} {g : Option (Nat × Bool)}
theorem qyf {α β : Type} (f : α→β) (cs : List α) (j n : Nat) : sub (cs.map f) j n = (sub cs j n).map (·.map f):=by
  unfold sub
  simp only [List.length_map]
  split
  · simp [List.map_take,List.map_drop]
  · rfl
theorem qah {α : Type} {n : Nat} {xs : List α} {i : Int} {v : α} (h : idxA n xs i = some v) : 0≤i∧i < n∧xs[i.toNat]? = some v:=by
  unfold idxA at h
  split at h
  · rename_i h0;exact ⟨h0.1,h0.2,h⟩
  · cases h
theorem qq5 {α : Type} {x y : Operand} {xt : TypeId} {i : TI} {k : IntKind} {n : Int} {enc : α→List DV} {v : α} (xs : List α) (w : V) (hv : idxA i.len xs n = some v) (hes : ∀ x,(enc x).length = i.esize) (hg : Qi ops ⟨sl,hp,nx⟩ ⟨some t,.index xt x y,ty,pos,af,g⟩ = some true) (hT : T xt = some i)
    (hx : AS.ev ⟨sl,hp,nx⟩ x = some (.d (.agg (xs.flatMap enc)))) (hy : AS.ev ⟨sl,hp,nx⟩ y = some (.d (.int k n))) (hk : i.kind = .array) (hw : pack i.eagg ((enc v).map .d) = some w)
    (h : OpsK P T base ops dr l ⟨(t,w)::sl,hp,nx⟩ K) : OpsK P T base ops dr (⟨some t,.index xt x y,ty,pos,af,g⟩::l) ⟨sl,hp,nx⟩ K:=by
  obtain ⟨h0,h1,h2⟩:=qah hv
  refine Y6 hg (v:=w) (st1:=⟨sl,hp,nx⟩) ?_ h (Zq rfl)
  simp only [opFn,hT,hx,hy,hk,agD]
  rw [if_pos ⟨h0,h1⟩,qyf,qky hes h2]
  simp only [Option.map_some,hw]
theorem qaq {α : Type} {x y : Operand} {xt : TypeId} {i : TI} {k : IntKind} {n : Int} {m es : Nat} {v : α} {xs : List α} (hv : idxA i.len xs n = some v) (hg : Qi ops ⟨sl,hp,nx⟩ ⟨some t,.indexAddr xt x y,ty,pos,af,g⟩ = some true) (hT : T xt = some i)
    (hx : AS.ev ⟨sl,hp,nx⟩ x = some (.ref m es 0 0)) (hy : AS.ev ⟨sl,hp,nx⟩ y = some (.d (.int k n))) (hk : i.kind = .array)
    (h : OpsK P T base ops dr l ⟨(t,.ref m es 0 (n.toNat * i.esize))::sl,hp,nx⟩ K) : OpsK P T base ops dr (⟨some t,.indexAddr xt x y,ty,pos,af,g⟩::l) ⟨sl,hp,nx⟩ K:=by
  obtain ⟨h0,h1,_⟩:=qah hv
  exact Y6 hg (v:=.ref m es 0 (n.toNat * i.esize)) (st1:=⟨sl,hp,nx⟩) (by simp [opFn,hx,hy,hT,q2p,hk,h0,h1]) h (Zq rfl)
theorem qe1 {α : Type} {p : Operand} {xt : TypeId} {i : TI} {m es sz ln : Nat} {n : Int} {xs : List α} {enc : α→List DV} {v : α} (w : V) (hv : idxA ln xs n = some v) (hes : ∀ x,(enc x).length = sz) (hg : Qi ops ⟨sl,hp,nx⟩ ⟨some t,.load xt p,ty,pos,af,g⟩ = some true) (hT : T xt = some i)
    (hx : AS.ev ⟨sl,hp,nx⟩ p = some (.ref m es 0 (n.toNat * sz))) (hb : find hp m = some (.dat es [xs.flatMap enc])) (hs : sz = i.size) (hw : (Uz i.agg (enc v)).map .d = some w)
    (h : OpsK P T base ops dr l ⟨(t,w)::sl,hp,nx⟩ K) (hF : okF dr l.length (fp ⟨sl,hp,nx⟩ (.load xt p)) = true:=by rfl) : OpsK P T base ops dr (⟨some t,.load xt p,ty,pos,af,g⟩::l) ⟨sl,hp,nx⟩ K:=
  qip hg hT hx hb rfl (by rw [← hs];exact qky hes (qah hv).2.2) hw h hF
theorem qqe {α : Type} {p x : Operand} {xt : TypeId} {i : TI} {m es sz ln : Nat} {n : Int} {xs : List α} {enc : α→List DV} {v : α} (v' : α) {u : V} (hv : idxA ln xs n = some v) (hes : ∀ x,(enc x).length = sz) (hg : Qi ops ⟨sl,hp,nx⟩ ⟨none,.store xt p x,ty,pos,af,g⟩ = some true) (hT : T xt = some i)
    (hp' : AS.ev ⟨sl,hp,nx⟩ p = some (.ref m es 0 (n.toNat * sz))) (hx : AS.ev ⟨sl,hp,nx⟩ x = some u) (hb : find hp m = some (.dat es [xs.flatMap enc])) (hs : sz = i.size) (hc : cellsOf u = (enc v').map .d) (hk : (enc v').all Y5 = true)
    (h : OpsK P T base ops dr l ⟨sl,repl hp m (.dat es [(xs.set n.toNat v').flatMap enc]),nx⟩ K) (hF : okO dr l.length ⟨sl,hp,nx⟩ (.store xt p x) ⟨sl,repl hp m (.dat es [(xs.set n.toNat v').flatMap enc]),nx⟩ = true:=by rfl) : OpsK P T base ops dr (⟨none,.store xt p x,ty,pos,af,g⟩::l) ⟨sl,hp,nx⟩ K:=by
  have hlt:=K4 (qah hv).2.2
  refine Y6 hg (v:=.dead) (st1:=⟨sl,repl hp m (.dat es [(xs.set n.toNat v').flatMap enc]),nx⟩) ?_ h hF
  have hall : (cellsOf u).all Kb = true:=by rw [hc,List.all_map];exact hk
  have hlen : (cellsOf u).length = i.size:=by rw [hc,List.length_map,hes];exact hs
  have hle : n.toNat * sz + i.size≤(xs.flatMap enc).length:=by
    rw [qo6 hes,← hs,← Nat.succ_mul];exact Nat.mul_le_mul_right _ hlt
  simp only [opFn,hT,hp',hx,Zw,AS.blk,hb,Nat.beq_refl]
  rw [if_neg (by simp [hall,hlen])]
  simp only [List.getElem?_cons_zero]
  rw [if_pos hle,hc,qc6]
  simp only [qy4 hes hlt,AS.setBlk,List.set_cons_zero]
  rfl
theorem qlk {α : Type} {st : AS} {ρ : Nat→Nat} {fz ph : List Nat} {nx n es : Nat} {w : Nat × Nat} {ys : List α} {enc : α→List DV} (hw : w.1 + w.2≤ys.length) (hb : st.blk n = some (.dat es (ys.map enc))) (hn : n∈fz) : Wv st ρ fz ph nx (.hs n es w.1 w.2) (.d (.sl es (((ys.drop w.1).take w.2).map enc))):=
  .frz hb hn (by simpa using hw) (by rw [List.map_take,List.map_drop]) rfl
theorem qlq {hp : List (Nat × Blk)} {vs : List V} {ds C : List DV} (h : Ke hp vs = some ds) : Ke hp (vs ++ C.map .d) = some (ds ++ C):=by
  induction vs generalizing ds with
  | nil=>
    simp [Ke] at h;subst h
    induction C with
    | nil=>rfl
    | cons c C ih=>
      simp only [List.nil_append,List.map_cons] at ih ⊢
      simp only [Ke]
      rw [show toD hp 8 (.d c) = some c from rfl,ih]
  | cons v vs ih=>
    simp only [Ke] at h
    split at h <;> simp at h
    rename_i x l hx hl
    subst h
    simp only [List.cons_append,Ke,hx,ih hl]
theorem qo8 {vs : List V} {C : List DV} : fpC (vs ++ C.map .d) = fpC vs:=by
  unfold fpC
  have : (C.map V.d).all V.isD = true:=by rw [List.all_map];simp [V.isD]
  rw [List.all_append,this,Bool.and_true]
theorem Yd {c : Call} {f : FuncId} {C ds : List DV} {r : DV} (vs : List V) (hpu : Pure P T f (ds ++ C) r) (hg : Qi ops ⟨sl,hp,nx⟩ ⟨some t,.call c,ty,pos,af,g⟩ = some true) (hc : callee ⟨sl,hp,nx⟩ c = some (f,vs ++ C.map .d)) (hd : Ke hp vs = some ds)
    (hs : (vs.all V.isD = true∨r.scalar = true)) (h : OpsK P T base ops dr l ⟨(t,.d r)::sl,hp,nx⟩ K) (hF : okF dr l.length (fpC vs) = true:=by rfl) : OpsK P T base ops dr (⟨some t,.call c,ty,pos,af,g⟩::l) ⟨sl,hp,nx⟩ K:=by
  refine qin hg rfl hc (qlq hd) ?_ hpu h (by rw [qo8];exact hF)
  rcases hs with hs | hs
  · left
    rw [List.all_append,hs,Bool.true_and,List.all_map]
    simp [V.isD]
  · exact .inr hs
end
end Go.Am
namespace Go.Am
open Go
theorem Yh {base : Nat} {st st' : AS} (l : List (Nat × Nat)) (fz ph : List Nat) (hok : wkOk base l fz ph st'.hp st'.nx = true) (hs : WkL st (rho l) fz ph st'.nx st'.sl) (hh : WkH st (rho l) fz ph st'.nx st'.hp) : Wk base (rho l) fz ph st st':=by
  simp only [wkOk,Bool.and_eq_true,Nat.ble_eq,List.all_eq_true] at hok
  obtain ⟨⟨⟨⟨h1,h2⟩,h3⟩,h5⟩,h4⟩:=hok
  refine ⟨?_,?_,?_,?_,?_,h1,?_,?_⟩
  · exact fun t v' h=>hs.get (Zh h)
  · exact fun n b' h=>hh.get (Zh h)
  · intro n m b c hn hm hpn hpm he
    have:=h4 _ (Zh hn)
    simp only [Bool.or_eq_true,Bool.and_eq_true,q4g,List.all_eq_true,Bool.not_eq_true'] at this
    rcases this with h | h
    · exact absurd h hpn
    · have:=h.2 _ (Zh hm)
      rcases this with (h' | h') | h'
      · exact absurd h' hpm
      · rw [he] at h';simp at h'
      · exact Nat.eq_of_beq_eq_true h'
  · intro n b hn hpn hc
    have:=h4 _ (Zh hn)
    simp only [Bool.or_eq_true,Bool.and_eq_true,q4g,Bool.not_eq_true'] at this
    rcases this with h | h
    · exact absurd h hpn
    · rw [q4g.2 hc] at h;exact absurd h.1 qd
  · intro n hn
    unfold rho
    split
    · rename_i m hm
      have:=h2 _ (Zh hm)
      simp at this;omega
    · rfl
  · exact fun n hn=>h3 n hn
  · exact fun n hn=>h5 n hn
def q6w (l l3 : List (Nat × Nat)) (k k' nx nxN : Nat) : Bool:=
  (List.range k).all (fun i=>Nat.blt (rho l i) nx && Nat.beq (rho l3 (rho l i)) i) && (List.range nx).all (fun m=>(Nat.blt (rho l3 m) k && Nat.beq (rho l (rho l3 m)) m) || Nat.ble k' (rho l3 m)) && Nat.ble nx nxN
def OldL (l : List (Nat × Nat)) (k : Nat) (hp hpR : List (Nat × Blk)) : List (Nat × Blk)→Prop
  | []=>True
  | (m,b)::r=>(find hpR m = some b∨(find hp m = some b∧(List.range k).all (fun i=>!(Nat.beq (rho l i) m)) = true))∧OldL l k hp hpR r
theorem OldL.get {l : List (Nat × Nat)} {k : Nat} {hp hpR : List (Nat × Blk)} : ∀ {r : List (Nat × Blk)},OldL l k hp hpR r→∀ m b,(m,b)∈r→find hpR m = some b∨(find hp m = some b∧∀ i,i < k→rho l i≠m)
  | [],_,m,b,h=>by cases h
  | (m',b')::r,h,m,b,hm=>by
    rcases List.mem_cons.1 hm with e | hm
    · cases e
      refine h.1.imp (fun x=>x) fun ⟨h1,h2⟩=>⟨h1,fun i hi e=>?_⟩
      have:=List.all_eq_true.1 h2 i (List.mem_range.2 hi)
      rw [e] at this;simp at this
    · exact OldL.get h.2 m b hm
section
variable {P : Program} {T : Tab} {base : Nat} {ops : Array Oper} {l : List Oper} {sl : List (Nat × V)} {hp : List (Nat × Blk)} {nx : Nat} {K : AS→Prop} {ty : TypeId} {pos : String} {af : Array Edge} {dst : Option Tmp} {g : Option (Nat × Bool)}
theorem U7 {c : Call} {f : FuncId} {vs' : List V} {hp0 hpR : List (Nat × Blk)} {k nR : Nat} {vR : V} (l1 l3 : List (Nat × Nat)) (vs : List V) (vN : V) (hpRn hpN : List (Nat × Blk)) (nxN : Nat) (he : K0 P T f vs' hp0 k vR hpR nR) (hg : Qi ops ⟨sl,hp,nx⟩ ⟨dst,.call c,ty,pos,af,g⟩ = some true) (hc : callee ⟨sl,hp,nx⟩ c = some (f,vs)) (hlen : vs.length = vs'.length)
    (hw1 : Wk 0 (rho l1) [] [] ⟨Ks 0 vs,hp,nx⟩ ⟨Ks 0 vs',hp0,k⟩) (hw3 : Wk 0 (rho l3) [] [] ⟨[(0,vR)],hpR,nR⟩ ⟨[(0,vN)],hpRn,nxN⟩) (hb : q6w l1 l3 k nR nx nxN = true) (hold : OldL l1 k hp hpRn hpN)
    (h : OpsK P T base ops none l ((⟨sl,hpN,nxN⟩ : AS).putD dst vN) K) : OpsK P T base ops none (⟨dst,.call c,ty,pos,af,g⟩::l) ⟨sl,hp,nx⟩ K:=by
  obtain ⟨st2,e2,k2⟩:=h
  refine ⟨st2,.callF hg rfl hc hlen hw1 he hw3 ⟨?_,?_,?_,?_,?_⟩ e2,k2⟩
  · intro i hi
    simp only [q6w,Bool.and_eq_true,List.all_eq_true,List.mem_range] at hb
    have:=hb.1.1 i hi
    exact ⟨by simpa [Nat.blt_eq] using this.1,Nat.eq_of_beq_eq_true this.2⟩
  · intro m hm
    simp only [q6w,Bool.and_eq_true,List.all_eq_true,List.mem_range,Bool.or_eq_true] at hb
    rcases hb.1.2 m hm with h1 | h1
    · exact .inl ⟨by simpa [Nat.blt_eq] using h1.1,Nat.eq_of_beq_eq_true h1.2⟩
    · exact .inr (by simpa using h1)
  · intro m hm;cases hm
  · exact fun m b h1=>hold.get m b (Zh h1)
  · simp only [q6w,Bool.and_eq_true] at hb
    simpa using hb.2
end
theorem Kf {P : Program} {T : Tab} {f : FuncId} {fn : Func} {c : Code} {vs : List V} {hp hpR : List (Nat × Blk)} {nx nR : Nat} {vR : V} (hf : P.funcs[f]? = some fn) (hb : fn.body = some c) (hname : (fn.name == "runtime.NumGoroutine") = false) (hok : codeOk fn.ntmps c = true) (hl : Nat.ble vs.length fn.ntmps = true)
    (h : RunK P T nx [c] ⟨Ks 0 vs,hp,nx⟩ (fun ex st=>(ex = .nor∨ex = .ret)∧∃ v,resV T st fn.results.toList = some v∧WkE nx ⟨[(0,v)],st.hp,st.nx⟩ ⟨[(0,vR)],hpR,nR⟩)) : K0 P T f vs hp nx vR hpR nR:=by
  obtain ⟨ex,st',e,hx,v,hv,ρ,fz,ph,w⟩:=q43 h
  exact .wk (.mk hf hb hname hok (by simpa using hl) e hx hv) w
def shlK (k : IntKind) (x y : Int) : Option Int:=if y < 0 then none else some (k.wrap (x * 2 ^ (min y.toNat k.bits)))
section
variable {P : Program} {T : Tab} {base : Nat} {ops : Array Oper} {dr : Dr} {l : List Oper} {sl : List (Nat × V)} {hp : List (Nat × Blk)} {nx : Nat} {K : AS→Prop} {ty : TypeId} {pos : String} {af : Array Edge} {t : Tmp} {g : Option (Nat × Bool)}
theorem qqc {x y : Operand} {xt yt : TypeId} {a b r : Int} {k k' : IntKind} (hr : shlK k a b = some r) (hg : Qi ops ⟨sl,hp,nx⟩ ⟨some t,.binOp .shl xt x y yt,ty,pos,af,g⟩ = some true) (hx : AS.ev ⟨sl,hp,nx⟩ x = some (.d (.int k a))) (hy : AS.ev ⟨sl,hp,nx⟩ y = some (.d (.int k' b)))
    (h : OpsK P T base ops dr l ⟨(t,.d (.int k r))::sl,hp,nx⟩ K) : OpsK P T base ops dr (⟨some t,.binOp .shl xt x y yt,ty,pos,af,g⟩::l) ⟨sl,hp,nx⟩ K:=by
  unfold shlK at hr
  split at hr
  · cases hr
  · rename_i h0;cases hr
    exact Y6 hg (v:=.d (.int k (k.wrap (a * 2 ^ (min b.toNat k.bits))))) (st1:=⟨sl,hp,nx⟩) (by simp [opFn,hx,hy,binD,q88,h0]) h (Zq rfl)
end
def Qu (n m : Nat) : Option Unit:=if n = m then some () else none
theorem Kj {n m : Nat} {u : Unit} (h : Qu n m = some u) : n = m:=by
  unfold Qu at h
  split at h
  · assumption
  · cases h
def q3w (s : ByteArray) (i : Int) : Option Int:=(if 0≤i then s[i.toNat]? else none).map fun b=>(b.toNat : Int)
theorem qq6 {P : Program} {T : Tab} {base : Nat} {ops : Array Oper} {dr : Dr} {l : List Oper} {sl : List (Nat × V)} {hp : List (Nat × Blk)} {nx : Nat} {K : AS→Prop} {ty : TypeId} {pos : String} {af : Array Edge} {t : Tmp} {g : Option (Nat × Bool)} {x y : Operand} {xt : TypeId} {i : TI} {k : IntKind} {n v : Int} (s : ByteArray) (hv : q3w s n = some v) (hg : Qi ops ⟨sl,hp,nx⟩ ⟨some t,.index xt x y,ty,pos,af,g⟩ = some true) (hT : T xt = some i)
    (hx : AS.ev ⟨sl,hp,nx⟩ x = some (.d (.str s))) (hy : AS.ev ⟨sl,hp,nx⟩ y = some (.d (.int k n))) (hk : i.kind = .str)
    (h : OpsK P T base ops dr l ⟨(t,.d (.int .u8 v))::sl,hp,nx⟩ K) : OpsK P T base ops dr (⟨some t,.index xt x y,ty,pos,af,g⟩::l) ⟨sl,hp,nx⟩ K:=by
  unfold q3w at hv
  rw [Option.map_eq_some_iff] at hv
  obtain ⟨b,hb,rfl⟩:=hv
  refine Y6 hg (v:=.d (.int .u8 b.toNat)) (st1:=⟨sl,hp,nx⟩) ?_ h (Zq rfl)
  simp only [opFn,hT,hx,hy,hk,hb,Option.map_some]
open Classical in
noncomputable def lim {α : Type} (f : Nat→Option α) : Option α:=if h : ∃ r n,f n = some r then some h.choose else none
theorem qdj {α : Type} {f : Nat→Option α} {r : α} (h : lim f = some r) : ∃ n,f n = some r:=by
  unfold lim at h
  split at h
  · rename_i hh;cases h;exact hh.choose_spec
  · cases h
theorem qp8 {α : Type} {f : Nat→Option α} {n : Nat} {r : α} (h : f n = some r) : ∃ r',lim f = some r':=by
  unfold lim
  rw [dif_pos ⟨r,n,h⟩]
  exact ⟨_,rfl⟩
theorem q10 {P : Program} {T : Tab} {base : Nat} {c : Code} {cs : List Code} {st : AS} {K : Ex→AS→Prop} (h : RunK P T base (c::.loop c::cs) st K) : RunK P T base (.loop c::cs) st K:=by
  obtain ⟨ex,st1,e1,k1⟩:=h
  cases ex with
  | nor=>
    obtain ⟨ex2,st2,e2,k2⟩:=k1
    exact ⟨ex2,st2,.loopN e1 e2,k2⟩
  | exit i=>exact ⟨_,_,.loopX e1 qd,k1⟩
  | ret=>exact ⟨_,_,.loopX e1 qd,k1⟩
def idxW {α : Type} (xs : List α) (w : Nat × Nat) (k : Int) : Option α:=if 0≤k∧k < w.2 then xs[w.1 + k.toNat]? else none
theorem qdf {α : Type} {xs : List α} {w : Nat × Nat} {k : Int} {v : α} (h : idxW xs w k = some v) : idx xs ((w.1 : Int) + k) = some v:=by
  unfold idxW at h
  split at h
  · rename_i h0
    unfold idx
    rw [if_pos q6]
    rw [show ((w.1 : Int) + k).toNat = w.1 + k.toNat by omega];exact h
  · cases h
def q2c (n : Nat) (w : Nat × Nat) : Option Unit:=if w.1 + w.2≤n then some () else none
theorem qlg {n : Nat} {w : Nat × Nat} {u : Unit} (h : q2c n w = some u) : w.1 + w.2≤n:=by
  unfold q2c at h
  split at h
  · assumption
  · cases h
def clrw {α : Type} (xs : List α) (w : Nat × Nat) (z : α) : List α:=splice xs w.1 (List.replicate w.2 z)
theorem qg2 {α : Type} {xs : List α} {w : Nat × Nat} {z : α} (h : w.1 + w.2≤xs.length) : (clrw xs w z).length = xs.length:=by
  unfold clrw splice;simp;omega
section
variable {P : Program} {T : Tab} {base : Nat} {ops : Array Oper} {dr : Dr} {l : List Oper} {sl : List (Nat × V)} {hp : List (Nat × Blk)} {nx : Nat} {K : AS→Prop} {ty : TypeId} {pos : String} {af : Array Edge} {t : Tmp} {g : Option (Nat × Bool)}
theorem qe0 {α : Type} {x y : Operand} {xt : TypeId} {i : TI} {k : IntKind} {n : Int} {m es : Nat} {xs : List α} {w : Nat × Nat} {v : α} (hv : idxW xs w n = some v) (hg : Qi ops ⟨sl,hp,nx⟩ ⟨some t,.indexAddr xt x y,ty,pos,af,g⟩ = some true) (hT : T xt = some i)
    (hx : AS.ev ⟨sl,hp,nx⟩ x = some (.hs m es w.1 w.2)) (hy : AS.ev ⟨sl,hp,nx⟩ y = some (.d (.int k n))) (hk : i.kind = .slice) (he : es = i.esize)
    (h : OpsK P T base ops dr l ⟨(t,.ref m es ((w.1 : Int) + n).toNat 0)::sl,hp,nx⟩ K) : OpsK P T base ops dr (⟨some t,.indexAddr xt x y,ty,pos,af,g⟩::l) ⟨sl,hp,nx⟩ K:=by
  have h0 : 0≤n∧n < w.2:=by
    unfold idxW at hv
    split at hv
    · assumption
    · cases hv
  refine qq2 hg hT hx hy hk he h0.1 h0.2 ?_
  rw [show ((w.1 : Int) + n).toNat = w.1 + n.toNat by omega] at h;exact h
theorem qq0 {α : Type} {x : Operand} {xt : TypeId} {i : TI} {n es : Nat} {xs : List α} {enc : α→List DV} (z : α) {w : Nat × Nat} (hw : w.1 + w.2≤xs.length) (hg : Qi ops ⟨sl,hp,nx⟩ ⟨none,.call {callee:=.builtin .clear,args:=#[x],argTypes:=#[xt]},ty,pos,af,g⟩ = some true) (hT : T xt = some i)
    (hx : AS.ev ⟨sl,hp,nx⟩ x = some (.hs n es w.1 w.2)) (hb : find hp n = some (.dat es (xs.map enc))) (hk : i.kind = .slice) (he : i.esize = es) (hz : i.ezero = enc z)
    (h : OpsK P T base ops dr l ⟨sl,repl hp n (.dat es ((clrw xs w z).map enc)),nx⟩ K) (hF : okO dr l.length ⟨sl,hp,nx⟩ (.call {callee:=.builtin .clear,args:=#[x],argTypes:=#[xt]}) ⟨sl,repl hp n (.dat es ((clrw xs w z).map enc)),nx⟩ = true:=by rfl) :
    OpsK P T base ops dr (⟨none,.call {callee:=.builtin .clear,args:=#[x],argTypes:=#[xt]},ty,pos,af,g⟩::l) ⟨sl,hp,nx⟩ K:=by
  subst he
  refine Y6 hg (v:=.d (.tup [])) (st1:=⟨sl,repl hp n (.dat i.esize ((clrw xs w z).map enc)),nx⟩) ?_ h hF
  simp only [opFn,evL,hx,Kt]
  simp only [List.getElem?_toArray,List.getElem?_cons_zero,hT]
  rw [if_pos ⟨hk,by simp [Zg]⟩]
  simp only [J5,AS.blk,hb]
  rw [if_pos ⟨by simpa using hw,trivial⟩,hz]
  simp [clrw,splice,AS.setBlk]
end
section
variable {P : Program} {T : Tab} {base : Nat} {ops : Array Oper} {dr : Dr} {l : List Oper} {sl : List (Nat × V)} {hp : List (Nat × Blk)} {nx : Nat} {K : AS→Prop} {ty : TypeId} {pos : String} {af : Array Edge} {t : Tmp} {g : Option (Nat × Bool)}
end
end Go.Am
namespace Go.Am
open Go
theorem J {α : Sort _} {a : α} : a = a:=rfl
abbrev G (n : Int) : DV:=.int .i64 n
abbrev q7 (n : Int) : V:=.d (.int .i64 n)
abbrev qh (b : Bool) : V:=.d (.bool b)
section
variable {P : Program} {T : Tab} {base : Nat} {ops : Array Oper} {dr : Dr} {l : List Oper} {sl : List (Nat × V)} {hp : List (Nat × Blk)} {nx : Nat} {K : AS→Prop} {ty : TypeId} {pos : String} {af : Array Edge} {t : Tmp} {g : Option (Nat × Bool)} {v : V}
theorem U {x : Operand} (hg : (Qi ops ⟨sl,hp,nx⟩ ⟨some t,.move x,ty,pos,af,g⟩,AS.ev ⟨sl,hp,nx⟩ x) = (some true,some v))
    (h : OpsK P T base ops dr l ⟨(t,v)::sl,hp,nx⟩ K) : OpsK P T base ops dr (⟨some t,.move x,ty,pos,af,g⟩::l) ⟨sl,hp,nx⟩ K:=qe3 (Prod.mk.inj hg).1 (Prod.mk.inj hg).2 h
theorem qa {x : Operand} (hg : (Qi ops ⟨sl,hp,nx⟩ ⟨some t,.assign x,ty,pos,af,g⟩,AS.ev ⟨sl,hp,nx⟩ x) = (some true,some v))
    (h : OpsK P T base ops dr l ⟨(t,v)::sl,hp,nx⟩ K) : OpsK P T base ops dr (⟨some t,.assign x,ty,pos,af,g⟩::l) ⟨sl,hp,nx⟩ K:=qpz (Prod.mk.inj hg).1 (Prod.mk.inj hg).2 h
theorem O {op : Op} (v : V) (hg : (Qi ops ⟨sl,hp,nx⟩ ⟨some t,op,ty,pos,af,g⟩,opFn T ⟨sl,hp,nx⟩ op) = (some true,some (v,⟨sl,hp,nx⟩))) (h : OpsK P T base ops dr l ⟨(t,v)::sl,hp,nx⟩ K)
    (hF : okO dr l.length ⟨sl,hp,nx⟩ (op) ⟨sl,hp,nx⟩ = true:=by rfl) : OpsK P T base ops dr (⟨some t,op,ty,pos,af,g⟩::l) ⟨sl,hp,nx⟩ K:=qqg v (Prod.mk.inj hg).1 (Prod.mk.inj hg).2 h hF
theorem Qp {op : Op} (n : Nat) (b : Blk) (hg : (Qi ops ⟨sl,hp,nx⟩ ⟨none,op,ty,pos,af,g⟩,opFn T ⟨sl,hp,nx⟩ op) = (some true,some (.dead,⟨sl,repl hp n b,nx⟩))) (h : OpsK P T base ops dr l ⟨sl,repl hp n b,nx⟩ K) (hF : okO dr l.length ⟨sl,hp,nx⟩ (op) ⟨sl,repl hp n b,nx⟩ = true:=by rfl) : OpsK P T base ops dr (⟨none,op,ty,pos,af,g⟩::l) ⟨sl,hp,nx⟩ K:=
  qqf n b (Prod.mk.inj hg).1 (Prod.mk.inj hg).2 h hF
theorem Qn {op : Op} (v : V) (b : Blk) (hg : (Qi ops ⟨sl,hp,nx⟩ ⟨some t,op,ty,pos,af,g⟩,opFn T ⟨sl,hp,nx⟩ op) = (some true,some (v,⟨sl,(nx,b)::hp,nx + 1⟩))) (h : OpsK P T base ops dr l ⟨(t,v)::sl,(nx,b)::hp,nx + 1⟩ K) (hF : okO dr l.length ⟨sl,hp,nx⟩ (op) ⟨sl,(nx,b)::hp,nx + 1⟩ = true:=by rfl) : OpsK P T base ops dr (⟨some t,op,ty,pos,af,g⟩::l) ⟨sl,hp,nx⟩ K:=
  qq9 v b (Prod.mk.inj hg).1 (Prod.mk.inj hg).2 h hF
theorem qe2 {α : Type} {x : Operand} {xt : TypeId} {i : TI} {es : Nat} {xs : List α} {enc : α→List DV} (n : Int) (hn : (xs.length : Int) = n) (hg : Qi ops ⟨sl,hp,nx⟩ ⟨some t,.call {callee:=.builtin .len,args:=#[x],argTypes:=#[xt]},ty,pos,af,g⟩ = some true) (hT : T xt = some i) (hk : i.kind = .slice) (hx : AS.ev ⟨sl,hp,nx⟩ x = some (.d (.sl es (xs.map enc))))
    (h : OpsK P T base ops dr l ⟨(t,.d (.int .i64 n))::sl,hp,nx⟩ K) : OpsK P T base ops dr (⟨some t,.call {callee:=.builtin .len,args:=#[x],argTypes:=#[xt]},ty,pos,af,g⟩::l) ⟨sl,hp,nx⟩ K:=by
  subst hn;exact qiq hg hT hk hx h
theorem Q4 {α : Type} {x y : Operand} {xt : TypeId} {i : TI} {k : IntKind} {n : Int} {es : Nat} {xs : List α} {enc : α→List DV} {v : α} (hv : idx xs n = some v)
    (hg : (Qi ops ⟨sl,hp,nx⟩ ⟨some t,.indexAddr xt x y,ty,pos,af,g⟩,T xt,AS.ev ⟨sl,hp,nx⟩ x,AS.ev ⟨sl,hp,nx⟩ y,i.kind,es) = (some true,some i,some (.d (.sl es (xs.map enc))),some (.d (.int k n)),.slice,i.esize))
    (h : OpsK P T base ops dr l ⟨(t,.dref (enc v) 0)::sl,hp,nx⟩ K) : OpsK P T base ops dr (⟨some t,.indexAddr xt x y,ty,pos,af,g⟩::l) ⟨sl,hp,nx⟩ K:=by
  simp only [Prod.mk.injEq] at hg
  obtain ⟨h1,h2,h3,h4,h5,h6⟩:=hg
  exact qq4 hv h1 h2 h3 h4 h5 h6 h
theorem qr {α : Type} {x y : Operand} {xt : TypeId} {i : TI} {k : IntKind} {n : Int} {m es len : Nat} {xs : List α} {v : α} (hv : idx xs n = some v) (hl : len = xs.length)
    (hg : (Qi ops ⟨sl,hp,nx⟩ ⟨some t,.indexAddr xt x y,ty,pos,af,g⟩,T xt,AS.ev ⟨sl,hp,nx⟩ x,AS.ev ⟨sl,hp,nx⟩ y,i.kind,es) = (some true,some i,some (.hs m es 0 len),some (.d (.int k n)),.slice,i.esize))
    (h : OpsK P T base ops dr l ⟨(t,.ref m es n.toNat 0)::sl,hp,nx⟩ K) : OpsK P T base ops dr (⟨some t,.indexAddr xt x y,ty,pos,af,g⟩::l) ⟨sl,hp,nx⟩ K:=by
  simp only [Prod.mk.injEq] at hg
  obtain ⟨h1,h2,h3,h4,h5,h6⟩:=hg
  exact qq3 hv hl h1 h2 h3 h4 h5 h6 h
theorem Q2 {α : Type} {p : Operand} {xt : TypeId} {i : TI} {m es j : Nat} {n : Int} {xs : List α} {enc : α→List DV} {r : List DV} {v : α} (w : V) (hv : idx xs n = some v)
    (hg : (Qi ops ⟨sl,hp,nx⟩ ⟨some t,.load xt p,ty,pos,af,g⟩,T xt,AS.ev ⟨sl,hp,nx⟩ p,find hp m,sub (enc v) j i.size,(Uz i.agg r).map V.d) = (some true,some i,some (.ref m es n.toNat j),some (.dat es (xs.map enc)),some r,some w))
    (h : OpsK P T base ops dr l ⟨(t,w)::sl,hp,nx⟩ K) (hF : okF dr l.length (fp ⟨sl,hp,nx⟩ (.load xt p)) = true:=by rfl) : OpsK P T base ops dr (⟨some t,.load xt p,ty,pos,af,g⟩::l) ⟨sl,hp,nx⟩ K:=by
  simp only [Prod.mk.injEq] at hg
  obtain ⟨h1,h2,h3,h4,h5,h6⟩:=hg
  exact qq8 w hv h1 h2 h3 h4 h5 h6 h hF
theorem Qd {α : Type} {x : Operand} {xt : TypeId} {i : TI} {es : Nat} {xs : List α} {enc : α→List DV}
    (hg : (Qi ops ⟨sl,hp,nx⟩ ⟨some t,.call {callee:=.builtin .len,args:=#[x],argTypes:=#[xt]},ty,pos,af,g⟩,T xt,i.kind,AS.ev ⟨sl,hp,nx⟩ x) = (some true,some i,.slice,some (.d (.sl es (xs.map enc)))))
    (h : OpsK P T base ops dr l ⟨(t,.d (.int .i64 (xs.length : Int)))::sl,hp,nx⟩ K) : OpsK P T base ops dr (⟨some t,.call {callee:=.builtin .len,args:=#[x],argTypes:=#[xt]},ty,pos,af,g⟩::l) ⟨sl,hp,nx⟩ K:=by
  simp only [Prod.mk.injEq] at hg
  obtain ⟨h1,h2,h3,h4⟩:=hg
  exact qiq h1 h2 h3 h4 h
theorem qz {c : Call} {f : FuncId} {ds : List DV} {r : DV} {vs : List V} (hpu : Pure P T f ds r) (hg : (Qi ops ⟨sl,hp,nx⟩ ⟨some t,.call c,ty,pos,af,g⟩,callee ⟨sl,hp,nx⟩ c,Ke hp vs,vs.all V.isD) = (some true,some (f,vs),some ds,true))
    (h : OpsK P T base ops dr l ⟨(t,.d r)::sl,hp,nx⟩ K) (hF : okF dr l.length (fpC vs) = true:=by rfl) : OpsK P T base ops dr (⟨some t,.call c,ty,pos,af,g⟩::l) ⟨sl,hp,nx⟩ K:=by
  simp only [Prod.mk.injEq] at hg
  obtain ⟨h1,h2,h3,h4⟩:=hg
  exact qar vs hpu h1 h2 h3 (.inl h4) h hF
theorem Q1 {st : AS} {rs : List ResultVar} {r : DV} (v : V) (hg : (resV T st rs,toD st.hp 8 v) = (some v,some r)) : (Ex.ret = .nor∨Ex.ret = .ret)∧∃ v r',resV T st rs = some v∧toD st.hp 8 v = some r'∧DLe r' r:=by
  simp only [Prod.mk.injEq] at hg
  exact ⟨.inr rfl,v,r,hg.1,hg.2,.refl _⟩
theorem qb {id : Nat} {ops : Array Oper} {b : Code} {cs : List Code} {st : AS} {K : Ex→AS→Prop} (h : OpsK P T base ops none ops.toList st (fun st'=>RunK P T base (b::cs) st' K)) : RunK P T base (.seq (.region id ops false) b::cs) st K:=qf (qu h)
theorem qt {ops0 ops : Array Oper} {id : Nat} {b : Code} {cs : List Code} {st : AS} {K : Ex→AS→Prop} (h : OpsK P T base ops none ops.toList st (fun st'=>RunK P T base (b::cs) st' K)) : OpsK P T base ops0 dr [] st (fun st'=>RunK P T base (.seq (.region id ops false) b::cs) st' K):=q9 (qf (qu h))
theorem qp {ops0 : Array Oper} {cs : List Code} {st : AS} {K : Ex→AS→Prop} (h : K .ret st) : OpsK P T base ops0 dr [] st (fun st'=>RunK P T base (.ret::cs) st' K):=q9 (q20 h)
theorem qs {ops0 : Array Oper} {st : AS} {K : Ex→AS→Prop} (h : K .nor st) : OpsK P T base ops0 dr [] st (fun st'=>RunK P T base [] st' K):=q9 (Q9 h)
theorem K6 {dst : Option Tmp} {c : Call} {f : FuncId} {vs' : List V} {hp0 hpR : List (Nat × Blk)} {k nR : Nat} {vR : V} (l1 l3 : List (Nat × Nat)) (vs : List V) (vN : V) (n : Nat) (hpN : List (Nat × Blk)) (nxN : Nat) (he : K0 P T f vs' hp0 k vR hpR nR)
    (h : OpsK P T base ops none l ((⟨sl,hpN,nxN⟩ : AS).putD dst vN) K)
    (hg : Qi ops ⟨sl,hp,nx⟩ ⟨dst,.call c,ty,pos,af,g⟩ = some true:=by exact rfl) (hc : callee ⟨sl,hp,nx⟩ c = some (f,vs):=by exact rfl) (hlen : vs.length = vs'.length:=by exact rfl)
    (o1 : wkOk 0 l1 [] [] hp0 k = true:=by exact rfl)
    (s1 : WkL ⟨Ks 0 vs,hp,nx⟩ (rho l1) [] [] k (Ks 0 vs'):=by
      repeat' first | exact trivial | refine And.intro (Exists.intro _ (And.intro rfl ?_)) ?_ | exact Wv.d (DLe.refl _) | exact Wv.ref rfl qy (ltd rfl) | exact Wv.mp rfl qy (ltd rfl) | exact Wv.hs rfl qy (ltd rfl) | exact Wv.d (DLe.nil _) | refine qbx ?_ | refine qf3 ?_ | refine q3z ?_ | refine WvL.cons ?_ ?_ | exact WvL.nil | exact Wv.dref _ _ | exact Wv.yld rfl qy (ltd rfl))
    (b1 : WkH ⟨Ks 0 vs,hp,nx⟩ (rho l1) [] [] k hp0:=by
      repeat' first | exact trivial | refine And.intro (And.intro (ltd rfl) (Or.inr (And.intro qy (Exists.intro _ (And.intro rfl ?_))))) ?_ | exact Wb.dat _ _ | exact Wb.mp _ | refine Uc ?_ | refine qf0 ?_ | refine WvC.cons ?_ rfl ?_ | exact WvC.nil | exact Wv.d (DLe.refl _) | exact Wv.ref rfl qy (ltd rfl) | exact Wv.mp rfl qy (ltd rfl) | exact Wv.hs rfl qy (ltd rfl) | exact Wv.d (DLe.nil _))
    (o3 : wkOk 0 l3 [] [] (hpN.take n) nxN = true:=by exact rfl)
    (s3 : WkL ⟨[(0,vR)],hpR,nR⟩ (rho l3) [] [] nxN [(0,vN)]:=by
      repeat' first | exact trivial | refine And.intro (Exists.intro _ (And.intro rfl ?_)) ?_ | exact Wv.d (DLe.refl _) | exact Wv.ref rfl qy (ltd rfl) | exact Wv.mp rfl qy (ltd rfl) | exact Wv.hs rfl qy (ltd rfl) | exact Wv.d (DLe.nil _) | refine qbx ?_ | refine qf3 ?_ | refine q3z ?_ | refine WvL.cons ?_ ?_ | exact WvL.nil | exact Wv.dref _ _ | exact Wv.yld rfl qy (ltd rfl))
    (b3 : WkH ⟨[(0,vR)],hpR,nR⟩ (rho l3) [] [] nxN (hpN.take n):=by
      repeat' first | exact trivial | refine And.intro (And.intro (ltd rfl) (Or.inr (And.intro qy (Exists.intro _ (And.intro rfl ?_))))) ?_ | exact Wb.dat _ _ | exact Wb.mp _ | refine Uc ?_ | refine qf0 ?_ | refine WvC.cons ?_ rfl ?_ | exact WvC.nil | exact Wv.d (DLe.refl _) | exact Wv.ref rfl qy (ltd rfl) | exact Wv.mp rfl qy (ltd rfl) | exact Wv.hs rfl qy (ltd rfl) | exact Wv.d (DLe.nil _))
    (hb : q6w l1 l3 k nR nx nxN = true:=by exact rfl)
    (hold : OldL l1 k hp (hpN.take n) hpN:=by repeat' first | exact trivial | refine And.intro (Or.inl rfl) ?_ | refine And.intro (Or.inr (And.intro rfl rfl)) ?_) :
    OpsK P T base ops none (⟨dst,.call c,ty,pos,af,g⟩::l) ⟨sl,hp,nx⟩ K:=
  U7 l1 l3 vs vN (hpN.take n) hpN nxN he hg hc hlen (Yh l1 [] [] o1 s1 b1) (Yh l3 [] [] o3 s3 b3) hb hold h
end
inductive WvR (st : AS) (ρ : Nat→Nat) (fz ph : List Nat) (nx : Nat) : List (List V)→List (List V)→Prop
  | nil : WvR st ρ fz ph nx [] []
  | cons {c d : List V} {cs ds : List (List V)} : WvC st ρ fz ph nx c d→WvR st ρ fz ph nx cs ds→WvR st ρ fz ph nx (c::cs) (d::ds)
theorem WvR.len {st : AS} {ρ : Nat→Nat} {fz ph : List Nat} {nx : Nat} {cs ds : List (List V)} (h : WvR st ρ fz ph nx cs ds) : cs.length = ds.length:=by
  induction h with
  | nil=>rfl
  | cons _ _ ih=>simp [ih]
theorem WvR.get {st : AS} {ρ : Nat→Nat} {fz ph : List Nat} {nx : Nat} {cs ds : List (List V)} (h : WvR st ρ fz ph nx cs ds) : ∀ (j : Nat) (c d : List V),cs[j]? = some c→ds[j]? = some d→WvC st ρ fz ph nx c d:=by
  induction h with
  | nil=>intro i x y h;simp at h
  | cons h1 _ ih=>
    intro i x y hx hy
    cases i with
    | zero=>simp at hx hy;subst hx;subst hy;exact h1
    | succ i=>exact ih i x y (by simpa using hx) (by simpa using hy)
theorem qz1 {st : AS} {ρ : Nat→Nat} {fz ph : List Nat} {nx es : Nat} {cs ds : List (List V)} (h : WvR st ρ fz ph nx cs ds) : Wb st ρ fz ph nx (.cel es cs) (.cel es ds):=
  .cel h.len fun i x y hx hy=>⟨(h.get i x y hx hy).len,(h.get i x y hx hy).get⟩
theorem qz2 {st : AS} {ρ : Nat→Nat} {fz ph : List Nat} {nx es : Nat} {cs : List (List DV)} {ds : List (List V)} (h : WvR st ρ fz ph nx (cs.map (·.map .d)) ds) : Wb st ρ fz ph nx (.dat es cs) (.cel es ds):=by
  refine .datcel (by simpa using h.len) fun i x y hx hy=>?_
  have h1:=h.get i (x.map .d) y (by simp [hx]) hy
  refine ⟨by simpa using h1.len,fun j c d hc hd=>h1.get j (.d c) d (by simp [hc]) hd⟩
theorem wkA {base : Nat} {st st' : AS} (l : List (Nat × Nat)) (fz ph : List Nat) (hok : wkOk base l fz ph st'.hp st'.nx = true:=by exact rfl)
    (hs : WkL st (rho l) fz ph st'.nx st'.sl:=by
      repeat' first | exact trivial | refine And.intro (Exists.intro _ (And.intro rfl ?_)) ?_ | exact Wv.d (DLe.refl _) | exact Wv.ref rfl qy (ltd rfl) | exact Wv.mp rfl qy (ltd rfl) | exact Wv.hs rfl qy (ltd rfl) | exact Wv.d (DLe.nil _) | exact Wv.nil qy (ltd rfl) | exact qlj rfl rfl qy | refine qbx ?_ | refine qz8 ?_ | refine qf3 ?_ | refine qz9 ?_ | refine q3z ?_ | refine WvL.cons ?_ ?_ | exact WvL.nil | exact Wv.dref _ _ | exact Wv.yld rfl qy (ltd rfl))
    (hh : WkH st (rho l) fz ph st'.nx st'.hp:=by
      repeat' first | exact trivial | refine And.intro (And.intro (ltd rfl) (Or.inr (And.intro qy (Exists.intro _ (And.intro rfl ?_))))) ?_ | refine And.intro (And.intro (ltd rfl) (Or.inl (And.intro qy (Exists.intro _ (And.intro qy rfl))))) ?_ | exact Wb.dat _ _ | exact Wb.mp _ | refine Uc ?_ | refine qf0 ?_ | refine qz1 ?_ | refine qz2 ?_ | refine WvR.cons ?_ ?_ | exact WvR.nil | refine qz3 ?_ | refine WvS.cons rfl ?_ ?_ | exact WvS.nil | refine WvC.cons ?_ rfl ?_ | exact WvC.nil | exact Wv.d (DLe.refl _) | exact Wv.ref rfl qy (ltd rfl) | exact Wv.mp rfl qy (ltd rfl) | exact Wv.hs rfl qy (ltd rfl) | exact Wv.d (DLe.nil _) | exact Wv.nil qy (ltd rfl) | exact qlj rfl rfl qy | refine q3z ?_ | refine qbx ?_ | refine WvL.cons ?_ ?_ | exact WvL.nil | exact Wv.yld rfl qy (ltd rfl)) : WkE base st st':=wkE l fz ph hok hs hh
theorem ql {st : AS} {ρ : Nat→Nat} {fz ph : List Nat} {nx t : Nat} {x : DV} (h : st.get t = some (.d x)) : ∃ v,st.get t = some v∧Wv st ρ fz ph nx v (.d x):=⟨_,h,.d (.refl _)⟩
theorem Qm {st : AS} {ρ : Nat→Nat} {fz ph : List Nat} {nx n es : Nat} {xs : List (List DV)} (h1 : Nat.blt n nx = true) (h3 : st.blk (ρ n) = some (.dat es xs)) (h2 : n ∉ ph:=by decide) :
    n < nx∧((n∈ph∧∃ e,e≠0∧(Blk.dat es xs) = .dat e [])∨(n ∉ ph∧∃ b,st.blk (ρ n) = some b∧Wb st ρ fz ph nx b (.dat es xs))):=⟨ltd h1,.inr ⟨h2,_,h3,.dat _ _⟩⟩
abbrev q0 : Option (List Nat) × List Nat:=(some [],[])
abbrev qq (n : Nat) : Option (List Nat) × List Nat:=(some [n],[])
abbrev Qk (n : Nat) : Option (List Nat) × List Nat:=(some [n],[n])
end Go.Am
namespace Go.Am
open Go
inductive DLeR : List (List DV)→List (List DV)→Prop
  | nil : DLeR [] []
  | cons {x y : List DV} {xs ys : List (List DV)} : DLeL x y→DLeR xs ys→DLeR (x::xs) (y::ys)
structure qzd (ag : Bool) (ks : List (Option IntKind)) {α : Type} [DecidableEq α] (ek : α→DV) : Prop where
  agg : ∀ k,Z4 (ek k) = ag
  len : ∀ k,(cellsD (ek k)).length = ks.length
  eq : ∀ a b,K7 ks (cellsD (ek a)) (cellsD (ek b)) = some (decide (a = b))
section
variable {α β : Type} [DecidableEq α]
variable {ag : Bool} {ks : List (Option IntKind)} {ek : α→DV} {ev : β→DV}
end
section
variable {P : Program} {T : Tab} {base : Nat} {ops : Array Oper} {dr : Dr} {l : List Oper} {sl : List (Nat × V)} {hp : List (Nat × Blk)} {nx : Nat} {K : AS→Prop} {ty : TypeId} {pos : String} {af : Array Edge} {t : Tmp} {g : Option (Nat × Bool)}
variable {α β : Type} [DecidableEq α] {ek : α→DV} {ev : β→DV} {mt : TypeId} {i : TI} {ks : List (Option IntKind)} {n : Nat} {es : List (α × β)}
end
end Go.Am
