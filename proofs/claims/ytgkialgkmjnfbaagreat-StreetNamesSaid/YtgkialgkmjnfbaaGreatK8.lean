/- Lf1 Pl0 Lf2 Lf3 Lf4 Lf5 Lf6 -/
import Derived.Test.YtgkialgkmjnfbaaGreatK7
namespace Go.Am
open Go
def iter {α β : Type} (f : α→Option (α ⊕ β)) : Nat→α→Option β
  | 0,_=>none
  | n + 1,a=>match f a with
    | none=>none
    | some (.inl a')=>iter f n a'
    | some (.inr b)=>some b
theorem qfg {α β : Type} {f : α→Option (α ⊕ β)} : ∀ {n : Nat} {a : α} {b : β},iter f n a = some b→∀ m,n≤m→iter f m a = some b
  | 0,_,_,h,_,_=>by simp [iter] at h
  | n + 1,a,b,h,m,hm=>by
    obtain ⟨k,rfl⟩ : ∃ k,m = k + 1:=⟨m - 1,q8⟩
    simp only [iter] at h ⊢
    split at h
    · simp at h
    · rename_i a' c;exact qfg h k q8
    · exact h
theorem qtq {α β : Type} {f : α→Option (α ⊕ β)} {n m : Nat} {a : α} {b c : β} (h : iter f n a = some b) (d : iter f m a = some c) : b = c:=by
  have j:=qfg h (max n m) q8;have g:=qfg d (max n m) q8;grind
open Classical in
noncomputable def loop {α β : Type} (f : α→Option (α ⊕ β)) (a : α) : Option β:=
  if h : ∃ b n,iter f n a = some b then some h.choose else none
theorem q8c {α β : Type} {f : α→Option (α ⊕ β)} {a : α} {b : β} : loop f a = some b↔∃ n,iter f n a = some b:=by
  unfold loop;split
  · rename_i h;constructor
    · grind
    · rintro ⟨n,d⟩;obtain ⟨m,c⟩:=h.choose_spec;rw [qtq c d]
  grind
theorem Kf {α β : Type} {f : α→Option (α ⊕ β)} {a a' : α} (h : f a = some (.inl a')) : loop f a = loop f a':=by
  apply Option.ext;intro b;rw [q8c,q8c];constructor
  · rintro ⟨n,c⟩
    cases n with
    | zero=>simp [iter] at c
    | succ n=>simp only [iter,h] at c;exact ⟨n,c⟩
  · rintro ⟨n,c⟩;exact ⟨n + 1,by simp only [iter,h];exact c⟩
theorem Kc {α β : Type} {f : α→Option (α ⊕ β)} {a : α} {b : β} (h : f a = some (.inr b)) : loop f a = some b:=
  q8c.2 ⟨1,by simp [iter,h]⟩
theorem quc {α β : Type} {f : α→Option (α ⊕ β)} (I : α→Prop) (μ : α→Nat) (Q : β→Prop) (step : ∀ a,I a→(∃ a',f a = some (.inl a')∧I a'∧μ a' < μ a)∨∃ b,f a = some (.inr b)∧Q b) {a : α} (h : I a) : ∃ b,loop f a = some b∧Q b:=by
  generalize j : μ a = n
  induction n using Nat.strongRecOn generalizing a with
  | _ n ih=>
    rcases step a h with ⟨a',d,c,g⟩ | ⟨b,d,c⟩
    · rw [Kf d];exact ih _ (j ▸ g) c rfl
    · exact ⟨b,Kc d,c⟩
def w64 (x : Int) : Int:=IntKind.i64.wrap x
theorem Qh {x : Int} (h : -9223372036854775808≤x∧x≤9223372036854775807) : w64 x = x:=qhh h
def idx {α : Type} (xs : List α) (i : Int) : Option α:=if 0≤i then xs[i.toNat]? else none
def app {α : Type} (c : Nat) (xs ys : List α) : Option (List α):=if (xs.length + ys.length) * (c * 4)≤4294967296 then some (xs ++ ys) else none
def mks {α : Type} (c : Nat) (n : Int) (z : α) : Option (List α):=if 0≤n∧n * (c * 4)≤4294967296 then some (List.replicate n.toNat z) else none
def sub2 (n : Nat) (a b : Int) : Option (Nat × Nat):=if 0≤a∧a≤b∧b≤n then some (a.toNat,b.toNat - a.toNat) else none
def cpyw {α : Type} (xs : List α) (w : Nat × Nat) (ys : List α) : List α:=splice xs w.1 (ys.take (min ys.length w.2))
theorem leb {n m : Nat} (h : Nat.ble n m = true) : n≤m:=by simpa using h
theorem qqs {α : Type} {xs ys : List α} {w : Nat × Nat} (h : w.1 + w.2≤xs.length) : (cpyw xs w ys).length = xs.length:=by
  simp [cpyw,splice];omega
theorem ltd {n m : Nat} (h : Nat.blt n m = true) : n < m:=by simpa [Nat.blt_eq] using h
def eI (k : IntKind) (x : Int) : List DV:=[.int k x]
def eB (b : Bool) : List DV:=[.bool b]
theorem qcl {α : Type} {xs : List α} {i : Int} {v : α} (h : idx xs i = some v) : 0≤i∧xs[i.toNat]? = some v∧i.toNat < xs.length:=by
  unfold idx at h;grind
theorem Jq {α β : Type} {o : Option α} {f : α→Option β} {x : β} (h : o.bind f = some x) : ∃ v,o = some v∧f v = some x:=by
  cases o with
  | none=>cases h
  | some v=>exact ⟨v,rfl,h⟩
theorem qx {α : Type} {a b : α} (h : some a = some b) : a = b:=Zl h
section
variable {P : Program} {T : Tab} {base : Nat} {cs : List Code} {st : AS} {K : Ex→AS→Prop}
theorem RunK.mono {a : Ex→AS→Prop} : ∀ {cs : List Code} {st : AS},RunK P T base cs st K→(∀ ex st,K ex st→a ex st)→RunK P T base cs st a
  | [],_,h,hk=>hk _ _ h
  | c::cs,st,h,hk=>q2a.mono h fun ex st h=>by
    cases ex with
    | nor=>exact RunK.mono (cs:=cs) h hk
    | exit i=>exact hk _ _ h
    | ret=>exact hk _ _ h
theorem qy {α : Type} {c : Operand} {a b : Code} {t : Bool} {X Y : Option α} {x : α} (f : st.ev c = some (.d (.bool t))) (h : cond t X Y = some x) (j : t = true→X = some x→RunK P T base (a::cs) st K) (g : t = false→Y = some x→RunK P T base (b::cs) st K) :
    RunK P T base (.cond c a b::cs) st K:=by
  cases t with
  | true=>exact q23 f (j rfl h)
  | false=>exact Uk f (g rfl h)
theorem Qv {α β : Type} {body : Code} (f : α→Option (α ⊕ β)) (S : α→AS) (d : α) (m : β) (p : loop f d = some m) (l : WkE base st (S d))
    (round : ∀ a y,f a = some y→RunK P T base [body] (S a) (fun ex st'=>match ex with
      | .nor=>∃ a',y = .inl a'∧WkE base st' (S a')
      | ex=>∃ b,y = .inr b∧(b = m→K ex st'))) : RunK P T base (.loop body::cs) st K:=by
  obtain ⟨n,o⟩:=q8c.1 p;refine qn1 (fun x : Nat × α=>S x.2) (fun x=>iter f x.1 x.2 = some m) (fun x=>x.1) (n,d) l o ?_;rintro ⟨k,a⟩ hk
  cases k with
  | zero=>simp [iter] at hk
  | succ k=>
    simp only [iter] at hk;split at hk
    · cases hk
    · rename_i a' g;refine (round a _ g).mono ?_;intro ex st' h
      cases ex with
      | nor=>
        obtain ⟨a'',c,j⟩:=h;cases c;exact ⟨(k,a'),hk,qd,j⟩
      | exit i=>obtain ⟨b,c,_⟩:=h;cases c
      | ret=>obtain ⟨b,c,_⟩:=h;cases c
    · rename_i b g;cases hk;refine (round a _ g).mono ?_;grind
theorem q7m {id : Nat} {N : AS→Prop} (h : N st) : q4a id N K (.exit id) st:=by simpa [q4a] using h
theorem Qr {id : Nat} {N : AS→Prop} (h : N st) : q4a id N K .nor st:=h
theorem Y5 {β : Type} {c : Code} (E : β→Prop) (S : β→AS) (f : cs≠[]) (h : RunK P T base [c] st (qbm (fun st'=>∃ b,E b∧WkE base st' (S b)) K)) (a : ∀ b,E b→RunK P T base cs (S b) K) : RunK P T base (c::cs) st K:=by
  obtain ⟨ex,st1,e1,d⟩:=Jd h;refine ⟨ex,st1,e1,?_⟩
  cases ex with
  | nor=>obtain ⟨b,hb,g⟩:=d;exact Zv g (a b hb) f
  | exit i=>exact d
  | ret=>exact d
theorem K6 {β : Type} {id : Nat} {a : Code} (E : β→Prop) (S : β→AS) (d : cs≠[]) (g : RunK P T base [a] st (q4a id (fun st'=>∃ b,E b∧WkE base st' (S b)) K)) (c : ∀ b,E b→RunK P T base cs (S b) K) : RunK P T base (.block id a::cs) st K:=by
  refine Qf (g.mono ?_);intro ex st' h
  cases ex with
  | nor=>obtain ⟨b,hb,f⟩:=h;exact Zv f (c b hb) d
  | ret=>exact h
  | exit i=>
    simp only [q4a] at h ⊢;split
    · rename_i hi;rw [qu hi] at h;obtain ⟨b,hb,f⟩:=h;exact Zv f (c b hb) d
    grind
theorem qn0 {β : Type} {c : Code} (E : β→Prop) (S : β→AS) (f : RunK P T base [c] st (qbm (fun st'=>∃ b,E b∧WkE base st' (S b)) K)) (a : ∀ b st',E b→WkE base st' (S b)→K .nor st') : RunK P T base [c] st K:=by
  refine f.mono ?_;intro ex st' h
  cases ex with
  | nor=>obtain ⟨b,hb,d⟩:=h;exact a b st' hb d
  | exit i=>exact h
  | ret=>exact h
end
section
variable {P : Program} {T : Tab} {base : Nat} {ops : Array Oper} {dr : Dr} {l : List Oper} {sl : List (Nat × V)} {hp : List (Nat × Blk)} {nx : Nat} {K : AS→Prop} {ty : TypeId} {pos : String} {af : Array Edge} {t : Tmp} {g : Option (Nat × Bool)}
theorem q8n {op : Op} (v : V) (b : Qs ops ⟨sl,hp,nx⟩ ⟨some t,op,ty,pos,af,g⟩ = some true) (a : opFn T ⟨sl,hp,nx⟩ op = some (v,⟨sl,hp,nx⟩)) (h : OpsK P T base ops dr l ⟨(t,v)::sl,hp,nx⟩ K) (c : okO dr l.length ⟨sl,hp,nx⟩ (op) ⟨sl,hp,nx⟩ = true:=by rfl) : OpsK P T base ops dr (⟨some t,op,ty,pos,af,g⟩::l) ⟨sl,hp,nx⟩ K:=
  Ye b a h c
theorem q8m {op : Op} (v : V) (b : Blk) (c : Qs ops ⟨sl,hp,nx⟩ ⟨some t,op,ty,pos,af,g⟩ = some true) (a : opFn T ⟨sl,hp,nx⟩ op = some (v,⟨sl,(nx,b)::hp,nx + 1⟩)) (h : OpsK P T base ops dr l ⟨(t,v)::sl,(nx,b)::hp,nx + 1⟩ K) (d : okO dr l.length ⟨sl,hp,nx⟩ (op) ⟨sl,(nx,b)::hp,nx + 1⟩ = true:=by rfl) : OpsK P T base ops dr (⟨some t,op,ty,pos,af,g⟩::l) ⟨sl,hp,nx⟩ K:=
  Ye c a h d
theorem q17 {op : Op} {es len : Nat} (xs : List (List DV)) (j : Qs ops ⟨sl,hp,nx⟩ ⟨some t,op,ty,pos,af,g⟩ = some true) (b : opFn T ⟨sl,hp,nx⟩ op = some (.hs nx es 0 len,⟨sl,(nx,.dat es xs)::hp,nx + 1⟩)) (c : len = xs.length) (f : touch op = 2) (a : find hp nx = none) (h : OpsK P T base ops dr l ⟨(t,.d (.sl es xs))::sl,hp,nx + 1⟩ K) (k : okF dr l.length (fp ⟨sl,hp,nx⟩ op) = true:=by rfl) : OpsK P T base ops dr (⟨some t,op,ty,pos,af,g⟩::l) ⟨sl,hp,nx⟩ K:=by
  subst c;exact qvu (n:=nx) (hp2:=hp) (st1:=⟨sl,(nx,.dat es xs)::hp,nx + 1⟩) j b f ⟨rfl,rfl⟩ rfl a h k
theorem qvz {op : Op} (n : Nat) (b : Blk) (c : Qs ops ⟨sl,hp,nx⟩ ⟨none,op,ty,pos,af,g⟩ = some true) (a : opFn T ⟨sl,hp,nx⟩ op = some (.dead,⟨sl,repl hp n b,nx⟩)) (h : OpsK P T base ops dr l ⟨sl,repl hp n b,nx⟩ K) (d : okO dr l.length ⟨sl,hp,nx⟩ (op) ⟨sl,repl hp n b,nx⟩ = true:=by rfl) : OpsK P T base ops dr (⟨none,op,ty,pos,af,g⟩::l) ⟨sl,hp,nx⟩ K:=
  Ye c a h d
theorem Qj {α : Type} {x : Operand} {b : Bool} {X Y : Option α} {m : α} (a : Qs ops ⟨sl,hp,nx⟩ ⟨some t,.move x,ty,pos,af,g⟩ = some true) (c : AS.ev ⟨sl,hp,nx⟩ x = some (.d (.bool b))) (h : cond b X Y = some m)
    (j : X = some m→OpsK P T base ops dr l ⟨(t,.d (.bool true))::sl,hp,nx⟩ K) (f : Y = some m→OpsK P T base ops dr l ⟨(t,.d (.bool false))::sl,hp,nx⟩ K) : OpsK P T base ops dr (⟨some t,.move x,ty,pos,af,g⟩::l) ⟨sl,hp,nx⟩ K:=by
  cases b with
  | true=>exact qg4 a c (j h)
  | false=>exact qg4 a c (f h)
theorem qsh {q : List Oper} {dr : Dr} (hd : dr = none) {p : List Oper} {st st1 st2 : AS} (r : Km P T base ops dr p st st1) (l : Km P T base ops none q st1 st2) : Km P T base ops none (p ++ q) st st2:=by
  refine Km.rec (motive_1:=fun _ _ _ _ _ _=>True) (motive_2:=fun _ _ _ _ _=>True) (motive_3:=fun n o dr p st st1 _=>dr = none→∀ st2,Km P T n o none q st1 st2→Km P T n o none (p ++ q) st st2) (motive_4:=fun _ _ _ _ _ _ _ _=>True)
    ?_ ?_ ?_ ?_ ?_ ?_ ?_ ?_ ?_ ?_ ?_ ?_ ?_ ?_ ?_ ?_ ?_ ?_ ?_ ?_ ?_ ?_ ?_ ?_ ?_ ?_ ?_ ?_ ?_ ?_ ?_ ?_ ?_ ?_ r hd st2 l
  all_goals try (intros;exact trivial)
  · exact fun _ _ h=>h
  · exact fun a _ m hd _ l=>.skip a (m hd _ l)
  · exact fun a b _ _ m hd _ l=>.op a b rfl (m hd _ l)
  · exact fun a b c d e f _ _ m hd _ l=>.opF a b c d e f rfl (m hd _ l)
  · exact fun a b c d e f g h _ _ _ m hd _ l=>.callP a b c d e f g h rfl (m hd _ l)
  · exact fun a b c d _ _ m _ _ l=>.callS a b c d (m rfl _ l)
  · exact fun a b c d e f g h _ _ m _ _ l=>.callF a b c d e f g h (m rfl _ l)
  · exact fun a b c d e f g h _ _ _ m hd _ l=>.callW a b c d e f g h rfl (m hd _ l)
  · exact fun a b c d e f g h i j k _ _ _ m _ _ l=>.callY a b c d e f g h i j k (m rfl _ l)
  · exact fun a b _ m _ _ l=>.opM a b (m rfl _ l)
  · exact fun a _ m _ _ l=>.wk a (m rfl _ l)
  · exact fun _ _ _ _ _ hd=>by cases hd
theorem qsg {dr : Dr} (hd : dr = none) {a b : List Oper} {st st1 st2 : AS} (d : Km P T base ops dr a st st1) (c : Km P T base ops dr b st1 st2) : Km P T base ops dr (a ++ b) st st2:=by
  subst hd;exact qsh rfl d c
theorem qf5 {F : List Fp} {m k : Nat} : fpAt (F.drop m) k = fpAt F (k + m):=by
  unfold fpAt;grind
theorem qvh {F : List Fp} {l a : List Oper} {dr : Dr} (hd : dr = some (F.drop a.length)) {st st1 : AS} {op : Op} (h : okO dr l.length st op st1 = true) : okO (some F) (l ++ a).length st op st1 = true:=by
  subst hd;simp only [okO,qf5] at h;simpa only [okO,List.length_append] using h
theorem qg0 {F : List Fp} {l a : List Oper} {dr : Dr} (hd : dr = some (F.drop a.length)) {x : Fp} (h : okF dr l.length x = true) : okF (some F) (l ++ a).length x = true:=by
  subst hd;simp only [okF,qf5] at h;simpa only [okF,List.length_append] using h
theorem qsj {F : List Fp} {m : List Oper} {dr : Dr} {k : Dr} (hk : k = some F) (hd : dr = some (F.drop m.length)) {n : List Oper} {st st1 st2 : AS} (p : Km P T base ops dr n st st1) (q : Km P T base ops k m st1 st2) : Km P T base ops k (n ++ m) st st2:=by
  subst hk
  induction n generalizing st with
  | nil=>cases p with
    | nil=>exact q
    | wk _ _=>cases hd
  | cons o l ih=>
    cases p with
    | skip a b=>exact .skip a (ih b)
    | op a b c d=>exact .op a b (qvh hd c) (ih d)
    | opF a b c d e f g h=>exact .opF a b c d e f (qg0 hd g) (ih h)
    | callP a b c d e f g h i j=>exact .callP a b c d e f g h (qg0 hd i) (ih j)
    | callS _ _ _ _ _=>cases hd
    | callF _ _ _ _ _ _ _ _ _=>cases hd
    | callW a b c d e f g h i j=>exact .callW a b c d e f g h (qg0 hd i) (ih j)
    | callY _ _ _ _ _ _ _ _ _ _ _ _=>cases hd
    | opM _ _ _=>cases hd
    | wk _ _=>cases hd
    | piv a b c=>
      cases hd;rw [qf5] at a;exact .piv (by show Jx (fpAt F (l ++ m).length) = true;rw [List.length_append];exact a) b (ih c)
def qj0 (dr : Dr) (k : Nat) : Dr:=match dr with
  | none=>none
  | some F=>some (F.drop k)
theorem qsi {dr : Dr} {d a : List Oper} {st st1 st2 : AS} (b : Km P T base ops (qj0 dr a.length) d st st1) (c : Km P T base ops dr a st1 st2) : Km P T base ops dr (d ++ a) st st2:=by
  cases dr with
  | none=>exact qsg rfl b c
  | some F=>exact qsj rfl rfl b c
theorem Qk (n : Nat) (Q : (List (Nat × V)→AS)→AS→Prop) (d : OpsK P T base ops (qj0 dr (l.drop n).length) (l.take n) ⟨sl,hp,nx⟩ (Q fun p=>⟨p ++ sl,hp,nx⟩)) (c : ∀ st',Q (fun p=>⟨p ++ sl,hp,nx⟩) st'→OpsK P T base ops dr (l.drop n) st' K) : OpsK P T base ops dr l ⟨sl,hp,nx⟩ K:=by
  obtain ⟨st1,e1,a⟩:=d;obtain ⟨st2,f,b⟩:=c st1 a;refine ⟨st2,?_,b⟩;have:=qsi e1 f;simp_all
theorem qvm {α : Type} {x y : Operand} {a : TypeId} {i : TI} {k : IntKind} {n : Int} {es : Nat} {xs : List α} {enc : α→List DV} {v : α} (m : idx xs n = some v) (f : Qs ops ⟨sl,hp,nx⟩ ⟨some t,.indexAddr a x y,ty,pos,af,g⟩ = some true) (p : T a = some i)
    (j : AS.ev ⟨sl,hp,nx⟩ x = some (.d (.sl es (xs.map enc)))) (b : AS.ev ⟨sl,hp,nx⟩ y = some (.d (.int k n))) (hk : i.kind = .slice) (o : es = i.esize)
    (h : OpsK P T base ops dr l ⟨(t,.dref (enc v) 0)::sl,hp,nx⟩ K) : OpsK P T base ops dr (⟨some t,.indexAddr a x y,ty,pos,af,g⟩::l) ⟨sl,hp,nx⟩ K:=by
  obtain ⟨c,q,_⟩:=qcl m;exact Ye f (v:=.dref (enc v) 0) (st1:=⟨sl,hp,nx⟩) (by simp [opFn,j,b,p,q5m,hk,o,c,q]) h (q14 rfl)
theorem qvl {α : Type} {x y : Operand} {a : TypeId} {i : TI} {k : IntKind} {n : Int} {m es len : Nat} {xs : List α} {v : α} (p : idx xs n = some v) (b : len = xs.length) (j : Qs ops ⟨sl,hp,nx⟩ ⟨some t,.indexAddr a x y,ty,pos,af,g⟩ = some true) (r : T a = some i)
    (o : AS.ev ⟨sl,hp,nx⟩ x = some (.hs m es 0 len)) (c : AS.ev ⟨sl,hp,nx⟩ y = some (.d (.int k n))) (hk : i.kind = .slice) (q : es = i.esize)
    (h : OpsK P T base ops dr l ⟨(t,.ref m es n.toNat 0)::sl,hp,nx⟩ K) : OpsK P T base ops dr (⟨some t,.indexAddr a x y,ty,pos,af,g⟩::l) ⟨sl,hp,nx⟩ K:=by
  subst b;obtain ⟨f,_,s⟩:=qcl p;exact Ye j (v:=.ref m es n.toNat 0) (st1:=⟨sl,hp,nx⟩) (by simp [opFn,o,c,r,q5m,hk,q,f];omega) h (q14 rfl)
theorem qvr {α : Type} {p : Operand} {a : TypeId} {i : TI} {m es j : Nat} {n : Int} {xs : List α} {enc : α→List DV} {r : List DV} {v : α} (w : V) (k : idx xs n = some v) (c : Qs ops ⟨sl,hp,nx⟩ ⟨some t,.load a p,ty,pos,af,g⟩ = some true) (o : T a = some i)
    (f : AS.ev ⟨sl,hp,nx⟩ p = some (.ref m es n.toNat j)) (hb : find hp m = some (.dat es (xs.map enc))) (hs : sub (enc v) j i.size = some r) (b : (q21 i.agg r).map .d = some w)
    (h : OpsK P T base ops dr l ⟨(t,w)::sl,hp,nx⟩ K) (q : okF dr l.length (fp ⟨sl,hp,nx⟩ (.load a p)) = true:=by rfl) : OpsK P T base ops dr (⟨some t,.load a p,ty,pos,af,g⟩::l) ⟨sl,hp,nx⟩ K:=
  qg2 c o f hb (by rw [List.getElem?_map,(qcl k).2.1];rfl) hs b h q
theorem Qt {α : Type} {p x : Operand} {k : TypeId} {i : TI} {m es j : Nat} {n : Int} {xs : List α} {enc : α→List DV} {v : α} (f : α) {u : V} {ds : List DV} (t : idx xs n = some v) (r : Qs ops ⟨sl,hp,nx⟩ ⟨none,.store k p x,ty,pos,af,g⟩ = some true) (y : T k = some i)
    (hp' : AS.ev ⟨sl,hp,nx⟩ p = some (.ref m es n.toNat j)) (s : AS.ev ⟨sl,hp,nx⟩ x = some u) (hb : find hp m = some (.dat es (xs.map enc))) (o : cellsOf u = ds.map .d) (q : ds.length = i.size) (hk : ds.all Zk = true) (w : j + i.size≤(enc v).length) (hs : splice (enc v) j ds = enc f)
    (h : OpsK P T base ops dr l ⟨sl,repl hp m (.dat es ((xs.set n.toNat f).map enc)),nx⟩ K) (z : okO dr l.length ⟨sl,hp,nx⟩ (.store k p x) ⟨sl,repl hp m (.dat es ((xs.set n.toNat f).map enc)),nx⟩ = true:=by rfl) : OpsK P T base ops dr (⟨none,.store k p x,ty,pos,af,g⟩::l) ⟨sl,hp,nx⟩ K:=by
  refine Ye r (v:=.dead) (st1:=⟨sl,repl hp m (.dat es ((xs.set n.toNat f).map enc)),nx⟩) ?_ h z;have a : (cellsOf u).all Kh = true:=by rw [o,List.all_map];exact hk
  have c : (cellsOf u).length = i.size:=by rw [o];simpa using q
  have b : (xs.map enc)[n.toNat]? = some (enc v):=by rw [List.getElem?_map,(qcl t).2.1];rfl
  simp only [opFn,y,hp',s,Jk,AS.blk,hb,Nat.beq_refl,b];rw [qw (by simp [a,c]),qu w,o,qby];simp only [hs,List.map_set,AS.setBlk];rfl
theorem qvs {α : Type} {x : Operand} {a : TypeId} {i : TI} {es : Nat} {xs : List α} {enc : α→List DV} (c : Qs ops ⟨sl,hp,nx⟩ ⟨some t,.call {callee:=.builtin .len,args:=#[x],argTypes:=#[a]},ty,pos,af,g⟩ = some true) (b : T a = some i) (hk : i.kind = .slice) (f : AS.ev ⟨sl,hp,nx⟩ x = some (.d (.sl es (xs.map enc))))
    (h : OpsK P T base ops dr l ⟨(t,.d (.int .i64 (xs.length : Int)))::sl,hp,nx⟩ K) : OpsK P T base ops dr (⟨some t,.call {callee:=.builtin .len,args:=#[x],argTypes:=#[a]},ty,pos,af,g⟩::l) ⟨sl,hp,nx⟩ K:=
  qvp c b hk f qd h
theorem q15 {α : Type} {x y : Operand} {a c : TypeId} {i j : TI} {n es len : Nat} {xs ys zs : List α} {enc : α→List DV} (m : V) (d : app i.ebytes xs ys = some zs) (b : len = xs.length) (r : Qs ops ⟨sl,hp,nx⟩ ⟨some t,.call {callee:=.builtin .append,args:=#[x,y],argTypes:=#[a,c]},ty,pos,af,g⟩ = some true)
    (v : T a = some i) (k : T c = some j) (s : AS.ev ⟨sl,hp,nx⟩ x = some (.hs n es 0 len)) (p : AS.ev ⟨sl,hp,nx⟩ y = some m) (hb : find hp n = some (.dat es (xs.map enc))) (w : Yv ⟨sl,hp,nx⟩ m = some (ys.map enc))
    (hk : i.kind = .slice) (f : j.kind = .slice) (u : es = i.esize) (o : U9 i.esize m = true)
    (h : OpsK P T base ops dr l ⟨(t,.hs nx es 0 zs.length)::sl,(nx,.dat es (zs.map enc))::repl hp n .dead,nx + 1⟩ K) (z : okF dr l.length (fp ⟨sl,hp,nx⟩ (.call {callee:=.builtin .append,args:=#[x,y],argTypes:=#[a,c]})) = true:=by rfl) : OpsK P T base ops dr (⟨some t,.call {callee:=.builtin .append,args:=#[x,y],argTypes:=#[a,c]},ty,pos,af,g⟩::l) ⟨sl,hp,nx⟩ K:=by
  subst b;unfold app at d;split at d
  · rename_i q;cases d;refine qvj r v k s p hb qd w hk f u o (by simpa [Nat.mul_assoc] using q) ?_ z;grind
  · cases d
theorem qls {α : Type} {x y : Operand} {a b : TypeId} {i j : TI} {ys zs : List α} {enc : α→List DV} (n : V) (c : app i.ebytes [] ys = some zs) (k : ys≠[]) (s : Qs ops ⟨sl,hp,nx⟩ ⟨some t,.call {callee:=.builtin .append,args:=#[x,y],argTypes:=#[a,b]},ty,pos,af,g⟩ = some true)
    (w : T a = some i) (m : T b = some j) (u : AS.ev ⟨sl,hp,nx⟩ x = some (.d .nilsl)) (q : AS.ev ⟨sl,hp,nx⟩ y = some n) (z : Yv ⟨sl,hp,nx⟩ n = some (ys.map enc))
    (hk : i.kind = .slice) (f : j.kind = .slice) (o : U9 i.esize n = true)
    (h : OpsK P T base ops dr l ⟨(t,.hs nx i.esize 0 zs.length)::sl,(nx,.dat i.esize (zs.map enc))::hp,nx + 1⟩ K) (hF : okF dr l.length (fp ⟨sl,hp,nx⟩ (.call {callee:=.builtin .append,args:=#[x,y],argTypes:=#[a,b]})) = true:=by rfl) : OpsK P T base ops dr (⟨some t,.call {callee:=.builtin .append,args:=#[x,y],argTypes:=#[a,b]},ty,pos,af,g⟩::l) ⟨sl,hp,nx⟩ K:=by
  unfold app at c;split at c
  · rename_i r;cases c;refine Ye s (v:=.hs nx i.esize 0 ys.length) (st1:=⟨sl,(nx,.dat i.esize (ys.map enc))::hp,nx + 1⟩) ?_ (by simp at h;exact h) (q3q rfl hF);simp only [opFn,evL,u,q,Yn];simp only [List.getElem?_toArray,List.getElem?_cons_zero,List.getElem?_cons_succ,w,m];rw [qu ⟨hk,f,o⟩];have p : ys.length≠0:=by simpa using k
    simp only [Zd,z];rw [qu (by simpa [Nat.mul_assoc,room] using r),qw (by simpa using p)];simp [AS.new]
  · cases c
theorem q2f {α : Type} {n es len : Nat} {ys : List α} {enc : α→List DV} (a : len = ys.length) (hb : find hp n = some (.dat es (ys.map enc))) : Yv ⟨sl,hp,nx⟩ (.hs n es 0 len) = some (ys.map enc):=by
  subst a;simp only [Yv,AS.blk,hb];grind
theorem qvt {α : Type} {c b : Operand} {a : TypeId} {i : TI} {k s : IntKind} {n : Int} {z : α} {zs : List α} {enc : α→List DV} (f : mks i.ebytes n z = some zs) (o : Qs ops ⟨sl,hp,nx⟩ ⟨some t,.makeSlice a b c,ty,pos,af,g⟩ = some true) (r : T a = some i) (hk : i.kind = .slice)
    (p : AS.ev ⟨sl,hp,nx⟩ b = some (.d (.int k n))) (m : AS.ev ⟨sl,hp,nx⟩ c = some (.d (.int s n))) (q : enc z = i.ezero)
    (h : OpsK P T base ops dr l ⟨(t,.hs nx i.esize 0 zs.length)::sl,(nx,.dat i.esize (zs.map enc))::hp,nx + 1⟩ K) (u : okF dr l.length (fp ⟨sl,hp,nx⟩ (.makeSlice a b c)) = true:=by rfl) : OpsK P T base ops dr (⟨some t,.makeSlice a b c,ty,pos,af,g⟩::l) ⟨sl,hp,nx⟩ K:=by
  unfold mks at f;split at f
  · rename_i j;cases f;refine Ye o (v:=.hs nx i.esize 0 n.toNat) (st1:=⟨sl,(nx,.dat i.esize (List.replicate n.toNat i.ezero))::hp,nx + 1⟩) ?_ (by simp [q] at h;exact h) (q3q rfl u);simp only [opFn,r,p,m];rw [qu ⟨hk,j.1,q8,by have:=j.2;simpa [room] using this⟩];rfl
  · cases f
theorem q13 {k c : IntKind} {a b : Int} {r : List V} : minI false (.d (.int k a)) (.d (.int c b)::r) = minI false (.d (.int k (min a b))) r:=by
  simp only [minI];grind
theorem J6 {k c : IntKind} {a b : Int} {r : List V} : minI true (.d (.int k a)) (.d (.int c b)::r) = minI true (.d (.int k (max a b))) r:=by
  simp only [minI];grind
theorem q18 {xs : Array Operand} {ats : Array TypeId} {b : List V} {k : IntKind} {a : Int} {r : Int} (f : Qs ops ⟨sl,hp,nx⟩ ⟨some t,.call {callee:=.builtin .min,args:=xs,argTypes:=ats},ty,pos,af,g⟩ = some true) (j : evL (AS.ev ⟨sl,hp,nx⟩) xs.toList = some (.d (.int k a)::b)) (c : minI false (.d (.int k a)) b = some (.d (.int k r)))
    (h : OpsK P T base ops dr l ⟨(t,.d (.int k r))::sl,hp,nx⟩ K) : OpsK P T base ops dr (⟨some t,.call {callee:=.builtin .min,args:=xs,argTypes:=ats},ty,pos,af,g⟩::l) ⟨sl,hp,nx⟩ K:=
  Ye f (v:=.d (.int k r)) (st1:=⟨sl,hp,nx⟩) (by simp [opFn,j,Yn,c]) h (q14 rfl)
theorem J7 {xs : Array Operand} {ats : Array TypeId} {b : List V} {k : IntKind} {a : Int} {r : Int} (f : Qs ops ⟨sl,hp,nx⟩ ⟨some t,.call {callee:=.builtin .max,args:=xs,argTypes:=ats},ty,pos,af,g⟩ = some true) (j : evL (AS.ev ⟨sl,hp,nx⟩) xs.toList = some (.d (.int k a)::b)) (c : minI true (.d (.int k a)) b = some (.d (.int k r)))
    (h : OpsK P T base ops dr l ⟨(t,.d (.int k r))::sl,hp,nx⟩ K) : OpsK P T base ops dr (⟨some t,.call {callee:=.builtin .max,args:=xs,argTypes:=ats},ty,pos,af,g⟩::l) ⟨sl,hp,nx⟩ K:=
  Ye f (v:=.d (.int k r)) (st1:=⟨sl,hp,nx⟩) (by simp [opFn,j,Yn,c]) h (q14 rfl)
theorem Yu {c : Call} {f : FuncId} {ds : List DV} {r : DV} (a : List V) (b : Pure P T f ds r) (j : Qs ops ⟨sl,hp,nx⟩ ⟨some t,.call c,ty,pos,af,g⟩ = some true) (k : callee ⟨sl,hp,nx⟩ c = some (f,a)) (hd : Y8 hp a = some ds)
    (hs : (a.all V.isD = true∨r.scalar = true)) (h : OpsK P T base ops dr l ⟨(t,.d r)::sl,hp,nx⟩ K) (m : okF dr l.length (fpC a) = true:=by rfl) : OpsK P T base ops dr (⟨some t,.call c,ty,pos,af,g⟩::l) ⟨sl,hp,nx⟩ K:=
  qlt j rfl k hd hs b h m
theorem Kp {hp : List (Nat × Blk)} {v : V} {d : DV} {a : List V} {ds : List DV} (h : toD hp 8 v = some d) (b : Y8 hp a = some ds) : Y8 hp (v::a) = some (d::ds):=by
  simp [Y8,h,b]
theorem Ks {α : Type} {k n es len : Nat} {ys : List α} {enc : α→List DV} (a : len = ys.length) (hb : find hp n = some (.dat es (ys.map enc))) : toD hp (k + 1) (.hs n es 0 len) = some (.sl es (ys.map enc)):=by
  subst a;simp only [toD,hb];grind
theorem qhb {k : Nat} {a : List V} {ds : List DV} (h : Zp (toD hp k) a = some ds) : toD hp (k + 1) (.tup a) = some (.tup ds):=by simp [toD,h]
theorem Zw {k : Nat} {a : List V} {ds : List DV} (h : Zp (toD hp k) a = some ds) : toD hp (k + 1) (.agg a) = some (.agg ds):=by simp [toD,h]
theorem qo9 {k : Nat} {f : FuncId} {a : List V} {ds : List DV} (h : Zp (toD hp k) a = some ds) : toD hp (k + 1) (.fn f a) = some (.fn f ds):=by simp [toD,h]
theorem Kr {k : Nat} {v : V} {d : DV} {a : List V} {ds : List DV} (h : toD hp k v = some d) (b : Zp (toD hp k) a = some ds) : Zp (toD hp k) (v::a) = some (d::ds):=by simp [Zp,h,b]
inductive DLeL : List DV→List DV→Prop
  | nil : DLeL [] []
  | cons {x y : DV} {xs ys : List DV} : DLe x y→DLeL xs ys→DLeL (x::xs) (y::ys)
theorem DLeL.len {xs ys : List DV} (h : DLeL xs ys) : xs.length = ys.length:=by
  induction h with
  | nil=>rfl
  | cons _ _ ih=>simp [ih]
theorem DLeL.get {xs ys : List DV} (h : DLeL xs ys) : ∀ (i : Nat) (x y : DV),xs[i]? = some x→ys[i]? = some y→DLe x y:=by
  induction h with
  | nil=>intro i x y h;simp at h
  | cons h1 _ ih=>grind
theorem Zy {xs ys : List DV} (h : DLeL xs ys) : DLe (.tup xs) (.tup ys):=.tup h.len h.get
theorem U7 {xs ys : List DV} (h : DLeL xs ys) : DLe (.agg xs) (.agg ys):=.agg h.len h.get
theorem finD {ex : Ex} {st : AS} {b : List ResultVar} {v : V} {r a : DV} (g : ex = .nor∨ex = .ret) (c : resV T st b = some v) (f : toD st.hp 8 v = some a) (d : DLe a r) : (ex = .nor∨ex = .ret)∧∃ v a,resV T st b = some v∧toD st.hp 8 v = some a∧DLe a r:=
  ⟨g,v,a,c,f,d⟩
end
theorem qhi {α : Type} {st : AS} {ρ : Nat→Nat} {fz ph : List Nat} {nx n es len : Nat} {ys : List α} {enc : α→List DV} (a : len = ys.length) (hb : st.blk n = some (.dat es (ys.map enc))) (b : n∈fz) : Wv st ρ fz ph nx (.hs n es 0 len) (.d (.sl es (ys.map enc))):=by
  subst a;exact .frz hb b qd (by rw [List.drop_zero,List.take_of_length_le qd]) rfl
theorem K0 {st : AS} {ρ : Nat→Nat} {fz ph : List Nat} {nx n m es o l l' : Nat} (a : l = l') (c : ρ m = n) (b : m ∉ ph) (d : m < nx) : Wv st ρ fz ph nx (.hs n es o l) (.hs m es o l'):=a ▸ .hs c b d
inductive WvC (st : AS) (ρ : Nat→Nat) (fz ph : List Nat) (nx : Nat) : List V→List V→Prop
  | nil : WvC st ρ fz ph nx [] []
  | cons {c d : V} {cs ds : List V} : Wv st ρ fz ph nx c d→Kh d = true→WvC st ρ fz ph nx cs ds→WvC st ρ fz ph nx (c::cs) (d::ds)
theorem WvC.len {st : AS} {ρ : Nat→Nat} {fz ph : List Nat} {nx : Nat} {cs ds : List V} (h : WvC st ρ fz ph nx cs ds) : cs.length = ds.length:=by
  induction h with
  | nil=>rfl
  | cons _ _ _ ih=>simp [ih]
theorem WvC.get {st : AS} {ρ : Nat→Nat} {fz ph : List Nat} {nx : Nat} {cs ds : List V} (h : WvC st ρ fz ph nx cs ds) : ∀ (j : Nat) (c d : V),cs[j]? = some c→ds[j]? = some d→Wv st ρ fz ph nx c d∧Kh d = true:=by
  induction h with
  | nil=>intro i x y h;simp at h
  | cons h1 h2 _ ih=>grind
theorem q1g {st : AS} {ρ : Nat→Nat} {fz ph : List Nat} {nx es : Nat} {cs ds : List V} (h : WvC st ρ fz ph nx cs ds) : Wb st ρ fz ph nx (.cel es [cs]) (.cel es [ds]):=by
  refine .cel rfl fun i x y a b=>?_
  cases i with
  | zero=>simp at a b;subst a b;exact ⟨h.len,h.get⟩
  | succ i=>simp at a
theorem qhe {st : AS} {ρ : Nat→Nat} {fz ph : List Nat} {nx es : Nat} {cs : List DV} {ds : List V} (h : WvC st ρ fz ph nx (cs.map .d) ds) : Wb st ρ fz ph nx (.dat es [cs]) (.cel es [ds]):=by
  refine .datcel rfl fun i x y a b=>?_
  cases i with
  | zero=>
    simp at a b;subst a b;exact ⟨by simpa using h.len,fun j c d f hd=>h.get j (.d c) d (by simp [f]) hd⟩
  | succ i=>simp at a
inductive WvL (st : AS) (ρ : Nat→Nat) (fz ph : List Nat) (nx : Nat) : List V→List V→Prop
  | nil : WvL st ρ fz ph nx [] []
  | cons {c d : V} {cs ds : List V} : Wv st ρ fz ph nx c d→WvL st ρ fz ph nx cs ds→WvL st ρ fz ph nx (c::cs) (d::ds)
theorem WvL.len {st : AS} {ρ : Nat→Nat} {fz ph : List Nat} {nx : Nat} {cs ds : List V} (h : WvL st ρ fz ph nx cs ds) : cs.length = ds.length:=by
  induction h with
  | nil=>rfl
  | cons _ _ ih=>simp [ih]
theorem WvL.get {st : AS} {ρ : Nat→Nat} {fz ph : List Nat} {nx : Nat} {cs ds : List V} (h : WvL st ρ fz ph nx cs ds) : ∀ (j : Nat) (c d : V),cs[j]? = some c→ds[j]? = some d→Wv st ρ fz ph nx c d:=by
  induction h with
  | nil=>intro i x y h;simp at h
  | cons h1 _ ih=>grind
theorem q55 {st : AS} {ρ : Nat→Nat} {fz ph : List Nat} {nx : Nat} {f : FuncId} {cs ds : List V} (h : WvL st ρ fz ph nx cs ds) : Wv st ρ fz ph nx (.fn f cs) (.fn f ds):=.fn h.len h.get
theorem qhj {st : AS} {ρ : Nat→Nat} {fz ph : List Nat} {nx : Nat} {cs ds : List V} (h : WvL st ρ fz ph nx cs ds) : Wv st ρ fz ph nx (.tup cs) (.tup ds):=.tup h.len h.get
theorem q13s {st : AS} {ρ : Nat→Nat} {fz ph : List Nat} {nx : Nat} {cs : List DV} {ds : List V} (h : WvL st ρ fz ph nx (cs.map .d) ds) : Wv st ρ fz ph nx (.d (.tup cs)) (.tup ds):=
  .dtup (by have:=h.len;simpa using this) fun i c d a hd=>h.get i _ d (by simp [a]) hd
theorem q13r {st : AS} {ρ : Nat→Nat} {fz ph : List Nat} {nx : Nat} {cs : List DV} {ds : List V} (h : WvL st ρ fz ph nx (cs.map .d) ds) : Wv st ρ fz ph nx (.d (.agg cs)) (.agg ds):=
  .dagg (by have:=h.len;simpa using this) fun i c d a hd=>h.get i _ d (by simp [a]) hd
theorem qdt {st : AS} {ρ : Nat→Nat} {fz ph : List Nat} {nx : Nat} {cs ds : List V} (h : WvL st ρ fz ph nx cs ds) : Wv st ρ fz ph nx (.agg cs) (.agg ds):=.agg h.len h.get
theorem qjj {P : Program} {T : Tab} {f : FuncId} {ds g : List DV} (j : DLeL g ds) {o : List V} {hp hp' : List (Nat × Blk)} {nx nx' : Nat} {v : V} : K3 P T f o hp nx v hp' nx'→o = ds.map .d→hp = []→nx = 0→K3 P T f (g.map .d) [] 0 v hp' nx'
  | .wk e w,a,hh,hn=>by
    have h:=qjj j e a hh hn
    subst hh hn
    exact .wk h w
  | .mk h1 h2 h3 h4 h5 h6 h7 h8,a,hh,hn=>by
    subst a hh hn
    refine .mk h1 h2 h3 h4 (by simpa [j.len] using h5) (.wk (ρ:=fun n=>n) (fz:=[]) (ph:=[]) ⟨?_,?_,?_,?_,?_,?_,?_,?_⟩ h6) h7 h8
    · intro t p a
      simp only [AS.get,q5d] at a ⊢
      simp only [Nat.zero_le,if_true,Nat.sub_zero,List.getElem?_map,Y0] at a ⊢
      obtain ⟨y,k,rfl⟩:=a
      obtain ⟨x,l⟩:=Zi (xs:=g) (i:=t) (by rw [j.len];exact K7 k)
      exact ⟨_,⟨x,l,rfl⟩,.d (j.get t x y l k)⟩
    · intro n b h;simp [AS.blk,find] at h
    · intro n m b c h;simp [AS.blk,find] at h
    · intro n b h;simp [AS.blk,find] at h
    · intro n h;rfl
    · exact Nat.le_refl _
    · intro n h;cases h
    · intro n h;cases h
theorem q22 {P : Program} {T : Tab} {f : FuncId} {ds a : List DV} {r : DV} (d : DLeL a ds) (h : Pure P T f ds r) : Pure P T f a r:=by
  obtain ⟨v,hp,nx,c,e,g,b⟩:=h;exact ⟨v,hp,nx,c,qjj d e rfl rfl rfl,g,b⟩
end Go.Am
namespace Go.Sh
open Go Go.Am
theorem Ko {α : Type} {xs : List α} {k : Nat} (h : k < xs.length) : idx xs (k : Int) = some xs[k]:=by simp [idx,h]
theorem q86 {α : Type} {xs : List α} {i : Int} {k : Nat} (hi : i = k) (h : k < xs.length) : idx xs i = some xs[k]:=by subst hi;exact Ko h
theorem Jc {α : Type} {c : Nat} {xs ys : List α} (h : (xs.length + ys.length) * (c * 4)≤4294967296) : app c xs ys = some (xs ++ ys):=by simp [app,h]
theorem Yx {α β σ : Type} {f : α→Option (α ⊕ β)} (mk : Nat→σ→α) (n : Nat) (I : Nat→σ→Prop) (Q : β→Prop)
    (step : ∀ k c,k < n→I k c→(∃ g,f (mk k c) = some (.inl (mk (k + 1) g))∧I (k + 1) g)∨∃ b,f (mk k c) = some (.inr b)∧Q b)
    (done : ∀ c,I n c→∃ b,f (mk n c) = some (.inr b)∧Q b) {k0 : Nat} {c0 : σ} (hk : k0≤n) (h : I k0 c0) : ∃ b,loop f (mk k0 c0) = some b∧Q b:=by
  have key : ∀ m k c,n - k = m→k≤n→I k c→∃ b,loop f (mk k c) = some b∧Q b:=by
    intro m
    induction m with
    | zero=>
      intro k c j hk hi;obtain rfl : k = n:=by omega
      obtain ⟨b,d,a⟩:=done c hi;exact ⟨b,Kc d,a⟩
    | succ m ih=>
      intro k c j hk hi;rcases step k c q8 hi with ⟨g,d,a⟩ | ⟨b,d,a⟩
      · rw [Kf d];exact ih (k + 1) g q8 q8 a
      · exact ⟨b,Kc d,a⟩
  exact key _ k0 c0 rfl hk h
end Go.Sh
namespace Go.Am
open Go
theorem q13x {xs : List DV} (h : q3d [] xs) : xs = []:=by cases h;rfl
end Go.Am
namespace Go.Am
open Go
theorem RunK.toEv {P : Program} {T : Tab} {base : Nat} {c : Code} {st : AS} {K : Ex→AS→Prop} (h : RunK P T base [c] st K) : ∃ ex st',Ki P T base c st ex st'∧K ex st':=Jd h
section
variable {P : Program} {T : Tab} {base : Nat} {ops : Array Oper} {l : List Oper} {sl : List (Nat × V)} {hp : List (Nat × Blk)} {nx : Nat} {K : AS→Prop} {ty : TypeId} {pos : String} {af : Array Edge} {dst : Option Tmp} {g : Option (Nat × Bool)}
theorem Uj {β : Type} {c : Call} {f : FuncId} {fn : Func} {d : Code} (k : List V) (E : β→Prop) (S : β→AS) (s : Qs ops ⟨sl,hp,nx⟩ ⟨dst,.call c,ty,pos,af,g⟩ = some true) (y : callee ⟨sl,hp,nx⟩ c = some (f,k))
    (o : P.funcs[f]? = some fn) (hb : fn.body = some d) (a : (fn.name == "runtime.NumGoroutine") = false) (j : codeOk fn.ntmps d = true) (p : Nat.ble k.length fn.ntmps = true)
    (h : RunK P T nx [d] ⟨Yb 0 k,hp,nx⟩ (fun ex st'=>(ex = .nor∨ex = .ret)∧∃ v,resV T st' fn.results.toList = some v∧∃ b,E b∧WkE base ((⟨sl,st'.hp,st'.nx⟩ : AS).putD dst v) (S b)))
    (q : ∀ b,E b→OpsK P T base ops none l (S b) K) : OpsK P T base ops none (⟨dst,.call c,ty,pos,af,g⟩::l) ⟨sl,hp,nx⟩ K:=by
  obtain ⟨ex,st',e,t,v,x,b,m,n⟩:=h.toEv;obtain ⟨st2,r,u⟩:=q b m;obtain ⟨ρ,fz,ph,w⟩:=n;exact ⟨st2,.callS s rfl y (.mk o hb a j (by simpa using p) e t x) (.wk w r),u⟩
theorem qlx {β : Type} {c : Call} {y : Operand} {n : Nat} {r : List V} {s : List (Nat × V)} {f : List Tmp} {assign body A B : Code} (E : β→Prop) (S : β→AS) (hA : assign = A) (hB : body = B) (z : Qs ops ⟨sl,hp,nx⟩ ⟨dst,.call c,ty,pos,af,g⟩ = some true)
    (m : c.callee = .value y) (q : AS.ev ⟨sl,hp,nx⟩ y = some (.yld n)) (v : evL (AS.ev ⟨sl,hp,nx⟩) c.args.toList = some r) (hb : find hp n = some (.loop s f A B .ready none)) (hl : f.length = r.length)
    (h : RunK P T nx [assign] ⟨q32 s f r,hp,nx⟩ (fun ex st1=>ex = .nor∧∃ s1,find st1.hp n = some (.loop s1 f A B .ready none)∧
      RunK P T nx [body] (st1.setBlk n (.loop s1 f A B .busy none)) (fun ex st2=>∃ k,find st2.hp n = some (.loop k f A B .busy none)∧match ex with
        | .nor=>∃ b,E b∧WkE base ((⟨sl,repl st2.hp n (.loop k f A B .ready none),st2.nx⟩ : AS).putD dst (.d (.bool true))) (S b)
        | ex=>OpsK P T base ops none l ((⟨sl,repl st2.hp n (.loop k f A B .done ex.code),st2.nx⟩ : AS).putD dst (.d (.bool false))) K)))
    (hr : ∀ b,E b→OpsK P T base ops none l (S b) K) : OpsK P T base ops none (⟨dst,.call c,ty,pos,af,g⟩::l) ⟨sl,hp,nx⟩ K:=by
  subst hA hB;obtain ⟨ac,st1,e1,rfl,s1,x,o⟩:=h.toEv;obtain ⟨ex,st2,e2,k,t,hk⟩:=o.toEv
  have key : ∀ a,Km P T base ops none l ((⟨sl,repl st2.hp n (.loop k f assign body (if ex = .nor then .ready else .done) ex.code),st2.nx⟩ : AS).putD dst (.d (.bool (decide (ex = .nor))))) a→Km P T base ops none (⟨dst,.call c,ty,pos,af,g⟩::l) ⟨sl,hp,nx⟩ a:=
    fun a h3=>.callY z rfl m q v hb hl e1 x e2 t h3
  cases ex with
  | nor=>
    obtain ⟨b,u,ρ,fz,ph,w⟩:=hk;obtain ⟨a,p,j⟩:=hr b u;exact ⟨a,key a (.wk w p),j⟩
  | exit i=>
    obtain ⟨a,p,j⟩:=hk;exact ⟨a,key a p,j⟩
  | ret=>
    obtain ⟨a,p,j⟩:=hk;exact ⟨a,key a p,j⟩
end
section
variable {P : Program} {T : Tab} {base : Nat} {cs : List Code} {sl : List (Nat × V)} {hp : List (Nat × Blk)} {nx : Nat} {K : Ex→AS→Prop}
def qht (P : Program) (T : Tab) (base : Nat) (cs : List Code) (K : Ex→AS→Prop) : Ex→AS→Prop:=qbm (fun st'=>RunK P T base cs st' K) K
theorem qn2 {k : Operand} {n : Array Tmp} {assign body : Code} {f : FuncId} {fn : Func} {j : Code} (a : List V)
    (t : AS.ev ⟨sl,hp,nx⟩ k = some (.fn f a)∨∃ ds,AS.ev ⟨sl,hp,nx⟩ k = some (.d (.fn f ds))∧a = ds.map .d)
    (o : P.funcs[f]? = some fn) (hb : fn.body = some j) (g : (fn.name == "runtime.NumGoroutine") = false) (m : codeOk fn.ntmps j = true) (p : Nat.ble (a.length + 1) fn.ntmps = true)
    (h : ∀ A B,assign = A→body = B→RunK P T (nx + 1) [j] ⟨Yb 0 (.yld nx::a),(nx,.loop sl n.toList A B .ready none)::hp,nx + 1⟩ (fun c b=>(c = .nor∨c = .ret)∧∃ v,resV T b fn.results.toList = some v∧
      ∃ (s : List (Nat × V)) (l : LoopState) (ex : Ex),find b.hp nx = some (.loop s n.toList A B l ex.code)∧l≠.busy∧qht P T base cs K ex ⟨sl,repl b.hp nx .dead,b.nx⟩)) :
    RunK P T base (.rangeFunc k n assign body::cs) ⟨sl,hp,nx⟩ K:=by
  obtain ⟨c,b,e,u,v,w,s,l,ex,x,q,r⟩:=(h assign body rfl rfl).toEv;exact ⟨ex,_,.rangeF (pe:=ex.code) t (.mk o hb g m (by simpa using p) e u w) x q rfl,r⟩
theorem qhu {st : AS} (h : RunK P T base cs st K) : qht P T base cs K .nor st:=h
end
inductive WvS (st : AS) (ρ : Nat→Nat) (fz ph : List Nat) (nx : Nat) : List (Nat × V)→List (Nat × V)→Prop
  | nil {s : List (Nat × V)} : WvS st ρ fz ph nx s []
  | cons {s s' : List (Nat × V)} {t : Nat} {v v' : V} : find s t = some v→Wv st ρ fz ph nx v v'→WvS st ρ fz ph nx s s'→WvS st ρ fz ph nx s ((t,v')::s')
theorem q13k {st : AS} {ρ : Nat→Nat} {fz ph : List Nat} {nx : Nat} {s b : List (Nat × V)} {c : List Tmp} {as f : Code} {d : LoopState} {pe : Option Code} (h : WvS st ρ fz ph nx s b) : Wb st ρ fz ph nx (.loop s c as f d pe) (.loop b c as f d pe):=by
  refine .loop fun t g a=>?_
  induction h with
  | nil=>simp [find] at a
  | @cons b t' v v'' h1 h2 _ ih=>
    simp only [find] at a
    cases hb : Nat.beq t' t with
    | true=>rw [hb] at a;cases a;obtain rfl:=Nat.eq_of_beq_eq_true hb;exact ⟨v,h1,h2⟩
    | false=>rw [hb] at a;exact ih a
theorem qh7 {α : Type} {enc : α→List DV} {es : Nat} (a : ∀ x,(enc x).length = es) {xs : List α} {k : Nat} {v : α} (h : xs[k]? = some v) : sub (xs.flatMap enc) (k * es) es = some (enc v):=by
  induction xs generalizing k with
  | nil=>simp at h
  | cons x xs ih=>
    cases k with
    | zero=>
      simp at h;subst h;have:=a x;simp [sub,List.flatMap_cons,this]
    | succ k=>
      have b : xs[k]? = some v:=by simpa using h
      have:=ih b;unfold sub at this ⊢;have d:=a x;have hk : (k + 1) * es = (enc x).length + k * es:=by rw [Nat.succ_mul,d];omega
      rw [List.flatMap_cons,hk];split at this
      · rename_i c;rw [qu (by rw [List.length_append];omega),← List.drop_drop,List.drop_left];exact this
      · cases this
theorem q12i {α : Type} {enc : α→List DV} {es : Nat} (a : ∀ x,(enc x).length = es) {xs : List α} {k : Nat} {v : α} (h : k < xs.length) : splice (xs.flatMap enc) (k * es) (enc v) = (xs.set k v).flatMap enc:=by
  induction xs generalizing k with
  | nil=>simp at h
  | cons x xs ih=>
    have b:=a x;have c:=a v
    cases k with
    | zero=>
      simp only [splice,Nat.zero_mul,List.take_zero,List.nil_append,Nat.zero_add,List.flatMap_cons,List.set_cons_zero];rw [c,← b,List.drop_left]
    | succ k=>
      have:=ih (k:=k) (by simpa using h);simp only [splice] at this ⊢;have hk : (k + 1) * es = (enc x).length + k * es:=by rw [Nat.succ_mul,b];omega
      rw [List.flatMap_cons,List.set_cons_succ,List.flatMap_cons,hk,← this];rw [List.take_length_add_append,show (enc x).length + k * es + (enc v).length = (enc x).length + (k * es + (enc v).length) by omega,← List.drop_drop,List.drop_left];simp [List.append_assoc]
theorem q84 {α : Type} {enc : α→List DV} {es : Nat} (a : ∀ x,(enc x).length = es) (xs : List α) : (xs.flatMap enc).length = xs.length * es:=by
  induction xs with
  | nil=>simp
  | cons x xs ih=>rw [List.flatMap_cons,List.length_append,a,ih,List.length_cons,Nat.succ_mul];omega
def idxA {α : Type} (n : Nat) (xs : List α) (i : Int) : Option α:=if 0≤i∧i < n then xs[i.toNat]? else none
def andI (k : IntKind) (x y : Int) : Int:=k.wrap (BitVec.ofInt k.bits x &&& BitVec.ofInt k.bits y).toNat
def xorI (k : IntKind) (x y : Int) : Int:=k.wrap (BitVec.ofInt k.bits x ^^^ BitVec.ofInt k.bits y).toNat
section
variable {P : Program} {T : Tab} {base : Nat} {ops : Array Oper} {dr : Dr} {l : List Oper} {sl : List (Nat × V)} {hp : List (Nat × Blk)} {nx : Nat} {K : AS→Prop} {ty : TypeId} {pos : String} {af : Array Edge} {t : Tmp} {g : Option (Nat × Bool)}
theorem q130 {α β : Type} (f : α→β) (cs : List α) (j n : Nat) : sub (cs.map f) j n = (sub cs j n).map (·.map f):=by
  unfold sub;simp only [List.length_map];split
  · simp [List.map_take,List.map_drop]
  · rfl
theorem q85 {α : Type} {n : Nat} {xs : List α} {i : Int} {v : α} (h : idxA n xs i = some v) : 0≤i∧i < n∧xs[i.toNat]? = some v:=by
  unfold idxA at h;split at h
  · rename_i a;exact ⟨a.1,a.2,h⟩
  · cases h
theorem qvn {α : Type} {x y : Operand} {a : TypeId} {i : TI} {k : IntKind} {n : Int} {enc : α→List DV} {v : α} (xs : List α) (w : V) (q : idxA i.len xs n = some v) (b : ∀ x,(enc x).length = i.esize) (o : Qs ops ⟨sl,hp,nx⟩ ⟨some t,.index a x y,ty,pos,af,g⟩ = some true) (r : T a = some i)
    (p : AS.ev ⟨sl,hp,nx⟩ x = some (.d (.agg (xs.flatMap enc)))) (j : AS.ev ⟨sl,hp,nx⟩ y = some (.d (.int k n))) (hk : i.kind = .array) (c : pack i.eagg ((enc v).map .d) = some w)
    (h : OpsK P T base ops dr l ⟨(t,w)::sl,hp,nx⟩ K) : OpsK P T base ops dr (⟨some t,.index a x y,ty,pos,af,g⟩::l) ⟨sl,hp,nx⟩ K:=by
  obtain ⟨m,s,f⟩:=q85 q;refine Ye o (v:=w) (st1:=⟨sl,hp,nx⟩) ?_ h (q14 rfl);simp only [opFn,r,p,j,hk,agD];rw [qu ⟨m,s⟩,q130,qh7 b f];simp only [Option.map_some,c]
theorem q63 {α : Type} {x y : Operand} {a : TypeId} {i : TI} {k : IntKind} {n : Int} {m es : Nat} {v : α} {xs : List α} (o : idxA i.len xs n = some v) (f : Qs ops ⟨sl,hp,nx⟩ ⟨some t,.indexAddr a x y,ty,pos,af,g⟩ = some true) (p : T a = some i)
    (j : AS.ev ⟨sl,hp,nx⟩ x = some (.ref m es 0 0)) (b : AS.ev ⟨sl,hp,nx⟩ y = some (.d (.int k n))) (hk : i.kind = .array)
    (h : OpsK P T base ops dr l ⟨(t,.ref m es 0 (n.toNat * i.esize))::sl,hp,nx⟩ K) : OpsK P T base ops dr (⟨some t,.indexAddr a x y,ty,pos,af,g⟩::l) ⟨sl,hp,nx⟩ K:=by
  obtain ⟨c,q,_⟩:=q85 o;exact Ye f (v:=.ref m es 0 (n.toNat * i.esize)) (st1:=⟨sl,hp,nx⟩) (by simp [opFn,j,b,p,q5m,hk,c,q]) h (q14 rfl)
theorem qg1 {α : Type} {p : Operand} {a : TypeId} {i : TI} {m es sz q : Nat} {n : Int} {xs : List α} {enc : α→List DV} {v : α} (w : V) (k : idxA q xs n = some v) (b : ∀ x,(enc x).length = sz) (f : Qs ops ⟨sl,hp,nx⟩ ⟨some t,.load a p,ty,pos,af,g⟩ = some true) (o : T a = some i)
    (j : AS.ev ⟨sl,hp,nx⟩ p = some (.ref m es 0 (n.toNat * sz))) (hb : find hp m = some (.dat es [xs.flatMap enc])) (hs : sz = i.size) (c : (q21 i.agg (enc v)).map .d = some w)
    (h : OpsK P T base ops dr l ⟨(t,w)::sl,hp,nx⟩ K) (r : okF dr l.length (fp ⟨sl,hp,nx⟩ (.load a p)) = true:=by rfl) : OpsK P T base ops dr (⟨some t,.load a p,ty,pos,af,g⟩::l) ⟨sl,hp,nx⟩ K:=
  qg2 f o j hb rfl (by rw [← hs];exact qh7 b (q85 k).2.2) c h r
theorem q131 {α : Type} {enc : α→List DV} {es : Nat} (b : ∀ x,(enc x).length = es) {xs : List α} {k off s : Nat} {v : α} {r : List DV} (h : xs[k]? = some v) (hs : sub (enc v) off s = some r) : sub (xs.flatMap enc) (k * es + off) s = some r:=by
  have c:=qh7 b h;unfold sub at c hs ⊢;split at c
  · rename_i d;split at hs
    · rename_i a;rw [b] at a;have e : ((xs.flatMap enc).drop (k * es)).take es = enc v:=Zl c;rw [qu q8,← hs,← e,← List.drop_drop];congr 1;rw [List.drop_take,List.take_take,Nat.min_eq_left q8]
    · cases hs
  · cases c
theorem qlu {α : Type} {p : Operand} {a : TypeId} {i : TI} {m es sz q off : Nat} {n : Int} {xs : List α} {enc : α→List DV} {v : α} {r : List DV} (w : V) (k : idxA q xs n = some v) (b : ∀ x,(enc x).length = sz) (f : Qs ops ⟨sl,hp,nx⟩ ⟨some t,.load a p,ty,pos,af,g⟩ = some true) (o : T a = some i)
    (j : AS.ev ⟨sl,hp,nx⟩ p = some (.ref m es 0 (n.toNat * sz + off))) (hb : find hp m = some (.dat es [xs.flatMap enc])) (hs : sub (enc v) off i.size = some r) (c : (q21 i.agg r).map .d = some w)
    (h : OpsK P T base ops dr l ⟨(t,w)::sl,hp,nx⟩ K) (s : okF dr l.length (fp ⟨sl,hp,nx⟩ (.load a p)) = true:=by rfl) : OpsK P T base ops dr (⟨some t,.load a p,ty,pos,af,g⟩::l) ⟨sl,hp,nx⟩ K:=
  qg2 f o j hb rfl (q131 b (q85 k).2.2 hs) c h s
theorem qvy {α : Type} {p x : Operand} {k : TypeId} {i : TI} {m es sz y : Nat} {n : Int} {xs : List α} {enc : α→List DV} {v : α} (c : α) {u : V} (t : idxA y xs n = some v) (a : ∀ x,(enc x).length = sz) (r : Qs ops ⟨sl,hp,nx⟩ ⟨none,.store k p x,ty,pos,af,g⟩ = some true) (w : T k = some i)
    (hp' : AS.ev ⟨sl,hp,nx⟩ p = some (.ref m es 0 (n.toNat * sz))) (s : AS.ev ⟨sl,hp,nx⟩ x = some u) (hb : find hp m = some (.dat es [xs.flatMap enc])) (hs : sz = i.size) (q : cellsOf u = (enc c).map .d) (hk : (enc c).all Zk = true)
    (h : OpsK P T base ops dr l ⟨sl,repl hp m (.dat es [(xs.set n.toNat c).flatMap enc]),nx⟩ K) (z : okO dr l.length ⟨sl,hp,nx⟩ (.store k p x) ⟨sl,repl hp m (.dat es [(xs.set n.toNat c).flatMap enc]),nx⟩ = true:=by rfl) : OpsK P T base ops dr (⟨none,.store k p x,ty,pos,af,g⟩::l) ⟨sl,hp,nx⟩ K:=by
  have b:=K7 (q85 t).2.2;refine Ye r (v:=.dead) (st1:=⟨sl,repl hp m (.dat es [(xs.set n.toNat c).flatMap enc]),nx⟩) ?_ h z;have f : (cellsOf u).all Kh = true:=by rw [q,List.all_map];exact hk
  have j : (cellsOf u).length = i.size:=by rw [q,List.length_map,a];exact hs
  have o : n.toNat * sz + i.size≤(xs.flatMap enc).length:=by
    rw [q84 a,← hs,← Nat.succ_mul];exact Nat.mul_le_mul_right _ b
  simp only [opFn,w,hp',s,Jk,AS.blk,hb,Nat.beq_refl];rw [qw (by simp [f,j])];simp only [List.getElem?_cons_zero];rw [qu o,q,qby];simp only [q12i a b,AS.setBlk,List.set_cons_zero];rfl
theorem qor {hp : List (Nat × Blk)} {a : List V} {ds C : List DV} (h : Y8 hp a = some ds) : Y8 hp (a ++ C.map .d) = some (ds ++ C):=by
  induction a generalizing ds with
  | nil=>
    simp [Y8] at h;subst h
    induction C with
    | nil=>rfl
    | cons c C ih=>
      simp only [List.nil_append,List.map_cons] at ih ⊢;simp only [Y8];rw [show toD hp 8 (.d c) = some c from rfl,ih]
  | cons v a ih=>
    simp only [Y8] at h;split at h <;> simp at h
    rename_i x l f b;subst h;simp only [List.cons_append,Y8,f,ih b]
theorem qsw {a : List V} {C : List DV} : fpC (a ++ C.map .d) = fpC a:=by
  unfold fpC;have : (C.map V.d).all V.isD = true:=by rw [List.all_map];simp [V.isD]
  rw [List.all_append,this,Bool.and_true]
theorem Kk {c : Call} {f : FuncId} {C ds : List DV} {r : DV} (a : List V) (b : Pure P T f (ds ++ C) r) (j : Qs ops ⟨sl,hp,nx⟩ ⟨some t,.call c,ty,pos,af,g⟩ = some true) (k : callee ⟨sl,hp,nx⟩ c = some (f,a ++ C.map .d)) (hd : Y8 hp a = some ds)
    (hs : (a.all V.isD = true∨r.scalar = true)) (h : OpsK P T base ops dr l ⟨(t,.d r)::sl,hp,nx⟩ K) (m : okF dr l.length (fpC a) = true:=by rfl) : OpsK P T base ops dr (⟨some t,.call c,ty,pos,af,g⟩::l) ⟨sl,hp,nx⟩ K:=by
  refine qlt j rfl k (qor hd) ?_ b h (by rw [qsw];exact m);rcases hs with hs | hs
  · left;rw [List.all_append,hs,Bool.true_and,List.all_map];simp [V.isD]
  · exact .inr hs
end
end Go.Am
namespace Go.Am
open Go
theorem Z6 {base : Nat} {st st' : AS} (l : List (Nat × Nat)) (fz ph : List Nat) (g : wkOk base l fz ph st'.hp st'.nx = true) (hs : WkL st (rho l) fz ph st'.nx st'.sl) (q : WkH st (rho l) fz ph st'.nx st'.hp) : Wk base (rho l) fz ph st st':=by
  simp only [wkOk,Bool.and_eq_true,Nat.ble_eq,List.all_eq_true] at g;obtain ⟨⟨⟨⟨u,p⟩,r⟩,v⟩,o⟩:=g;refine ⟨?_,?_,?_,?_,?_,u,?_,?_⟩
  · exact fun t x h=>hs.get (Jf h)
  · exact fun n y h=>q.get (Jf h)
  · intro n m b c a k d j s;have:=o _ (Jf a);simp only [Bool.or_eq_true,Bool.and_eq_true,q5s,List.all_eq_true,Bool.not_eq_true'] at this;rcases this with h | h
    · exact absurd h d
    · have:=h.2 _ (Jf k);rcases this with (f | f) | f
      · exact absurd f j
      · rw [s] at f;simp at f
      · exact Nat.eq_of_beq_eq_true f
  · intro n b a d w;have:=o _ (Jf a);simp only [Bool.or_eq_true,Bool.and_eq_true,q5s,Bool.not_eq_true'] at this;rcases this with h | h
    · exact absurd h d
    · rw [q5s.2 w] at h;exact absurd h.1 qd
  · intro n a;unfold rho;split
    · rename_i m k;have:=p _ (Jf k);simp at this;omega
    · rfl
  · exact fun n a=>r n a
  · exact fun n a=>v n a
def q7l (l l3 : List (Nat × Nat)) (k k' nx nxN : Nat) : Bool:=
  (List.range k).all (fun i=>Nat.blt (rho l i) nx && Nat.beq (rho l3 (rho l i)) i) && (List.range nx).all (fun m=>(Nat.blt (rho l3 m) k && Nat.beq (rho l (rho l3 m)) m) || Nat.ble k' (rho l3 m)) && Nat.ble nx nxN
def OldL (l : List (Nat × Nat)) (k : Nat) (hp hpR : List (Nat × Blk)) : List (Nat × Blk)→Prop
  | []=>True
  | (m,b)::r=>(find hpR m = some b∨(find hp m = some b∧(List.range k).all (fun i=>!(Nat.beq (rho l i) m)) = true))∧OldL l k hp hpR r
theorem OldL.get {l : List (Nat × Nat)} {k : Nat} {hp a : List (Nat × Blk)} : ∀ {r : List (Nat × Blk)},OldL l k hp a r→∀ m b,(m,b)∈r→find a m = some b∨(find hp m = some b∧∀ i,i < k→rho l i≠m)
  | [],_,m,b,h=>by cases h
  | (m',b')::r,h,m,b,c=>by
    rcases List.mem_cons.1 c with e | c
    · cases e
      refine h.1.imp (fun x=>x) fun ⟨d,h2⟩=>⟨d,fun i hi e=>?_⟩
      have:=List.all_eq_true.1 h2 i (List.mem_range.2 hi)
      rw [e] at this;simp at this
    · exact OldL.get h.2 m b c
section
variable {P : Program} {T : Tab} {base : Nat} {ops : Array Oper} {l : List Oper} {sl : List (Nat × V)} {hp : List (Nat × Blk)} {nx : Nat} {K : AS→Prop} {ty : TypeId} {pos : String} {af : Array Edge} {dst : Option Tmp} {g : Option (Nat × Bool)}
theorem q16 {c : Call} {f : FuncId} {j : List V} {hp0 o : List (Nat × Blk)} {k r : Nat} {y : V} (w z : List (Nat × Nat)) (v : List V) (x : V) (a q : List (Nat × Blk)) (d : Nat) (he : K3 P T f j hp0 k y o r) (hg : Qs ops ⟨sl,hp,nx⟩ ⟨dst,.call c,ty,pos,af,g⟩ = some true) (hc : callee ⟨sl,hp,nx⟩ c = some (f,v)) (p : v.length = j.length)
    (s : Wk 0 (rho w) [] [] ⟨Yb 0 v,hp,nx⟩ ⟨Yb 0 j,hp0,k⟩) (t : Wk 0 (rho z) [] [] ⟨[(0,y)],o,r⟩ ⟨[(0,x)],a,d⟩) (hb : q7l w z k r nx d = true) (hold : OldL w k hp a q)
    (h : OpsK P T base ops none l ((⟨sl,q,d⟩ : AS).putD dst x) K) : OpsK P T base ops none (⟨dst,.call c,ty,pos,af,g⟩::l) ⟨sl,hp,nx⟩ K:=by
  obtain ⟨st2,e2,k2⟩:=h;refine ⟨st2,.callF hg rfl hc p s he t ⟨?_,?_,?_,?_,?_⟩ e2,k2⟩
  · intro i hi;simp only [q7l,Bool.and_eq_true,List.all_eq_true,List.mem_range] at hb;have:=hb.1.1 i hi;exact ⟨by simpa [Nat.blt_eq] using this.1,Nat.eq_of_beq_eq_true this.2⟩
  · intro m u;simp only [q7l,Bool.and_eq_true,List.all_eq_true,List.mem_range,Bool.or_eq_true] at hb;rcases hb.1.2 m u with n | n
    · exact .inl ⟨by simpa [Nat.blt_eq] using n.1,Nat.eq_of_beq_eq_true n.2⟩
    · exact .inr (by simpa using n)
  · intro m u;cases u
  · exact fun m b n=>hold.get m b (Jf n)
  · simp only [q7l,Bool.and_eq_true] at hb;simpa using hb.2
end
section
variable {P : Program} {T : Tab} {base : Nat} {ops : Array Oper} {l : List Oper} {dr : Dr} {sl : List (Nat × V)} {hp : List (Nat × Blk)} {nx : Nat} {K : AS→Prop} {ty : TypeId} {pos : String} {af : Array Edge} {dst : Option Tmp} {g : Option (Nat × Bool)}
end
theorem Kj {P : Program} {T : Tab} {f : FuncId} {fn : Func} {c : Code} {g : List V} {hp b : List (Nat × Blk)} {nx j : Nat} {k : V} (l : P.funcs[f]? = some fn) (hb : fn.body = some c) (a : (fn.name == "runtime.NumGoroutine") = false) (d : codeOk fn.ntmps c = true) (m : Nat.ble g.length fn.ntmps = true)
    (h : RunK P T nx [c] ⟨Yb 0 g,hp,nx⟩ (fun ex st=>(ex = .nor∨ex = .ret)∧∃ v,resV T st fn.results.toList = some v∧WkE nx ⟨[(0,v)],st.hp,st.nx⟩ ⟨[(0,k)],b,j⟩)) : K3 P T f g hp nx k b j:=by
  obtain ⟨ex,st',e,n,v,o,ρ,fz,ph,w⟩:=Jd h;exact .wk (.mk l hb a d (by simpa using m) e n o) w
def shlK (k : IntKind) (x y : Int) : Option Int:=if y < 0 then none else some (k.wrap (x * 2 ^ (min y.toNat k.bits)))
section
variable {P : Program} {T : Tab} {base : Nat} {ops : Array Oper} {dr : Dr} {l : List Oper} {sl : List (Nat × V)} {hp : List (Nat × Blk)} {nx : Nat} {K : AS→Prop} {ty : TypeId} {pos : String} {af : Array Edge} {t : Tmp} {g : Option (Nat × Bool)}
theorem qvw {x y : Operand} {j f : TypeId} {a b r : Int} {k p : IntKind} (c : shlK k a b = some r) (o : Qs ops ⟨sl,hp,nx⟩ ⟨some t,.binOp .shl j x y f,ty,pos,af,g⟩ = some true) (q : AS.ev ⟨sl,hp,nx⟩ x = some (.d (.int k a))) (m : AS.ev ⟨sl,hp,nx⟩ y = some (.d (.int p b)))
    (h : OpsK P T base ops dr l ⟨(t,.d (.int k r))::sl,hp,nx⟩ K) : OpsK P T base ops dr (⟨some t,.binOp .shl j x y f,ty,pos,af,g⟩::l) ⟨sl,hp,nx⟩ K:=by
  unfold shlK at c;split at c
  · cases c
  · rename_i n;cases c;exact Ye o (v:=.d (.int k (k.wrap (a * 2 ^ (min b.toNat k.bits))))) (st1:=⟨sl,hp,nx⟩) (by simp [opFn,q,m,binD,q91,n]) h (q14 rfl)
end
def K1 (n m : Nat) : Option Unit:=if n = m then some () else none
theorem Ku {n m : Nat} {u : Unit} (h : K1 n m = some u) : n = m:=by
  unfold K1 at h;split at h
  · assumption
  · cases h
def q4y (s : ByteArray) (i : Int) : Option Int:=(if 0≤i then s[i.toNat]? else none).map fun b=>(b.toNat : Int)
theorem qvo {P : Program} {T : Tab} {base : Nat} {ops : Array Oper} {dr : Dr} {l : List Oper} {sl : List (Nat × V)} {hp : List (Nat × Blk)} {nx : Nat} {K : AS→Prop} {ty : TypeId} {pos : String} {af : Array Edge} {t : Tmp} {g : Option (Nat × Bool)} {x y : Operand} {a : TypeId} {i : TI} {k : IntKind} {n v : Int} (s : ByteArray) (c : q4y s n = some v) (j : Qs ops ⟨sl,hp,nx⟩ ⟨some t,.index a x y,ty,pos,af,g⟩ = some true) (o : T a = some i)
    (m : AS.ev ⟨sl,hp,nx⟩ x = some (.d (.str s))) (f : AS.ev ⟨sl,hp,nx⟩ y = some (.d (.int k n))) (hk : i.kind = .str)
    (h : OpsK P T base ops dr l ⟨(t,.d (.int .u8 v))::sl,hp,nx⟩ K) : OpsK P T base ops dr (⟨some t,.index a x y,ty,pos,af,g⟩::l) ⟨sl,hp,nx⟩ K:=by
  unfold q4y at c;rw [Y0] at c;obtain ⟨b,hb,rfl⟩:=c;refine Ye j (v:=.d (.int .u8 b.toNat)) (st1:=⟨sl,hp,nx⟩) ?_ h (q14 rfl);simp only [opFn,o,m,f,hk,hb,Option.map_some]
open Classical in
noncomputable def lim {α : Type} (f : Nat→Option α) : Option α:=if h : ∃ r n,f n = some r then some h.choose else none
theorem qcp {α : Type} {f : Nat→Option α} {r : α} (h : lim f = some r) : ∃ n,f n = some r:=by
  unfold lim at h;split at h
  · rename_i a;cases h;exact a.choose_spec
  · cases h
theorem qu8 {α : Type} {f : Nat→Option α} {n : Nat} {r : α} (h : f n = some r) : ∃ a,lim f = some a:=by
  unfold lim;rw [dif_pos ⟨r,n,h⟩];exact ⟨_,rfl⟩
theorem qgl {P : Program} {T : Tab} {base : Nat} {c : Code} {cs : List Code} {st : AS} {K : Ex→AS→Prop} (h : RunK P T base (c::.loop c::cs) st K) : RunK P T base (.loop c::cs) st K:=by
  obtain ⟨ex,st1,e1,a⟩:=h
  cases ex with
  | nor=>
    obtain ⟨b,st2,f,d⟩:=a;exact ⟨b,st2,.loopN e1 f,d⟩
  | exit i=>exact ⟨_,_,.loopX e1 qd,a⟩
  | ret=>exact ⟨_,_,.loopX e1 qd,a⟩
section
variable {P : Program} {T : Tab} {base : Nat} {ops : Array Oper} {dr : Dr} {l : List Oper} {sl : List (Nat × V)} {hp : List (Nat × Blk)} {nx : Nat} {K : AS→Prop} {ty : TypeId} {pos : String} {af : Array Edge} {t : Tmp} {g : Option (Nat × Bool)}
end
section
variable {P : Program} {T : Tab} {base : Nat} {ops : Array Oper} {dr : Dr} {l : List Oper} {sl : List (Nat × V)} {hp : List (Nat × Blk)} {nx : Nat} {K : AS→Prop} {ty : TypeId} {pos : String} {af : Array Edge} {t : Tmp} {g : Option (Nat × Bool)}
end
end Go.Am
namespace Go.Am
open Go
theorem O {α : Sort _} {a : α} : a = a:=rfl
abbrev qj (n : Int) : DV:=.int .i64 n
abbrev qb (n : Int) : V:=.d (.int .i64 n)
abbrev Q1 (b : Bool) : V:=.d (.bool b)
section
variable {P : Program} {T : Tab} {base : Nat} {ops : Array Oper} {dr : Dr} {l : List Oper} {sl : List (Nat × V)} {hp : List (Nat × Blk)} {nx : Nat} {K : AS→Prop} {ty : TypeId} {pos : String} {af : Array Edge} {t : Tmp} {g : Option (Nat × Bool)} {v : V}
theorem q0 {x : Operand} (a : (Qs ops ⟨sl,hp,nx⟩ ⟨some t,.move x,ty,pos,af,g⟩,AS.ev ⟨sl,hp,nx⟩ x) = (some true,some v))
    (h : OpsK P T base ops dr l ⟨(t,v)::sl,hp,nx⟩ K) : OpsK P T base ops dr (⟨some t,.move x,ty,pos,af,g⟩::l) ⟨sl,hp,nx⟩ K:=qg4 (Prod.mk.inj a).1 (Prod.mk.inj a).2 h
theorem qf {x : Operand} (a : (Qs ops ⟨sl,hp,nx⟩ ⟨some t,.assign x,ty,pos,af,g⟩,AS.ev ⟨sl,hp,nx⟩ x) = (some true,some v))
    (h : OpsK P T base ops dr l ⟨(t,v)::sl,hp,nx⟩ K) : OpsK P T base ops dr (⟨some t,.assign x,ty,pos,af,g⟩::l) ⟨sl,hp,nx⟩ K:=qvk (Prod.mk.inj a).1 (Prod.mk.inj a).2 h
theorem U {op : Op} (v : V) (a : (Qs ops ⟨sl,hp,nx⟩ ⟨some t,op,ty,pos,af,g⟩,opFn T ⟨sl,hp,nx⟩ op) = (some true,some (v,⟨sl,hp,nx⟩))) (h : OpsK P T base ops dr l ⟨(t,v)::sl,hp,nx⟩ K)
    (b : okO dr l.length ⟨sl,hp,nx⟩ (op) ⟨sl,hp,nx⟩ = true:=by rfl) : OpsK P T base ops dr (⟨some t,op,ty,pos,af,g⟩::l) ⟨sl,hp,nx⟩ K:=q8n v (Prod.mk.inj a).1 (Prod.mk.inj a).2 h b
theorem Qp {op : Op} (n : Nat) (b : Blk) (a : (Qs ops ⟨sl,hp,nx⟩ ⟨none,op,ty,pos,af,g⟩,opFn T ⟨sl,hp,nx⟩ op) = (some true,some (.dead,⟨sl,repl hp n b,nx⟩))) (h : OpsK P T base ops dr l ⟨sl,repl hp n b,nx⟩ K) (c : okO dr l.length ⟨sl,hp,nx⟩ (op) ⟨sl,repl hp n b,nx⟩ = true:=by rfl) : OpsK P T base ops dr (⟨none,op,ty,pos,af,g⟩::l) ⟨sl,hp,nx⟩ K:=
  qvz n b (Prod.mk.inj a).1 (Prod.mk.inj a).2 h c
theorem Qn {op : Op} (v : V) (b : Blk) (a : (Qs ops ⟨sl,hp,nx⟩ ⟨some t,op,ty,pos,af,g⟩,opFn T ⟨sl,hp,nx⟩ op) = (some true,some (v,⟨sl,(nx,b)::hp,nx + 1⟩))) (h : OpsK P T base ops dr l ⟨(t,v)::sl,(nx,b)::hp,nx + 1⟩ K) (c : okO dr l.length ⟨sl,hp,nx⟩ (op) ⟨sl,(nx,b)::hp,nx + 1⟩ = true:=by rfl) : OpsK P T base ops dr (⟨some t,op,ty,pos,af,g⟩::l) ⟨sl,hp,nx⟩ K:=
  q8m v b (Prod.mk.inj a).1 (Prod.mk.inj a).2 h c
theorem Y3 {α : Type} {x y : Operand} {a : TypeId} {i : TI} {k : IntKind} {n : Int} {es : Nat} {xs : List α} {enc : α→List DV} {v : α} (m : idx xs n = some v)
    (b : (Qs ops ⟨sl,hp,nx⟩ ⟨some t,.indexAddr a x y,ty,pos,af,g⟩,T a,AS.ev ⟨sl,hp,nx⟩ x,AS.ev ⟨sl,hp,nx⟩ y,i.kind,es) = (some true,some i,some (.d (.sl es (xs.map enc))),some (.d (.int k n)),.slice,i.esize))
    (h : OpsK P T base ops dr l ⟨(t,.dref (enc v) 0)::sl,hp,nx⟩ K) : OpsK P T base ops dr (⟨some t,.indexAddr a x y,ty,pos,af,g⟩::l) ⟨sl,hp,nx⟩ K:=by
  simp only [Prod.mk.injEq] at b;obtain ⟨p,c,f,o,q,j⟩:=b;exact qvm m p c f o q j h
theorem qo {α : Type} {x y : Operand} {a : TypeId} {i : TI} {k : IntKind} {n : Int} {m es len : Nat} {xs : List α} {v : α} (p : idx xs n = some v) (c : len = xs.length)
    (b : (Qs ops ⟨sl,hp,nx⟩ ⟨some t,.indexAddr a x y,ty,pos,af,g⟩,T a,AS.ev ⟨sl,hp,nx⟩ x,AS.ev ⟨sl,hp,nx⟩ y,i.kind,es) = (some true,some i,some (.hs m es 0 len),some (.d (.int k n)),.slice,i.esize))
    (h : OpsK P T base ops dr l ⟨(t,.ref m es n.toNat 0)::sl,hp,nx⟩ K) : OpsK P T base ops dr (⟨some t,.indexAddr a x y,ty,pos,af,g⟩::l) ⟨sl,hp,nx⟩ K:=by
  simp only [Prod.mk.injEq] at b;obtain ⟨r,f,j,q,s,o⟩:=b;exact qvl p c r f j q s o h
theorem Q3 {α : Type} {p : Operand} {a : TypeId} {i : TI} {m es j : Nat} {n : Int} {xs : List α} {enc : α→List DV} {r : List DV} {v : α} (w : V) (o : idx xs n = some v)
    (b : (Qs ops ⟨sl,hp,nx⟩ ⟨some t,.load a p,ty,pos,af,g⟩,T a,AS.ev ⟨sl,hp,nx⟩ p,find hp m,sub (enc v) j i.size,(q21 i.agg r).map V.d) = (some true,some i,some (.ref m es n.toNat j),some (.dat es (xs.map enc)),some r,some w))
    (h : OpsK P T base ops dr l ⟨(t,w)::sl,hp,nx⟩ K) (x : okF dr l.length (fp ⟨sl,hp,nx⟩ (.load a p)) = true:=by rfl) : OpsK P T base ops dr (⟨some t,.load a p,ty,pos,af,g⟩::l) ⟨sl,hp,nx⟩ K:=by
  simp only [Prod.mk.injEq] at b;obtain ⟨s,c,f,q,u,k⟩:=b;exact qvr w o s c f q u k h x
theorem Ky {α : Type} {x : Operand} {a : TypeId} {i : TI} {es : Nat} {xs : List α} {enc : α→List DV}
    (b : (Qs ops ⟨sl,hp,nx⟩ ⟨some t,.call {callee:=.builtin .len,args:=#[x],argTypes:=#[a]},ty,pos,af,g⟩,T a,i.kind,AS.ev ⟨sl,hp,nx⟩ x) = (some true,some i,.slice,some (.d (.sl es (xs.map enc)))))
    (h : OpsK P T base ops dr l ⟨(t,.d (.int .i64 (xs.length : Int)))::sl,hp,nx⟩ K) : OpsK P T base ops dr (⟨some t,.call {callee:=.builtin .len,args:=#[x],argTypes:=#[a]},ty,pos,af,g⟩::l) ⟨sl,hp,nx⟩ K:=by
  simp only [Prod.mk.injEq] at b;obtain ⟨j,c,k,f⟩:=b;exact qvs j c k f h
theorem Q4 {c : Call} {f : FuncId} {ds : List DV} {r : DV} {a : List V} (b : Pure P T f ds r) (j : (Qs ops ⟨sl,hp,nx⟩ ⟨some t,.call c,ty,pos,af,g⟩,callee ⟨sl,hp,nx⟩ c,Y8 hp a,a.all V.isD) = (some true,some (f,a),some ds,true))
    (h : OpsK P T base ops dr l ⟨(t,.d r)::sl,hp,nx⟩ K) (p : okF dr l.length (fpC a) = true:=by rfl) : OpsK P T base ops dr (⟨some t,.call c,ty,pos,af,g⟩::l) ⟨sl,hp,nx⟩ K:=by
  simp only [Prod.mk.injEq] at j;obtain ⟨n,k,o,m⟩:=j;exact Yu a b n k o (.inl m) h p
theorem Qw {st : AS} {b : List ResultVar} {r : DV} (v : V) (a : (resV T st b,toD st.hp 8 v) = (some v,some r)) : (Ex.ret = .nor∨Ex.ret = .ret)∧∃ v c,resV T st b = some v∧toD st.hp 8 v = some c∧DLe c r:=by
  simp only [Prod.mk.injEq] at a;exact ⟨.inr rfl,v,r,a.1,a.2,.refl _⟩
theorem qh {id : Nat} {ops : Array Oper} {b : Code} {cs : List Code} {st : AS} {K : Ex→AS→Prop} (h : OpsK P T base ops none ops.toList st (fun st'=>RunK P T base (b::cs) st' K)) : RunK P T base (.seq (.region id ops false) b::cs) st K:=qi (Q7 h)
theorem qv {a ops : Array Oper} {id : Nat} {b : Code} {cs : List Code} {st : AS} {K : Ex→AS→Prop} (h : OpsK P T base ops none ops.toList st (fun st'=>RunK P T base (b::cs) st' K)) : OpsK P T base a dr [] st (fun st'=>RunK P T base (.seq (.region id ops false) b::cs) st' K):=qc (qi (Q7 h))
theorem Q8 {a : Array Oper} {cs : List Code} {st : AS} {K : Ex→AS→Prop} (h : K .ret st) : OpsK P T base a dr [] st (fun st'=>RunK P T base (.ret::cs) st' K):=qc (q24 h)
theorem Q5 {a : Array Oper} {st : AS} {K : Ex→AS→Prop} (h : K .nor st) : OpsK P T base a dr [] st (fun st'=>RunK P T base [] st' K):=qc (Qg h)
theorem K4 {dst : Option Tmp} {c : Call} {f : FuncId} {m : List V} {hp0 j : List (Nat × Blk)} {k s : Nat} {u : V} (o p : List (Nat × Nat)) (r : List V) (t : V) (n : Nat) (a : List (Nat × Blk)) (b : Nat) (z : K3 P T f m hp0 k u j s)
    (h : OpsK P T base ops none l ((⟨sl,a,b⟩ : AS).putD dst t) K)
    (x : Qs ops ⟨sl,hp,nx⟩ ⟨dst,.call c,ty,pos,af,g⟩ = some true:=by exact rfl) (hc : callee ⟨sl,hp,nx⟩ c = some (f,r):=by exact rfl) (q : r.length = m.length:=by exact rfl)
    (o1 : wkOk 0 o [] [] hp0 k = true:=by exact rfl)
    (s1 : WkL ⟨Yb 0 r,hp,nx⟩ (rho o) [] [] k (Yb 0 m):=by
      repeat' first | exact trivial | refine And.intro (Exists.intro _ (And.intro rfl ?_)) ?_ | exact Wv.d (DLe.refl _) | exact Wv.ref rfl qq (ltd rfl) | exact Wv.mp rfl qq (ltd rfl) | exact Wv.it rfl qq (ltd rfl) | exact Wv.hs rfl qq (ltd rfl) | exact Wv.d (DLe.nil _) | refine qdt ?_ | refine qhj ?_ | refine q55 ?_ | refine WvL.cons ?_ ?_ | exact WvL.nil | exact Wv.dref _ _ | exact Wv.yld rfl qq (ltd rfl))
    (b1 : WkH ⟨Yb 0 r,hp,nx⟩ (rho o) [] [] k hp0:=by
      repeat' first | exact trivial | refine And.intro (And.intro (ltd rfl) (Or.inr (And.intro qq (Exists.intro _ (And.intro rfl ?_))))) ?_ | exact Wb.dat _ _ | exact Wb.mpP (List.Perm.refl _) | exact Wb.itF _ _ | exact Wb.itFn _ _ | exact Wb.itOn _ _ _ rfl qq (ltd rfl) | exact Wb.itO _ _ _ rfl qq (ltd rfl) | refine q1g ?_ | refine qhe ?_ | refine WvC.cons ?_ rfl ?_ | exact WvC.nil | exact Wv.d (DLe.refl _) | exact Wv.ref rfl qq (ltd rfl) | exact Wv.mp rfl qq (ltd rfl) | exact Wv.it rfl qq (ltd rfl) | exact Wv.hs rfl qq (ltd rfl) | exact Wv.d (DLe.nil _))
    (v : wkOk 0 p [] [] (a.take n) b = true:=by exact rfl)
    (y : WkL ⟨[(0,u)],j,s⟩ (rho p) [] [] b [(0,t)]:=by
      repeat' first | exact trivial | refine And.intro (Exists.intro _ (And.intro rfl ?_)) ?_ | exact Wv.d (DLe.refl _) | exact Wv.ref rfl qq (ltd rfl) | exact Wv.mp rfl qq (ltd rfl) | exact Wv.it rfl qq (ltd rfl) | exact Wv.hs rfl qq (ltd rfl) | exact Wv.d (DLe.nil _) | refine qdt ?_ | refine qhj ?_ | refine q55 ?_ | refine WvL.cons ?_ ?_ | exact WvL.nil | exact Wv.dref _ _ | exact Wv.yld rfl qq (ltd rfl))
    (w : WkH ⟨[(0,u)],j,s⟩ (rho p) [] [] b (a.take n):=by
      repeat' first | exact trivial | refine And.intro (And.intro (ltd rfl) (Or.inr (And.intro qq (Exists.intro _ (And.intro rfl ?_))))) ?_ | exact Wb.dat _ _ | exact Wb.mpP (List.Perm.refl _) | exact Wb.itF _ _ | exact Wb.itFn _ _ | exact Wb.itOn _ _ _ rfl qq (ltd rfl) | exact Wb.itO _ _ _ rfl qq (ltd rfl) | refine q1g ?_ | refine qhe ?_ | refine WvC.cons ?_ rfl ?_ | exact WvC.nil | exact Wv.d (DLe.refl _) | exact Wv.ref rfl qq (ltd rfl) | exact Wv.mp rfl qq (ltd rfl) | exact Wv.it rfl qq (ltd rfl) | exact Wv.hs rfl qq (ltd rfl) | exact Wv.d (DLe.nil _))
    (hb : q7l o p k s nx b = true:=by exact rfl)
    (hold : OldL o k hp (a.take n) a:=by repeat' first | exact trivial | refine And.intro (Or.inl rfl) ?_ | refine And.intro (Or.inr (And.intro rfl rfl)) ?_) :
    OpsK P T base ops none (⟨dst,.call c,ty,pos,af,g⟩::l) ⟨sl,hp,nx⟩ K:=
  q16 o p r t (a.take n) a b z x hc q (Z6 o [] [] o1 s1 b1) (Z6 p [] [] v y w) hb hold h
end
inductive WvR (st : AS) (ρ : Nat→Nat) (fz ph : List Nat) (nx : Nat) : List (List V)→List (List V)→Prop
  | nil : WvR st ρ fz ph nx [] []
  | cons {c d : List V} {cs ds : List (List V)} : WvC st ρ fz ph nx c d→WvR st ρ fz ph nx cs ds→WvR st ρ fz ph nx (c::cs) (d::ds)
theorem WvR.len {st : AS} {ρ : Nat→Nat} {fz ph : List Nat} {nx : Nat} {cs ds : List (List V)} (h : WvR st ρ fz ph nx cs ds) : cs.length = ds.length:=by
  induction h with
  | nil=>rfl
  | cons _ _ ih=>simp [ih]
theorem WvR.get {st : AS} {ρ : Nat→Nat} {fz ph : List Nat} {nx : Nat} {cs ds : List (List V)} (h : WvR st ρ fz ph nx cs ds) : ∀ (j : Nat) (c d : List V),cs[j]? = some c→ds[j]? = some d→WvC st ρ fz ph nx c d:=by
  induction h with
  | nil=>intro i x y h;simp at h
  | cons h1 _ ih=>
    intro i x y b a
    cases i with
    | zero=>simp at b a;subst b;subst a;exact h1
    | succ i=>exact ih i x y (by simpa using b) (by simpa using a)
theorem q13i {st : AS} {ρ : Nat→Nat} {fz ph : List Nat} {nx es : Nat} {cs ds : List (List V)} (h : WvR st ρ fz ph nx cs ds) : Wb st ρ fz ph nx (.cel es cs) (.cel es ds):=
  .cel h.len fun i x y b a=>⟨(h.get i x y b a).len,(h.get i x y b a).get⟩
theorem q13j {st : AS} {ρ : Nat→Nat} {fz ph : List Nat} {nx es : Nat} {cs : List (List DV)} {ds : List (List V)} (h : WvR st ρ fz ph nx (cs.map (·.map .d)) ds) : Wb st ρ fz ph nx (.dat es cs) (.cel es ds):=by
  refine .datcel (by simpa using h.len) fun i x y f b=>?_;have a:=h.get i (x.map .d) y (by simp [f]) b;refine ⟨by simpa using a.len,fun j c d g hd=>a.get j (.d c) d (by simp [g]) hd⟩
theorem wkA {base : Nat} {st st' : AS} (l : List (Nat × Nat)) (fz ph : List Nat) (a : wkOk base l fz ph st'.hp st'.nx = true:=by exact rfl)
    (hs : WkL st (rho l) fz ph st'.nx st'.sl:=by
      repeat' first | exact trivial | refine And.intro (Exists.intro _ (And.intro rfl ?_)) ?_ | exact Wv.d (DLe.refl _) | exact Wv.ref rfl qq (ltd rfl) | exact Wv.mp rfl qq (ltd rfl) | exact Wv.it rfl qq (ltd rfl) | exact Wv.hs rfl qq (ltd rfl) | exact Wv.d (DLe.nil _) | exact Wv.nil qq (ltd rfl) | exact qhi rfl rfl qq | exact Wv.frzM rfl qq (List.Perm.refl _) | refine qdt ?_ | refine q13r ?_ | refine qhj ?_ | refine q13s ?_ | refine q55 ?_ | refine WvL.cons ?_ ?_ | exact WvL.nil | exact Wv.dref _ _ | exact Wv.yld rfl qq (ltd rfl))
    (b : WkH st (rho l) fz ph st'.nx st'.hp:=by
      repeat' first | exact trivial | refine And.intro (And.intro (ltd rfl) (Or.inr (And.intro qq (Exists.intro _ (And.intro rfl ?_))))) ?_ | refine And.intro (And.intro (ltd rfl) (Or.inl (And.intro qq (Exists.intro _ (And.intro qq rfl))))) ?_ | exact Wb.dat _ _ | exact Wb.mpP (List.Perm.refl _) | exact Wb.itF _ _ | exact Wb.itFn _ _ | exact Wb.itOn _ _ _ rfl qq (ltd rfl) | exact Wb.itO _ _ _ rfl qq (ltd rfl) | refine q1g ?_ | refine qhe ?_ | refine q13i ?_ | refine q13j ?_ | refine WvR.cons ?_ ?_ | exact WvR.nil | refine q13k ?_ | refine WvS.cons rfl ?_ ?_ | exact WvS.nil | refine WvC.cons ?_ rfl ?_ | exact WvC.nil | exact Wv.d (DLe.refl _) | exact Wv.ref rfl qq (ltd rfl) | exact Wv.mp rfl qq (ltd rfl) | exact Wv.it rfl qq (ltd rfl) | exact Wv.hs rfl qq (ltd rfl) | exact Wv.d (DLe.nil _) | exact Wv.nil qq (ltd rfl) | exact qhi rfl rfl qq | exact Wv.frzM rfl qq (List.Perm.refl _) | refine q55 ?_ | refine qdt ?_ | refine WvL.cons ?_ ?_ | exact WvL.nil | exact Wv.yld rfl qq (ltd rfl)) : WkE base st st':=wkE l fz ph a hs b
theorem qk {st : AS} {ρ : Nat→Nat} {fz ph : List Nat} {nx t : Nat} {x : DV} (h : st.get t = some (.d x)) : ∃ v,st.get t = some v∧Wv st ρ fz ph nx v (.d x):=⟨_,h,.d (.refl _)⟩
theorem Qq {st : AS} {ρ : Nat→Nat} {fz ph : List Nat} {nx n es : Nat} {xs : List (List DV)} (c : Nat.blt n nx = true) (d : st.blk (ρ n) = some (.dat es xs)) (a : n ∉ ph:=by decide) :
    n < nx∧((n∈ph∧∃ e,e≠0∧(Blk.dat es xs) = .dat e [])∨(n ∉ ph∧∃ b,st.blk (ρ n) = some b∧Wb st ρ fz ph nx b (.dat es xs))):=⟨ltd c,.inr ⟨a,_,d,.dat _ _⟩⟩
abbrev q7 : Option (List Nat) × List Nat:=(some [],[])
abbrev qs (n : Nat) : Option (List Nat) × List Nat:=(some [n],[])
abbrev Ql (n : Nat) : Option (List Nat) × List Nat:=(some [n],[n])
end Go.Am
namespace Go.Am
open Go
inductive DLeR : List (List DV)→List (List DV)→Prop
  | nil : DLeR [] []
  | cons {x y : List DV} {xs ys : List (List DV)} : DLeL x y→DLeR xs ys→DLeR (x::xs) (y::ys)
structure Up (ag : Bool) (ks : List (Option IntKind)) {α : Type} [DecidableEq α] (ek : α→DV) : Prop where
  agg : ∀ k,Ys (ek k) = ag
  fit : ∀ k,Yk ag ks (ek k) = true
  eq : ∀ a b,Ke ks (cellsD (ek a)) (cellsD (ek b)) = some (decide (a = b))
theorem Jy {k : IntKind} : Up false [some k] (fun n : Int=>DV.int k n):=
  ⟨fun _=>rfl,fun _=>by simp [Yk,Ys,cellsD,Yt],fun a b=>by simp [cellsD,Ke,Jr];rfl⟩
theorem keyS {α : Type} [DecidableEq α] {k j : IntKind} (f g : α→Int) (h : ∀ a b,f a = f b→g a = g b→a = b) : Up true [some k,some j] (fun p : α=>DV.agg [.int k (f p),.int j (g p)]):=
  ⟨fun _=>rfl,fun _=>by simp [Yk,Ys,cellsD,Yt],fun a b=>by
    have : (f a == f b && g a == g b) = decide (a = b):=by
      by_cases e : a = b
      · subst e;simp
      · rw [Qa e];by_cases c : f a = f b
        · have : ¬ g a = g b:=fun d=>e (h a b c d);simp [this]
        · simp [c]
    simp only [cellsD,Ke,Jr,and_self,if_true]
    rw [← this];simp⟩
section
variable {α β : Type} [DecidableEq α]
def K5 (z : β) (k : α) : List (α × β)→β
  | []=>z
  | (a,v)::r=>if k = a then v else K5 z k r
def q5v (k : α) : List (α × β)→Bool
  | []=>false
  | (a,_)::r=>if k = a then true else q5v k r
def K8 (k : α) (v : β) : List (α × β)→List (α × β)
  | []=>[(k,v)]
  | (a,w)::r=>if k = a then (k,v)::r else (a,w)::K8 k v r
abbrev Qu (ek : α→DV) (ev : β→DV) (es : List (α × β)) : List (DV × V):=(es.map fun e=>(ek e.1,ev e.2)).map dV
abbrev mrow (ek : α→DV) (ev : β→DV) (es : List (α × β)) : List (DV × DV):=es.map fun e=>(ek e.1,ev e.2)
variable {ag : Bool} {ks : List (Option IntKind)} {ek : α→DV} {ev : β→DV}
def Y9 (k : α) : List (α × β)→Option Nat
  | []=>none
  | (a,_)::r=>if k = a then some 0 else (Y9 k r).map (· + 1)
theorem qcv {γ : Type} (b : Up ag ks ek) (g : β→γ) (f : α × β→DV × γ) (c : ∀ e,f e = (ek e.1,g e.2)) (k : α) : ∀ es : List (α × β),Za ag ks (ek k) (es.map f) = some (Y9 k es)
  | []=>rfl
  | (a,v)::r=>by
    have d:=qcv b g f c k r
    simp only [List.map_cons,c,Za,b.agg,and_self,if_true,b.eq,Y9] at d ⊢
    by_cases h : k = a
    · simp [h]
    · simp only [h,decide_false,if_false,d]
      cases Y9 k r <;> rfl
theorem qfh (a : Up ag ks ek) (k : α) : Yk ag ks (ek k) = true:=a.fit k
theorem qcx (z : β) (k : α) : ∀ es : List (α × β),(match Y9 k es with | some j=>(es[j]?).map (fun e=>(e.2,true)) | none=>some (z,false)) = some (K5 z k es,q5v k es)
  | []=>rfl
  | (a,v)::r=>by
    have b:=qcx z k r
    simp only [Y9,K5,q5v]
    by_cases h : k = a
    · simp [h]
    · simp only [h,if_false]
      cases hp : Y9 k r with
      | none=>rw [hp] at b;simpa using b
      | some j=>rw [hp] at b;simpa using b
theorem q8k (k : α) (v : β) : ∀ es : List (α × β),(match Y9 k es with | some j=>es.set j (k,v) | none=>es ++ [(k,v)]) = K8 k v es
  | []=>rfl
  | (a,w)::r=>by
    have b:=q8k k v r
    simp only [Y9,K8]
    by_cases h : k = a
    · simp [h]
    · simp only [h,if_false]
      cases hp : Y9 k r with
      | none=>rw [hp] at b;simpa using b
      | some j=>rw [hp] at b;simpa using b
theorem ql4 {γ : Type} (c : Up ag ks ek) (g : β→γ) (f : α × β→DV × γ) (a : ∀ e,f e = (ek e.1,g e.2)) (z : β) (k : α) (es : List (α × β)) : mget ag ks (g z) (ek k) (es.map f) = some (g (K5 z k es),q5v k es):=by
  have h:=qcx z k es;unfold mget;rw [qcv c g f a]
  cases hp : Y9 k es with
  | none=>rw [hp] at h;simp only [Option.some.injEq,Prod.mk.injEq] at h;rw [← h.1,← h.2]
  | some j=>
    rw [hp] at h;simp only [List.getElem?_map,Option.map_map] at h ⊢
    cases b : es[j]? with
    | none=>rw [b] at h;simp at h
    | some e=>rw [b] at h;simp at h;simp [a,h.1,h.2]
theorem qul (a : Up ag ks ek) (z : β) (k : α) (es : List (α × β)) : mget ag ks (ev z) (ek k) (mrow ek ev es) = some (ev (K5 z k es),q5v k es):=ql4 a ev _ (fun _=>rfl) z k es
theorem qum (a : Up ag ks ek) (z : β) (k : α) (es : List (α × β)) : mget ag ks (V.d (ev z)) (ek k) (Qu ek ev es) = some (V.d (ev (K5 z k es)),q5v k es):=by
  unfold Qu;rw [List.map_map];exact ql4 a (fun b=>V.d (ev b)) _ (fun _=>rfl) z k es
theorem qur (a : Up ag ks ek) (k : α) (v : β) (es : List (α × β)) : mput ag ks (ek k) (V.d (ev v)) (Qu ek ev es) = some (Qu ek ev (K8 k v es)):=by
  have h:=q8k k v es;unfold mput Qu;rw [List.map_map,qcv a (fun b=>V.d (ev b)) (dV ∘ fun e=>(ek e.1,ev e.2)) (fun _=>rfl)]
  cases hp : Y9 k es with
  | none=>rw [hp] at h;rw [← h];simp [dV]
  | some j=>rw [hp] at h;rw [← h];simp [List.map_set,dV]
end
section
variable {P : Program} {T : Tab} {base : Nat} {ops : Array Oper} {dr : Dr} {l : List Oper} {sl : List (Nat × V)} {hp : List (Nat × Blk)} {nx : Nat} {K : AS→Prop} {ty : TypeId} {pos : String} {af : Array Edge} {t : Tmp} {g : Option (Nat × Bool)}
variable {α β : Type} [DecidableEq α] {ek : α→DV} {ev : β→DV} {mt : TypeId} {i : TI} {ks : List (Option IntKind)} {n : Nat} {es : List (α × β)}
theorem qg3 {o : Bool} {x kx : Operand} (b : Up i.eagg ks ek) (z : β) (k : α) (f : Qs ops ⟨sl,hp,nx⟩ ⟨some t,.lookup mt x kx false,ty,pos,af,g⟩ = some true) (c : T mt = some i) (a : i.keys = some ks) (p : i.ezero = [ev z])
    (j : AS.ev ⟨sl,hp,nx⟩ x = some (.mp n)) (hk : AS.ev ⟨sl,hp,nx⟩ kx = some (.d (ek k))) (hb : find hp n = some (.mp o (Qu ek ev es)))
    (h : OpsK P T base ops dr l ⟨(t,.d (ev (K5 z k es)))::sl,hp,nx⟩ K) (m : okO dr l.length ⟨sl,hp,nx⟩ (.lookup mt x kx false) ⟨sl,hp,nx⟩ = true:=by rfl) : OpsK P T base ops dr (⟨some t,.lookup mt x kx false,ty,pos,af,g⟩::l) ⟨sl,hp,nx⟩ K:=by
  refine Ye f (v:=.d (ev (K5 z k es))) (st1:=⟨sl,hp,nx⟩) ?_ h m;simp only [opFn,c,j,hk,a,AS.blk,hb,p,qfh b,if_true,qum b,Option.map_some,Q6]
theorem qlv {x kx : Operand} {f : DV} (c : Up i.eagg ks ek) (z : β) (k : α) (n : Qs ops ⟨sl,hp,nx⟩ ⟨some t,.lookup mt x kx false,ty,pos,af,g⟩ = some true) (m : T mt = some i) (b : i.keys = some ks) (p : i.ezero = [f]) (a : zNil i.esize f = ev z)
    (o : AS.ev ⟨sl,hp,nx⟩ x = some (.d (.mp (mrow ek ev es)))) (hk : AS.ev ⟨sl,hp,nx⟩ kx = some (.d (ek k)))
    (h : OpsK P T base ops dr l ⟨(t,.d (ev (K5 z k es)))::sl,hp,nx⟩ K) (j : okO dr l.length ⟨sl,hp,nx⟩ (.lookup mt x kx false) ⟨sl,hp,nx⟩ = true:=by rfl) : OpsK P T base ops dr (⟨some t,.lookup mt x kx false,ty,pos,af,g⟩::l) ⟨sl,hp,nx⟩ K:=by
  refine Ye n (v:=.d (ev (K5 z k es))) (st1:=⟨sl,hp,nx⟩) ?_ h j;simp only [opFn,m,o,hk,b,p,a,qfh c,if_true,qul c,Option.map_some,Q6]
theorem q3r {o : Bool} {m kx y : Operand} (c : Up i.eagg ks ek) (k : α) (v : β) (q : Qs ops ⟨sl,hp,nx⟩ ⟨none,.mapUpdate mt m kx y,ty,pos,af,g⟩ = some true) (p : T mt = some i) (a : i.keys = some ks)
    (f : AS.ev ⟨sl,hp,nx⟩ m = some (.mp n)) (hk : AS.ev ⟨sl,hp,nx⟩ kx = some (.d (ek k))) (j : AS.ev ⟨sl,hp,nx⟩ y = some (.d (ev v))) (hb : find hp n = some (.mp o (Qu ek ev es))) (r : Zk (ev v) = true)
    (h : OpsK P T base ops dr l ⟨sl,repl hp n (.mp o (Qu ek ev (K8 k v es))),nx⟩ K) (s : okO dr l.length ⟨sl,hp,nx⟩ (.mapUpdate mt m kx y) ⟨sl,repl hp n (.mp o (Qu ek ev (K8 k v es))),nx⟩ = true:=by rfl) : OpsK P T base ops dr (⟨none,.mapUpdate mt m kx y,ty,pos,af,g⟩::l) ⟨sl,hp,nx⟩ K:=by
  refine Ye q (v:=.dead) (st1:=⟨sl,repl hp n (.mp o (Qu ek ev (K8 k v es))),nx⟩) ?_ h s;have b : Kh (.d (ev v)) = true:=r;simp only [opFn,p,f,hk,j,a,AS.blk,hb,qfh c,b,and_self,if_true,qur c,Option.map_some];rfl
end
section
variable {P : Program} {T : Tab} {base : Nat} {ops : Array Oper} {l : List Oper} {sl : List (Nat × V)} {hp : List (Nat × Blk)} {nx : Nat} {K : AS→Prop} {ty : TypeId} {pos : String} {af : Array Edge} {t : Tmp} {g : Option (Nat × Bool)}
variable {α β : Type} {ek : α→DV} {ev : β→DV} {mt : TypeId} {i : TI} {n : Nat} {es : List (α × β)}
theorem q4l {o : Oper} {v : V} {st st1 : AS} (b : Qs ops st o = some true) (a : opM T st o.op = some (v,st1)) (h : OpsK P T base ops none l (st1.putD o.dst v) K) : OpsK P T base ops none (o::l) st K:=by
  obtain ⟨st2,c,k⟩:=h;exact ⟨st2,.opM b a c,k⟩
theorem qvq {o : Bool} {x : Operand} (a : Qs ops ⟨sl,hp,nx⟩ ⟨some t,.call {callee:=.builtin .len,args:=#[x],argTypes:=#[mt]},ty,pos,af,g⟩ = some true) (c : T mt = some i) (hk : i.kind = .map)
    (b : AS.ev ⟨sl,hp,nx⟩ x = some (.mp n)) (hb : find hp n = some (.mp o (Qu ek ev es)))
    (h : OpsK P T base ops none l ⟨(t,.d (.int .i64 (es.length : Int)))::sl,hp,nx⟩ K) : OpsK P T base ops none (⟨some t,.call {callee:=.builtin .len,args:=#[x],argTypes:=#[mt]},ty,pos,af,g⟩::l) ⟨sl,hp,nx⟩ K:=by
  refine q4l a (v:=.d (.int .i64 (es.length : Int))) (st1:=⟨sl,hp,nx⟩) ?_ h;simp only [opM,evL,b];simp only [List.getElem?_toArray,List.getElem?_cons_zero,c,AS.blk,hb,hk,if_true,List.length_map]
theorem qd5 {x : Operand} (a : Qs ops ⟨sl,hp,nx⟩ ⟨some t,.range mt x,ty,pos,af,g⟩ = some true) (c : T mt = some i) (hk : i.kind = .map) (b : AS.ev ⟨sl,hp,nx⟩ x = some (.d (.mp (mrow ek ev es))))
    (h : OpsK P T base ops none l ⟨(t,.it nx)::sl,(nx,.itF none (mrow ek ev es))::hp,nx + 1⟩ K) : OpsK P T base ops none (⟨some t,.range mt x,ty,pos,af,g⟩::l) ⟨sl,hp,nx⟩ K:=by
  refine q4l a (v:=.it nx) (st1:=⟨sl,(nx,.itF none (mrow ek ev es))::hp,nx + 1⟩) ?_ h;simp only [opM,c,b,hk];rfl
theorem qd4 {x : Operand} {e : DV × DV} {rest : List (DV × DV)} (a : Qs ops ⟨sl,hp,nx⟩ ⟨some t,.entry x,ty,pos,af,g⟩ = some true) (b : AS.ev ⟨sl,hp,nx⟩ x = some (.it n)) (hb : find hp n = some (.itF (some e) rest))
    (h : OpsK P T base ops none l ⟨(t,.d (.tup [e.1,e.2]))::sl,hp,nx⟩ K) : OpsK P T base ops none (⟨some t,.entry x,ty,pos,af,g⟩::l) ⟨sl,hp,nx⟩ K:=by
  refine q4l a (v:=.d (.tup [e.1,e.2])) (st1:=⟨sl,hp,nx⟩) ?_ h;simp only [opM,b,AS.blk,hb]
end
section
variable {P : Program} {T : Tab} {base : Nat} {ops : Array Oper} {dr : Dr} {l : List Oper} {sl : List (Nat × V)} {hp : List (Nat × Blk)} {nx : Nat} {K : AS→Prop} {ty : TypeId} {pos : String} {af : Array Edge} {t : Tmp} {g : Option (Nat × Bool)}
theorem qlw {α : Type} {c b : Operand} {a : TypeId} {i : TI} {k v : IntKind} {n : Int} {z : α} {zs : List α} {enc : α→List DV} (f : mks i.ebytes n z = some zs) (q : Qs ops ⟨sl,hp,nx⟩ ⟨some t,.makeSlice a b c,ty,pos,af,g⟩ = some true) (u : T a = some i) (hk : i.kind = .slice)
    (r : AS.ev ⟨sl,hp,nx⟩ b = some (.d (.int k n))) (p : AS.ev ⟨sl,hp,nx⟩ c = some (.d (.int v n))) (s : enc z = i.ezero) (m : find hp nx = none)
    (h : OpsK P T base ops dr l ⟨(t,.d (.sl i.esize (zs.map enc)))::sl,hp,nx + 1⟩ K) (w : okF dr l.length (fp ⟨sl,hp,nx⟩ (.makeSlice a b c)) = true:=by rfl) : OpsK P T base ops dr (⟨some t,.makeSlice a b c,ty,pos,af,g⟩::l) ⟨sl,hp,nx⟩ K:=by
  unfold mks at f;split at f
  · rename_i j;cases f;have o : n.toNat = (List.replicate n.toNat i.ezero).length:=by simp
    refine q17 (es:=i.esize) (len:=n.toNat) (List.replicate n.toNat i.ezero) q ?_ o rfl m (by simpa [s] using h) w;simp only [opFn,u,r,p];rw [qu ⟨hk,j.1,q8,by have:=j.2;simpa [room] using this⟩];rfl
  · cases f
end
end Go.Am
