/- Am22 Am22b Am23 -/
import Derived.Test.YtbknppciefodiaaGreatK4
namespace Go.Am
open Go
variable {P : Program} {T : Tab}
section
variable {st st1 st2 : AS} {v : V}
theorem Yj {α : Type} {x : Option α} {f : α→V} : (x.map fun a=>(f a,st)) = some (v,st1)→st1 = st∧(x.map fun a=>(f a,st2)) = some (v,st2):=by
  cases x <;> simp
  rintro rfl rfl;simp
theorem qej {ev ev' : Operand→Option V} : ∀ {l : List (Nat × Operand)},(∀ x∈l.map (·.2),ev' x = ev x)→Zy ev' l = Zy ev l
  | [],_=>rfl
  | (i,o)::r,h=>by
    have c:=h o qe
    have b:=qej (l:=r) (fun x a=>h x (by simp at a ⊢;exact .inr a))
    simp only [Zy,c,b]
theorem q8i {ev ev' : Operand→Option V} : ∀ {l : List Operand},(∀ x∈l,ev' x = ev x)→evL ev' l = evL ev l
  | [],_=>rfl
  | o::r,h=>by
    have c:=h o qe
    have b:=q8i (l:=r) (fun x a=>h x (by simp [a]))
    simp only [evL,c,b]
theorem qsg {i : TI} (a : st2.hp = st.hp) : Jp st2 i v = Jp st i v:=by
  cases v <;> simp only [Jp,AS.blk,a]
theorem qp7 {b : Builtin} {c : Array TypeId} {a : List V} (h : Kw T st b c a = some (v,st1)) (hb : b = .len∨b = .min∨b = .max) : st1 = st∧Kw T st2 b c a = some (v,st2):=by
  rcases hb with rfl | rfl | rfl
  · rcases a with _ | ⟨x,_ | ⟨y,r⟩⟩
    · simp [Kw] at h
    · simp only [Kw] at h ⊢
      revert h;split
      · split
        · split
          · simp;rintro rfl rfl;simp
          · split <;> simp
            all_goals rintro rfl rfl;simp
          · split <;> simp
            all_goals rintro rfl rfl;simp
          · simp
        · simp
      · simp
    · simp [Kw] at h
  · rcases a with _ | ⟨x,r⟩
    · simp [Kw] at h
    · simp only [Kw] at h ⊢
      revert h;exact Yj
  · rcases a with _ | ⟨x,r⟩
    · simp [Kw] at h
    · simp only [Kw] at h ⊢
      revert h;exact Yj
theorem qfs {op : Op} (h : opFn T st op = some (v,st1)) (m : touch op≤1) (q : touch op≠0→st2.hp = st.hp) (a : ∀ x∈op.operands,st2.ev x = st.ev x) : st1 = st∧opFn T st2 op = some (v,st2):=by
  cases op <;> simp only [opFn,reduceCtorEq] at h <;> simp only [touch,Nat.reduceLeDiff] at m
  case move x=>
    simp only [opFn,a x (by simp [Op.operands])] at h ⊢
    revert h;exact Yj
  case assign x=>
    simp only [opFn,a x (by simp [Op.operands])] at h ⊢
    revert h;exact Yj
  case pick c x y=>
    simp only [opFn,a c (by simp [Op.operands]),a x (by simp [Op.operands]),a y (by simp [Op.operands])] at h ⊢
    revert h;split
    · exact Yj
    · exact Yj
    · simp
  case load t p=>
    simp only [opFn,a p (by simp [Op.operands])] at h ⊢
    revert h;split
    · rw [qsg (q (by simp [touch]))]
      exact Yj
    · simp
  case lookup t x k ok=>
    have hb : ∀ n,st2.blk n = st.blk n:=fun n=>by simp only [AS.blk,q (by simp [touch])]
    simp only [opFn,a x (by simp [Op.operands]),a k (by simp [Op.operands]),hb] at h ⊢
    revert h;split
    · split
      · split
        · simp only [Option.map_eq_some_iff]
          rintro ⟨e,z,r⟩
          cases r
          exact ⟨rfl,e,z,rfl⟩
        · simp
      · simp
    · simp
  case build t ps=>
    have:=qej (ev:=st.ev) (ev':=st2.ev) (l:=ps.toList) (fun x g=>a x (by simpa [Op.operands] using g))
    simp only [opFn,this] at h ⊢
    revert h;split
    · split
      · split
        · exact Yj
        · simp
      · simp
    · simp
  case binOp op t x y u=>
    simp only [opFn,a x (by simp [Op.operands]),a y (by simp [Op.operands])] at h ⊢
    revert h;split
    · split
      · split
        · split <;> simp
          · rintro rfl rfl;simp
          · rintro rfl rfl;simp
        · simp
      · simp
    · exact Yj
    · split
      · exact Yj
      · simp
    · simp
  case unOp op t x=>
    simp only [opFn,a x (by simp [Op.operands])] at h ⊢
    revert h;split
    · exact Yj
    · simp
  case convert s d x=>
    simp only [opFn,a x (by simp [Op.operands])] at h ⊢
    revert h;split
    · split <;> simp
      rintro rfl rfl;simp
    · simp
  case makeFunc fn first caps=>
    cases fn <;> simp only [reduceCtorEq,opFn] at h ⊢
    have:=q8i (ev:=st.ev) (ev':=st2.ev) (l:=caps.toList) (fun x g=>a x (by simp [Op.operands] at g ⊢;exact .inr g))
    rw [this]
    revert h;split
    · exact Yj
    · simp
  case slice t x lo hi mx=>
    have hb : ∀ (d : Nat) (o : Option Operand),(o = lo∨o = hi)→bound st2 d o = bound st d o:=by
      rintro d o w
      cases o with
      | none=>rfl
      | some o=>
        simp only [bound]
        rw [a o (by rcases w with rfl | rfl <;> simp [Op.operands])]
    simp only [opFn,a x (by simp [Op.operands])] at h ⊢
    revert h;split
    · split
      · split
        · rename_i n _
          rw [hb 0 lo (.inl rfl),hb n hi (.inr rfl)]
          split
          · exact Yj
          · simp
        · simp
      · simp
    · simp
  case fieldAddr s p f=>
    simp only [opFn,a p (by simp [Op.operands])] at h ⊢
    revert h;split
    · split
      · exact Yj
      · simp
    · simp
  case field s x f=>
    simp only [opFn,a x (by simp [Op.operands])] at h ⊢
    revert h;split
    · split
      · split
        · exact Yj
        · simp
      · simp
    · simp
  case indexAddr t x ix=>
    simp only [opFn,a x (by simp [Op.operands]),a ix (by simp [Op.operands])] at h ⊢
    revert h;split
    · exact Yj
    · simp
  case index t x ix=>
    simp only [opFn,a x (by simp [Op.operands]),a ix (by simp [Op.operands])] at h ⊢
    revert h;split
    · split
      · split
        · split
          · exact Yj
          · simp
        · simp
      · split
        · exact Yj
        · simp
      · simp
    · simp
  case extract x k=>
    simp only [opFn,a x (by simp [Op.operands])] at h ⊢
    revert h;split
    · exact Yj
    · exact Yj
    · simp
  case nilCheck x=>
    simp only [opFn,a x (by simp [Op.operands])] at h ⊢
    revert h;split <;> simp
    all_goals rintro rfl rfl;simp
  case call c=>
    obtain ⟨j,args,argTypes⟩:=c
    cases j <;> simp only [reduceCtorEq] at h
    rename_i b
    have:=q8i (ev:=st.ev) (ev':=st2.ev) (l:=args.toList) (fun x g=>a x (by simpa [Op.operands,Call.operands] using g))
    simp only [opFn,this] at h ⊢
    revert h;split
    · have hb : b = .len∨b = .min∨b = .max:=by
        revert m;cases b <;> simp
      intro h
      exact qp7 h hb
    · simp
end
end Go.Am
namespace Go.Am
open Go
variable {P : Program} {T : Tab}
def qdh (x : Fp) (st st2 : AS) : Prop:=(∀ m∈x.2,find st2.hp m = find st.hp m)∧match x.1 with
  | none=>∀ m,find st2.hp m = find st.hp m
  | some r=>∀ m∈r,find st2.hp m = find st.hp m
inductive Out (T : Tab) (st : AS) (op : Op) (v : V) (st1 : AS) : Prop
  | calm : st1.sl = st.sl→st1.nx = st.nx→(∀ m,m ∉ (fp st op).2→find st1.hp m = find st.hp m)→(∀ m,find st.hp m = none→find st1.hp m = none)→
      (∀ st2,(∀ x∈op.operands,st2.ev x = st.ev x)→qdh (fp st op) st st2→∃ hp3,opFn T st2 op = some (v,⟨st2.sl,hp3,st2.nx⟩)∧(∀ m∈(fp st op).2,find hp3 m = find st1.hp m)∧(∀ m,m ∉ (fp st op).2→find hp3 m = find st2.hp m))→Out T st op v st1
  | new (mk : Nat→V) (b : Blk) (hp1 : List (Nat × Blk)) : ((∃ es,mk = fun n=>.ref n es 0 0)∨(∃ es l,mk = fun n=>.hs n es 0 l)∨(mk = fun n=>.mp n))→v = mk st.nx→st1 = ⟨st.sl,(st.nx,b)::hp1,st.nx + 1⟩→st.nx∈(fp st op).2→
      (∀ m,m ∉ (fp st op).2→find hp1 m = find st.hp m)→(∀ m,find st.hp m = none→find hp1 m = none)→
      (∀ st2,(∀ x∈op.operands,st2.ev x = st.ev x)→qdh (fp st op) st st2→∃ hp3,opFn T st2 op = some (mk st2.nx,⟨st2.sl,(st2.nx,b)::hp3,st2.nx + 1⟩)∧(∀ m∈(fp st op).2,find hp3 m = find hp1 m)∧(∀ m,m ∉ (fp st op).2→find hp3 m = find st2.hp m)∧(∀ m c,find hp3 m = some c→c = .dead∨find st2.hp m = some c))→Out T st op v st1
section
variable {st st1 st2 : AS} {v : V}
theorem qsh {i : TI} {p : V} (b : ∀ m∈Qz p,find st2.hp m = find st.hp m) : Jp st2 i p = Jp st i p:=by
  cases p with
  | ref n es a j=>
    have : st2.blk n = st.blk n:=b n (by simp [Qz])
    simp only [Jp,this]
  | d x=>cases x <;> rfl
  | _=>rfl
theorem qie {x : V} (a : ∀ m∈Qz x,find st2.hp m = find st.hp m) : Yx st2 x = Yx st x:=by
  cases x with
  | hs n es o l=>
    have : st2.blk n = st.blk n:=a n (by simp [Qz])
    simp only [Yx,this]
  | d x=>cases x <;> rfl
  | _=>rfl
theorem qed {x : V} (a : ∀ m∈Qz x,find st2.hp m = find st.hp m) : Yo st2 x = Yo st x:=by
  cases x with
  | hs n es o l=>
    have : st2.blk n = st.blk n:=a n (by simp [Qz])
    simp only [Yo,this]
  | d x=>cases x <;> rfl
  | _=>rfl
theorem Jo {α : Type} {l : List (Nat × α)} {k t : Nat} {x : α} (h : k≠t) : find (repl l k x) t = find l t:=by rw [Yt,if_neg h]
theorem q4x {α : Type} {l : List (Nat × α)} {k t : Nat} {x : α} (h : find l t = none) : find (repl l k x) t = none:=by
  rw [Yt];split
  · rename_i e;subst e;rw [h];rfl
  · exact h
theorem q4w {l a : List (Nat × Blk)} {k t : Nat} {x : Blk} (h : find a t = find l t) : find (repl a k x) t = find (repl l k x) t:=by
  rw [Yt,Yt];split
  · rename_i e;subst e;rw [h]
  · exact h
theorem qwe {l : List (Nat × Blk)} {k m : Nat} {c : Blk} (h : find (repl l k .dead) m = some c) : c = .dead∨find l m = some c:=by
  rw [Yt] at h;split at h
  · cases a : find l k with
    | none=>rw [a] at h;cases h
    | some b=>rw [a] at h;cases h;exact .inl rfl
  · exact .inr h
theorem q120 {i : TI} {p y : V} (h : J8 st i p y = some st1) : ∃ n b,Qz p = [n]∧st1 = ⟨st.sl,repl st.hp n b,st.nx⟩∧∀ st2 : AS,find st2.hp n = find st.hp n→J8 st2 i p y = some ⟨st2.sl,repl st2.hp n b,st2.nx⟩:=by
  cases p with
  | ref n k a j=>
    simp only [J8] at h
    split at h
    · cases h
    · rename_i l
      have key : ∀ b : Blk,∀ st2 : AS,st2.setBlk n b = ⟨st2.sl,repl st2.hp n b,st2.nx⟩:=fun _ _=>rfl
      split at h
      · rename_i es xs hb
        split at h
        · rename_i cs f g
          split at h
          · rename_i c
            split at h
            · rename_i ds hd
              cases h
              refine ⟨n,_,rfl,key _ _,fun st2 e=>?_⟩
              have d : st2.blk n = st.blk n:=e
              simp only [J8,if_neg l,d,hb,f,g,if_pos c,hd]
              rfl
            · rename_i hd
              cases h
              refine ⟨n,_,rfl,key _ _,fun st2 e=>?_⟩
              have d : st2.blk n = st.blk n:=e
              simp only [J8,if_neg l,d,hb,f,g,if_pos c,hd]
              rfl
          · cases h
        · cases h
      · rename_i es xs hb
        split at h
        · rename_i cs f g
          split at h
          · rename_i c
            cases h
            refine ⟨n,_,rfl,key _ _,fun st2 e=>?_⟩
            have d : st2.blk n = st.blk n:=e
            simp only [J8,if_neg l,d,hb,f,g,if_pos c]
            rfl
          · cases h
        · cases h
      · cases h
  | _=>simp [J8] at h
theorem qqi {p y : V} (h : copyV st p y = some (v,st1)) : ∃ n b,Qz p = [n]∧st1 = ⟨st.sl,repl st.hp n b,st.nx⟩∧∀ st2 : AS,find st2.hp n = find st.hp n→(∀ m∈Qz y,find st2.hp m = find st.hp m)→copyV st2 p y = some (v,⟨st2.sl,repl st2.hp n b,st2.nx⟩):=by
  cases p with
  | hs n es o l=>
    simp only [copyV] at h
    split at h
    · rename_i k xs ys hb c
      split at h
      · rename_i a
        cases h
        refine ⟨n,_,rfl,rfl,fun st2 e d=>?_⟩
        have f : st2.blk n = st.blk n:=e
        simp only [copyV,f,hb,qed d,c,if_pos a]
        rfl
      · cases h
    · cases h
  | _=>simp [copyV] at h
theorem qq7 {i : TI} {p : V} (h : Jl st i p = some (v,st1)) : (st1 = st∧∀ st2 : AS,Jl st2 i p = some (v,st2))∨
    ∃ n b,Qz p = [n]∧st1 = ⟨st.sl,repl st.hp n b,st.nx⟩∧∀ st2 : AS,find st2.hp n = find st.hp n→Jl st2 i p = some (v,⟨st2.sl,repl st2.hp n b,st2.nx⟩):=by
  cases p with
  | d x=>
    cases x <;> simp only [Jl,reduceCtorEq,Option.some.injEq,Prod.mk.injEq] at h
    obtain ⟨rfl,rfl⟩:=h
    exact .inl ⟨rfl,fun st2=>rfl⟩
  | hs n es o l=>
    right
    simp only [Jl] at h
    split at h
    · rename_i k xs hb
      split at h
      · rename_i a
        cases h
        refine ⟨n,_,rfl,rfl,fun st2 e=>?_⟩
        have c : st2.blk n = st.blk n:=e
        simp only [Jl,c,hb,if_pos a]
        rfl
      · cases h
    · cases h
  | _=>simp [Jl] at h
theorem qor {i : TI} {p y : V} (h : Ys st i p y = some (v,st1)) :
    (st1 = st∧∀ st2 : AS,(∀ m∈Qz p ++ Qz y,find st2.hp m = find st.hp m)→Ys st2 i p y = some (v,st2))∨
    (∃ es l b hp1,v = .hs st.nx es 0 l∧st1 = ⟨st.sl,(st.nx,b)::hp1,st.nx + 1⟩∧((hp1 = st.hp∧∀ st2 : AS,(∀ m∈Qz p ++ Qz y,find st2.hp m = find st.hp m)→Ys st2 i p y = some (.hs st2.nx es 0 l,⟨st2.sl,(st2.nx,b)::st2.hp,st2.nx + 1⟩))∨
      (∃ n,n∈Qz p∧hp1 = repl st.hp n .dead∧∀ st2 : AS,(∀ m∈Qz p ++ Qz y,find st2.hp m = find st.hp m)→Ys st2 i p y = some (.hs st2.nx es 0 l,⟨st2.sl,(st2.nx,b)::repl st2.hp n .dead,st2.nx + 1⟩)))):=by
  cases p with
  | d x=>
    cases x <;> simp only [Ys,reduceCtorEq] at h
    have c : ∀ st2 : AS,(∀ m∈Qz (.d .nilsl) ++ Qz y,find st2.hp m = find st.hp m)→Yo st2 y = Yo st y∧Yx st2 y = Yx st y:=fun st2 e=>
      ⟨qed fun m g=>e m (by simp [g]),qie fun m g=>e m (by simp [g])⟩
    split at h
    · rename_i ys hd
      split at h
      · rename_i a
        split at h
        · rename_i q
          cases h
          refine .inl ⟨rfl,fun st2 e=>?_⟩
          simp only [Ys,(c st2 e).1,hd,if_pos a,if_pos q]
        · rename_i q
          cases h
          refine .inr ⟨_,_,_,_,rfl,rfl,.inl ⟨rfl,fun st2 e=>?_⟩⟩
          simp only [Ys,(c st2 e).1,hd,if_pos a,if_neg q]
          rfl
      · cases h
    · rename_i hd
      split at h
      · rename_i ys f
        split at h
        · rename_i a
          split at h
          · rename_i q
            cases h
            refine .inl ⟨rfl,fun st2 e=>?_⟩
            simp only [Ys,(c st2 e).1,(c st2 e).2,hd,f,if_pos a,if_pos q]
          · rename_i q
            cases h
            refine .inr ⟨_,_,_,_,rfl,rfl,.inl ⟨rfl,fun st2 e=>?_⟩⟩
            simp only [Ys,(c st2 e).1,(c st2 e).2,hd,f,if_pos a,if_neg q]
            rfl
        · cases h
      · cases h
  | hs n es o l=>
    have c : ∀ st2 : AS,(∀ m∈Qz (.hs n es o l) ++ Qz y,find st2.hp m = find st.hp m)→Yo st2 y = Yo st y∧Yx st2 y = Yx st y∧st2.blk n = st.blk n:=fun st2 e=>
      ⟨qed fun m g=>e m (by simp [g]),qie fun m g=>e m (by simp [g]),e n (by simp [Qz])⟩
    simp only [Ys] at h
    split at h
    · rename_i k xs ys hb hd
      split at h
      · rename_i f
        cases h
        refine .inr ⟨_,_,_,_,rfl,rfl,.inr ⟨n,by simp [Qz],rfl,fun st2 e=>?_⟩⟩
        obtain ⟨r,_,s⟩:=c st2 e
        simp only [Ys,r,s,hb,hd,if_pos f]
        rfl
      · cases h
    · rename_i k xs hb hd
      split at h
      · rename_i ys j
        split at h
        · rename_i f
          cases h
          refine .inr ⟨_,_,_,_,rfl,rfl,.inr ⟨n,by simp [Qz],rfl,fun st2 e=>?_⟩⟩
          obtain ⟨r,t,s⟩:=c st2 e
          simp only [Ys,r,t,s,hb,hd,j,if_pos f]
          rfl
        · cases h
      · cases h
    · rename_i k xs hb
      split at h
      · rename_i ys j
        split at h
        · rename_i f
          cases h
          refine .inr ⟨_,_,_,_,rfl,rfl,.inr ⟨n,by simp [Qz],rfl,fun st2 e=>?_⟩⟩
          obtain ⟨r,t,s⟩:=c st2 e
          simp only [Ys,r,t,s,hb,j,if_pos f]
          rfl
        · cases h
      · cases h
    · cases h
  | _=>simp [Ys] at h
theorem qc4 {op : Op} (h : opFn T st op = some (v,st1)) (a : touch op = 0) : Out T st op v st1:=by
  have g:=(qfs (st2:=st) h q0 (fun e=>absurd a e) (fun _ _=>rfl)).1
  subst g
  refine .calm rfl rfl (fun _ _=>rfl) (fun _ h=>h) fun st2 d f=>?_
  have c:=(qfs (st2:=st2) h q0 (fun e=>absurd a e) d).2
  exact ⟨st2.hp,c,fun m b=>f.1 m b,fun _ _=>rfl⟩
theorem quj {t : TypeId} {p : Operand} (h : opFn T st (.load t p) = some (v,st1)) : Out T st (.load t p) v st1:=by
  simp only [opFn] at h
  cases b : T t with
  | none=>simp [b] at h
  | some i=>
    cases hp : st.ev p with
    | none=>simp [b,hp] at h
    | some x=>
      simp only [b,hp] at h
      obtain ⟨rfl,f⟩:=Yj (st2:=st) h
      have a : fp st1 (.load t p) = (some (Qz x),[]):=by simp only [fp,hp]
      refine .calm rfl rfl (fun _ _=>rfl) (fun _ h=>h) fun st2 g d=>?_
      rw [a] at d
      refine ⟨st2.hp,?_,fun m c=>by rw [a] at c;simp at c,fun _ _=>rfl⟩
      simp only [opFn,b,g p (by simp [Op.operands]),hp,qsh (st:=st1) (st2:=st2) d.2]
      exact (Yj (st2:=st2) f).2
theorem q8u {op : Op} {mk : Nat→V} {b : Blk} (j : (∃ es,mk = fun n=>.ref n es 0 0)∨(∃ es l,mk = fun n=>.hs n es 0 l)∨(mk = fun n=>.mp n)) (k : v = mk st.nx) (q : st1 = st.new b) (g : fp st op = (some [],[st.nx]))
    (f : ∀ st2 : AS,(∀ x∈op.operands,st2.ev x = st.ev x)→opFn T st2 op = some (mk st2.nx,st2.new b)) : Out T st op v st1:=by
  refine .new mk b st.hp j k q (by rw [g];simp) (fun _ _=>rfl) (fun _ h=>h) fun st2 o p=>⟨st2.hp,f st2 o,fun m a=>p.1 m a,fun _ _=>rfl,fun m c d=>.inr d⟩
theorem qum {t : TypeId} {p x : Operand} (h : opFn T st (.store t p x) = some (v,st1)) : Out T st (.store t p x) v st1:=by
  simp only [opFn] at h
  cases c : T t with
  | none=>simp [c] at h
  | some i=>
    cases hp : st.ev p with
    | none=>simp [c,hp] at h
    | some pv=>
      cases g : st.ev x with
      | none=>simp [c,hp,g] at h
      | some xv=>
        simp only [c,hp,g] at h
        cases hs : J8 st i pv xv with
        | none=>simp [hs] at h
        | some r=>
          simp only [hs,Option.map_some,Option.some.injEq,Prod.mk.injEq] at h
          obtain ⟨rfl,rfl⟩:=h
          obtain ⟨n,b,l,rfl,f⟩:=q120 hs
          have d : fp st (.store t p x) = (some [n],[n]):=by simp only [fp,hp,l]
          refine .calm rfl rfl (fun m a=>?_) (fun m a=>q4x a) fun st2 k j=>?_
          · rw [d] at a;exact Jo (by simp at a;omega)
          · rw [d] at j ⊢
            refine ⟨repl st2.hp n b,?_,fun m a=>q4w (j.1 m a),fun m a=>Jo (by simp at a;omega)⟩
            simp only [opFn,c,k p (by simp [Op.operands]),k x (by simp [Op.operands]),hp,g,f st2 (j.1 n qe),Option.map_some]
theorem qrb {args : Array Operand} {ats : Array TypeId} {s x : V} (h : evL st.ev args.toList = some [s,x]) : fp st (.call {callee:=.builtin .append,args:=args,argTypes:=ats}) = (some (Qz s ++ Qz x),st.nx::Qz s):=by
  simp only [fp,h]
theorem qrd {args : Array Operand} {ats : Array TypeId} {s x : V} (h : evL st.ev args.toList = some [s,x]) : fp st (.call {callee:=.builtin .copy,args:=args,argTypes:=ats}) = (some (Qz s ++ Qz x),Qz s):=by
  simp only [fp,h]
theorem qrc {args : Array Operand} {ats : Array TypeId} {x : V} (h : evL st.ev args.toList = some [x]) : fp st (.call {callee:=.builtin .clear,args:=args,argTypes:=ats}) = (some (Qz x),Qz x):=by
  simp only [fp,h]
theorem qre {args : Array Operand} {ats : Array TypeId} {m k : V} (h : evL st.ev args.toList = some [m,k]) : fp st (.call {callee:=.builtin .delete,args:=args,argTypes:=ats}) = (some (Qz m),Qz m):=by
  simp only [fp,h]
theorem quk {t : TypeId} {x k : Operand} {ok : Bool} (h : opFn T st (.lookup t x k ok) = some (v,st1)) : Out T st (.lookup t x k ok) v st1:=by
  have w:=h
  simp only [opFn] at h
  split at h <;> try simp only [reduceCtorEq] at h
  rename_i i n o l g r
  split at h <;> try simp only [reduceCtorEq] at h
  rename_i ks es z s p j
  split at h <;> try simp only [reduceCtorEq] at h
  rename_i q
  cases b : mget i.eagg ks z o es with
  | none=>rw [b] at h;simp at h
  | some e=>
    rw [b] at h
    simp only [Option.map_some,Option.some.injEq,Prod.mk.injEq] at h
    obtain ⟨rfl,rfl⟩:=h
    have a : fp st (.lookup t x k ok) = (some [n],[]):=by simp only [fp,g];rfl
    refine .calm rfl rfl (fun _ _=>rfl) (fun _ h=>h) fun st2 d f=>?_
    rw [a] at f
    have u : st2.blk n = st.blk n:=f.2 n qe
    refine ⟨st2.hp,?_,fun m c=>by rw [a] at c;simp at c,fun _ _=>rfl⟩
    simp only [opFn,l,d x (by simp [Op.operands]),d k (by simp [Op.operands]),g,r,s,u,p,j,if_pos q,b,Option.map_some]
theorem qul {t : TypeId} {m k x : Operand} (h : opFn T st (.mapUpdate t m k x) = some (v,st1)) : Out T st (.mapUpdate t m k x) v st1:=by
  simp only [opFn] at h
  split at h <;> try simp only [reduceCtorEq] at h
  rename_i i n o r l j s d
  split at h <;> try simp only [reduceCtorEq] at h
  rename_i ks es u p
  split at h <;> try simp only [reduceCtorEq] at h
  rename_i q
  cases c : mput i.eagg ks o r es with
  | none=>rw [c] at h;simp at h
  | some es'=>
    rw [c] at h
    simp only [Option.map_some,Option.some.injEq,Prod.mk.injEq] at h
    obtain ⟨rfl,rfl⟩:=h
    have b : fp st (.mapUpdate t m k x) = (some [n],[n]):=by simp only [fp,j];rfl
    refine .calm rfl rfl (fun m a=>?_) (fun m a=>q4x a) fun st2 f g=>?_
    · rw [b] at a;exact Jo (by simp at a;omega)
    · rw [b] at g ⊢
      have w : st2.blk n = st.blk n:=g.1 n qe
      refine ⟨repl st2.hp n (.mp es'),?_,fun m a=>q4w (g.1 m a),fun m a=>Jo (by simp at a;omega)⟩
      simp only [opFn,l,f m (by simp [Op.operands]),f k (by simp [Op.operands]),f x (by simp [Op.operands]),j,s,d,u,w,p,if_pos q,c,Option.map_some]
      rfl
theorem qui {b : Builtin} {args : Array Operand} {ats : Array TypeId} (h : opFn T st (.call {callee:=.builtin b,args:=args,argTypes:=ats}) = some (v,st1)) : Out T st (.call {callee:=.builtin b,args:=args,argTypes:=ats}) v st1:=by
  have h0:=h
  simp only [opFn] at h
  cases z : evL st.ev args.toList with
  | none=>simp [z] at h
  | some vs=>
    simp only [z] at h
    have w : ∀ st2 : AS,(∀ x∈(Op.call {callee:=.builtin b,args:=args,argTypes:=ats}).operands,st2.ev x = st.ev x)→evL st2.ev args.toList = some vs:=fun st2 g=>by
      rw [q8i fun x hx=>g x (by simpa [Op.operands,Call.operands] using hx)];exact z
    cases b
    case append=>
      match vs,h with
      | [s,x],h=>
        have o:=qrb (ats:=ats) z
        simp only [Kw] at h
        split at h
        · rename_i t u y e2
          split at h
          · rename_i i j e3 e4
            split at h
            · rename_i r
              have p : ∀ st2 : AS,(∀ x∈(Op.call {callee:=.builtin .append,args:=args,argTypes:=ats}).operands,st2.ev x = st.ev x)→opFn T st2 (.call {callee:=.builtin .append,args:=args,argTypes:=ats}) = Ys st2 i s x:=fun st2 g=>by
                simp only [opFn,w st2 g,Kw,y,e2,e3,e4,if_pos r]
              rcases qor h with ⟨rfl,d⟩ | ⟨es,l,b,hp1,rfl,rfl,⟨rfl,d⟩ | ⟨n,q,rfl,d⟩⟩
              · refine .calm rfl rfl (fun _ _=>rfl) (fun _ h=>h) fun st2 g f=>?_
                rw [o] at f
                exact ⟨st2.hp,(p st2 g).trans (d st2 f.2),fun m a=>f.1 m (by rw [o] at a;exact a),fun _ _=>rfl⟩
              · refine .new (fun n=>.hs n es 0 l) b _ (.inr (.inl ⟨_,_,rfl⟩)) rfl rfl (by rw [o];simp) (fun _ _=>rfl) (fun _ h=>h) fun st2 g f=>?_
                rw [o] at f
                exact ⟨st2.hp,(p st2 g).trans (d st2 f.2),fun m a=>f.1 m (by rw [o] at a;exact a),fun _ _=>rfl,fun m c r=>.inr r⟩
              · have ad : ∀ m,m ∉ (fp st (.call {callee:=.builtin .append,args:=args,argTypes:=ats})).2→n≠m:=fun m a e=>by
                  rw [o] at a;exact a (by rw [← e];simp [q])
                refine .new (fun n=>.hs n es 0 l) b _ (.inr (.inl ⟨_,_,rfl⟩)) rfl rfl (by rw [o];simp) (fun m a=>Jo (ad m a)) (fun m a=>q4x a) fun st2 g f=>?_
                rw [o] at f
                exact ⟨repl st2.hp n .dead,(p st2 g).trans (d st2 f.2),fun m a=>q4w (f.1 m (by rw [o] at a;exact a)),fun m a=>Jo (ad m a),fun m c r=>qwe r⟩
            · cases h
          · cases h
        · cases h
    case copy=>
      match vs,h with
      | [s,x],h=>
        have o:=qrd (ats:=ats) z
        simp only [Kw] at h
        split at h
        · rename_i t u y e2
          split at h
          · rename_i i j e3 e4
            split at h
            · rename_i r
              have p : ∀ st2 : AS,(∀ x∈(Op.call {callee:=.builtin .copy,args:=args,argTypes:=ats}).operands,st2.ev x = st.ev x)→opFn T st2 (.call {callee:=.builtin .copy,args:=args,argTypes:=ats}) = copyV st2 s x:=fun st2 g=>by
                simp only [opFn,w st2 g,Kw,y,e2,e3,e4,if_pos r]
              obtain ⟨n,b,q,rfl,d⟩:=qqi h
              refine .calm rfl rfl (fun m a=>?_) (fun m a=>q4x a) fun st2 g f=>?_
              · rw [o,q] at a;exact Jo (by simp at a;omega)
              · rw [o] at f ⊢
                refine ⟨repl st2.hp n b,(p st2 g).trans (d st2 (f.1 n (by simp [q])) fun m a=>f.2 m (by simp [a])),fun m a=>q4w (f.1 m a),fun m a=>Jo (by rw [q] at a;simp at a;omega)⟩
            · cases h
          · cases h
        · cases h
    case clear=>
      match vs,h with
      | [x],h=>
        have o:=qrc (ats:=ats) z
        simp only [Kw] at h
        split at h
        · rename_i t y
          split at h
          · rename_i i e3
            split at h
            · rename_i r
              have p : ∀ st2 : AS,(∀ x∈(Op.call {callee:=.builtin .clear,args:=args,argTypes:=ats}).operands,st2.ev x = st.ev x)→opFn T st2 (.call {callee:=.builtin .clear,args:=args,argTypes:=ats}) = Jl st2 i x:=fun st2 g=>by
                simp only [opFn,w st2 g,Kw,y,e3,if_pos r]
              rcases qq7 h with ⟨rfl,d⟩ | ⟨n,b,q,rfl,d⟩
              · refine .calm rfl rfl (fun _ _=>rfl) (fun _ h=>h) fun st2 g f=>?_
                rw [o] at f
                exact ⟨st2.hp,(p st2 g).trans (d st2),fun m a=>f.1 m (by rw [o] at a;exact a),fun _ _=>rfl⟩
              · refine .calm rfl rfl (fun m a=>?_) (fun m a=>q4x a) fun st2 g f=>?_
                · rw [o,q] at a;exact Jo (by simp at a;omega)
                · rw [o] at f ⊢
                  refine ⟨repl st2.hp n b,(p st2 g).trans (d st2 (f.1 n (by simp [q]))),fun m a=>q4w (f.1 m a),fun m a=>Jo (by rw [q] at a;simp at a;omega)⟩
            · cases h
          · cases h
        · cases h
    case delete=>
      match vs,h with
      | [m,k],h=>
        have o:=qre (ats:=ats) z
        simp only [Kw] at h
        split at h <;> try simp only [reduceCtorEq] at h
        rename_i t n kd y
        split at h <;> try simp only [reduceCtorEq] at h
        rename_i i es e2 e3
        split at h <;> try simp only [reduceCtorEq] at h
        rename_i ks e4
        split at h <;> try simp only [reduceCtorEq] at h
        rename_i e5
        cases hg : mdel i.eagg ks kd es with
        | none=>rw [hg] at h;simp at h
        | some es'=>
          rw [hg] at h
          simp only [Option.map_some,Option.some.injEq,Prod.mk.injEq] at h
          obtain ⟨rfl,rfl⟩:=h
          refine .calm rfl rfl (fun m a=>?_) (fun m a=>q4x a) fun st2 g f=>?_
          · rw [o] at a;exact Jo (by simp [Qz] at a;omega)
          · rw [o] at f ⊢
            have e' : st2.blk n = st.blk n:=f.1 n (by simp [Qz])
            refine ⟨repl st2.hp n (.mp es'),?_,fun m a=>q4w (f.1 m a),fun m a=>Jo (by simp [Qz] at a;omega)⟩
            simp only [opFn,w st2 g,Kw,y,e2,e',e3,e4,if_pos e5,hg,Option.map_some]
            rfl
    case len=>exact qc4 h0 rfl
    case min=>exact qc4 h0 rfl
    case max=>exact qc4 h0 rfl
    all_goals simp [Kw] at h
theorem ql3 {op : Op} (h : opFn T st op = some (v,st1)) : Out T st op v st1:=by
  cases op
  case load t p=>exact quj h
  case store t p x=>exact qum h
  case call c=>
    obtain ⟨u,args,ats⟩:=c
    cases u with
    | builtin b=>exact qui h
    | value f=>simp [opFn] at h
    | invoke r n=>simp [opFn] at h
  case alloc t=>
    simp only [opFn] at h
    cases a : T t with
    | none=>simp [a] at h
    | some i=>
      simp only [a,Option.map_some,Option.some.injEq,Prod.mk.injEq] at h
      obtain ⟨rfl,rfl⟩:=h
      exact q8u (mk:=fun n=>.ref n i.size 0 0) (.inl ⟨_,rfl⟩) rfl rfl rfl fun st2 _=>by simp only [opFn,a];rfl
  case box t x=>
    simp only [opFn] at h
    cases a : T t with
    | none=>simp [a] at h
    | some i=>
      cases g : st.ev x with
      | none=>simp [a,g] at h
      | some xv=>
        simp only [a,g] at h
        split at h
        · rename_i o
          simp only [Option.some.injEq,Prod.mk.injEq] at h
          obtain ⟨rfl,rfl⟩:=h
          exact q8u (mk:=fun n=>.ref n i.size 0 0) (.inl ⟨_,rfl⟩) rfl rfl rfl fun st2 j=>by simp only [opFn,a,j x (by simp [Op.operands]),g,if_pos o]
        · cases h
  case buildSlice t len ps=>
    simp only [opFn] at h
    cases a : T t with
    | none=>simp [a] at h
    | some i=>
      cases g : Zy st.ev ps.toList with
      | none=>simp [a,g] at h
      | some vs=>
        simp only [a,g] at h
        split at h
        · rename_i l z
          split at h
          · rename_i o
            cases w : q36 (List.replicate len (i.ezero.map .d)) l with
            | none=>simp [w] at h
            | some xs=>
              simp only [w,Option.map_some,Option.some.injEq,Prod.mk.injEq] at h
              obtain ⟨rfl,rfl⟩:=h
              exact q8u (mk:=fun n=>.hs n i.esize 0 len) (.inr (.inl ⟨_,_,rfl⟩)) rfl rfl rfl fun st2 j=>by
                have e:=qej (ev:=st.ev) (ev':=st2.ev) (l:=ps.toList) (fun x g=>j x (by simpa [Op.operands] using g))
                simp only [opFn,a,e,g,z,if_pos o,w,Option.map_some]
          · cases h
        · cases h
  case makeSlice t l c=>
    have y:=h
    simp only [opFn] at h
    split at h
    · rename_i i k n k' m s e2 e3
      split at h
      · rename_i o
        simp only [Option.some.injEq,Prod.mk.injEq] at h
        obtain ⟨rfl,rfl⟩:=h
        exact q8u (mk:=fun q=>.hs q i.esize 0 n.toNat) (.inr (.inl ⟨_,_,rfl⟩)) rfl rfl rfl fun st2 j=>by
          simp only [opFn,s,j l (by simp [Op.operands]),j c (by simp [Op.operands]),e2,e3,if_pos o]
      · cases h
    · cases h
  case lookup=>exact quk h
  case mapUpdate=>exact qul h
  case makeMap t r=>
    have y:=h
    simp only [opFn] at h
    split at h <;> try simp only [reduceCtorEq] at h
    rename_i i s
    split at h <;> try simp only [reduceCtorEq] at h
    rename_i hk
    simp only [Option.some.injEq,Prod.mk.injEq] at h
    obtain ⟨rfl,rfl⟩:=h
    exact q8u (mk:=fun n=>.mp n) (.inr (.inr rfl)) rfl rfl rfl fun st2 _=>by simp only [opFn,s,if_pos hk]
  all_goals first | exact qc4 h rfl | (simp [opFn] at h;done)
end
end Go.Am
namespace Go.Am
open Go
variable {P : Program} {T : Tab}
section
variable {base : Nat} {w : World} {Z : Nat→Prop} {inj : Inj} {st st1 st2 : AS} {a : Act} {Ds : List Nat} {ops : Array Oper} {o : Oper}
structure Uc (ops : Array Oper) (o : Oper) (x : Fp) (st st2 : AS) : Prop where
  blk : qdh x st st2
  sl : ∀ t∈reads ops o,st2.get t = st.get t
theorem Uc.ev {x : Fp} (h : Uc ops o x st st2) {y : Operand} (a : y∈o.op.operands) : st2.ev y = st.ev y:=by
  cases y with
  | tmp t=>exact h.sl t (List.mem_append_left _ (by unfold slotsOf;rw [List.mem_filterMap];exact ⟨.tmp t,by simpa using a,rfl⟩))
  | const v=>rfl
  | func f=>rfl
  | global g=>rfl
theorem Uc.guard {x : Fp} (h : Uc ops o x st st2) : Qo ops st2 o = Qo ops st o:=by
  have hs:=h.sl
  unfold reads at hs
  unfold Qo
  cases b : o.guard with
  | none=>rfl
  | some jw=>
    obtain ⟨j,a⟩:=jw
    simp only [b] at hs
    simp only
    cases hd : (ops[j]?).bind (·.dst) with
    | none=>rfl
    | some t=>
      simp only [hd] at hs
      simp only
      rw [hs t qe]
theorem Uc.callee {x : Fp} (h : Uc ops o x st st2) {c : Call} (d : o.op = .call c) : callee st2 c = callee st c:=by
  obtain ⟨a,args,argTypes⟩:=c
  unfold Am.callee
  cases a with
  | builtin b=>rfl
  | invoke r n=>rfl
  | value f=>
    simp only
    rw [h.ev (y:=f) (by rw [d];simp [Op.operands,Call.operands]),q8i (fun x g=>h.ev (y:=x) (by rw [d];simp [Op.operands,Call.operands];exact .inr (by simpa using g)))]
theorem Yu {st : AS} {d : Option Tmp} {v : V} {t : Tmp} : (st.putD d v).get t = if d = some t then some v else st.get t:=by
  cases d with
  | none=>simp [AS.putD]
  | some d=>simp only [AS.putD,AS.put,AS.get,Kk,Option.some.injEq]
theorem qgw {w : World} {Z : Nat→Prop} {inj : Inj} {nx : Nat} {fz : List Nat} {g : AS} {v : V} {x : Value} (h : RelV w Z inj nx v x) : Wv g (fun n=>n) fz [] nx v v:=by
  induction h with
  | d h=>exact .d (.refl _)
  | @agg ds cs hl _ ih=>
    exact .agg rfl fun i c d a hd=>by
      rw [a] at hd;cases hd
      obtain ⟨y,b⟩:=Kt (xs:=cs) (i:=i) (by rw [← hl];exact K3 a)
      exact ih i c y a b
  | @tup ds cs hl _ ih=>
    exact .tup rfl fun i c d a hd=>by
      rw [a] at hd;cases hd
      obtain ⟨y,b⟩:=Kt (xs:=cs) (i:=i) (by rw [← hl];exact K3 a)
      exact ih i c y a b
  | @fn f ds cs hl _ ih=>
    exact .fn rfl fun i c d a hd=>by
      rw [a] at hd;cases hd
      obtain ⟨y,b⟩:=Kt (xs:=cs) (i:=i) (by rw [← hl];exact K3 a)
      exact ih i c y a b
  | ref h1 h2=>exact .ref rfl qe h1
  | @dref cs j _ _ _ _ _=>exact .dref cs j
  | hsnil h1=>exact .hs rfl qe h1
  | hs h1 _ _ _=>exact .hs rfl qe h1
  | yld h1 _=>exact .yld rfl qe h1
  | mp h1 _=>exact .mp rfl qe h1
  | dead v=>exact .dead _
theorem q13a {w : World} {Z : Nat→Prop} {inj : Inj} {nx n : Nat} {fz : List Nat} {a : AS} {b : Blk} (h : RelB w Z inj nx n b) : Wb a (fun n=>n) fz [] nx b b:=by
  cases b with
  | dead=>exact .dead _
  | dat es xs=>exact .dat _ _
  | mp es=>exact .mp _
  | cel es xs=>
    obtain ⟨_,_,v⟩:=h
    refine .cel rfl fun i x y f k=>?_
    rw [f] at k;cases k
    refine ⟨rfl,fun j c d g hd=>?_⟩
    rw [g] at hd;cases hd
    rcases v with ⟨rfl,_⟩ | ⟨b,o,arr,ty,_,_,q⟩
    · simp at f
    · obtain ⟨z,c',_,r⟩:=q i x j c f g
      exact ⟨qgw r,z⟩
  | loop s ps assign body dn pe=>
    obtain ⟨b,tmps,D,fn,_,_,_,u⟩:=h
    refine .loop fun t l m=>?_
    obtain ⟨x,_,p⟩:=u t l m
    exact ⟨l,m,qgw p⟩
theorem qje {w' : World} {Z' : Nat→Prop} {inj' : Inj} {a' : Act} {q : List Nat} {dst : Option Tmp} {n es : Nat} {xs : List (List DV)} {hp2 : List (Nat × Blk)} (w : RelS w' Z' inj' (st1.putD dst (.hs n es 0 xs.length)) a' q) (hh : st1.hp = (n,.dat es xs)::hp2) (hf : find hp2 n = none) (hn : base≤n) (h4 : base≤st1.nx) :
    Wk base (fun n=>n) [n] [] (st1.putD dst (.hs n es 0 xs.length)) (({sl:=st1.sl,hp:=hp2,nx:=st1.nx} : AS).putD dst (.d (.sl es xs))):=by
  have g : (({sl:=st1.sl,hp:=hp2,nx:=st1.nx} : AS).putD dst (.d (.sl es xs))).nx = st1.nx:=Yf _ _ _
  have l : (({sl:=st1.sl,hp:=hp2,nx:=st1.nx} : AS).putD dst (.d (.sl es xs))).hp = hp2:=Ye _ _ _
  have f : ∀ m b,find hp2 m = some b→m≠n∧find (st1.putD dst (.hs n es 0 xs.length)).hp m = some b:=by
    intro m b a
    have h : m≠n:=by rintro rfl;rw [hf] at a;cases a
    refine ⟨h,?_⟩
    rw [Ye,hh,Kk,if_neg (by intro e;exact h e.symm)];exact a
  refine ⟨?_,?_,?_,?_,fun _ _=>rfl,by rw [g];exact h4,fun m a=>by simp at a;omega,fun m a=>by cases a⟩
  · intro t r o
    rw [g]
    rw [Yu] at o
    by_cases p : dst = some t
    · rw [if_pos p] at o;cases o
      refine ⟨_,by rw [Yu,if_pos p],.frz (k:=es) (xs:=xs) ?_ qe q0 qe rfl⟩
      show find (st1.putD dst _).hp n = _
      rw [Ye,hh,Kk,if_pos rfl]
    · rw [if_neg p] at o
      have u : (st1.putD dst (.hs n es 0 xs.length)).get t = some r:=by rw [Yu,if_neg p];exact o
      obtain ⟨x,_,z⟩:=w.slots t r u
      rw [Yf] at z
      exact ⟨r,u,qgw z⟩
  · intro m s a
    rw [g]
    unfold AS.blk at a
    rw [l] at a
    obtain ⟨h,j⟩:=f m s a
    obtain ⟨k1,v⟩:=w.heap.blk m s j
    rw [Yf] at k1 v
    exact ⟨k1,.inr ⟨qe,s,j,q13a v⟩⟩
  · intro m k b c _ _ _ _ e;exact e
  · intro m b a _ y
    unfold AS.blk at a
    rw [l] at a
    simp at y
    exact (f m b a).1 y
theorem qv1 {w : World} {Z : Nat→Prop} {inj : Inj} {a a' : Act} {Ds : List Nat} {w' : World} {dst : Option Tmp} {n es : Nat} {xs : List (List DV)} {hp2 : List (Nat × Blk)}
    (h : Kl base w Z inj st a Ds (st1.putD dst (.hs n es 0 xs.length)) a' w') (p : st1.hp = (n,.dat es xs)::hp2) (m : find hp2 n = none) (q : base≤n) :
    Kl base w Z inj st a Ds (({sl:=st1.sl,hp:=hp2,nx:=st1.nx} : AS).putD dst (.d (.sl es xs))) a' w':=by
  obtain ⟨Z',inj',g,j,l,o,f,k⟩:=h
  obtain ⟨b,c⟩:=q1s j (qje j p m q (by rw [Yf] at f;exact f))
  exact ⟨_,_,g,b,l.trans c (Nat.le_refl _),o,by rw [Yf];rw [Yf] at f;exact f,k⟩
theorem qrn {n es : Nat} {xs : List (List DV)} {hp2 : List (Nat × Blk)} (c : Yr P T) (f : Qo ops st o = some true) (g : opFn T st o.op = some (.hs n es 0 xs.length,st1)) (m : st.nx≤n) (k : st1.hp = (n,.dat es xs)::hp2) (j : find hp2 n = none) :
    Jd P base ops o st (({sl:=st1.sl,hp:=hp2,nx:=st1.nx} : AS).putD o.dst (.d (.sl es xs))):=by
  intro ro Q w Z inj a Ds K h hd hb b l
  exact qeu c f g ro Q w Z inj a Ds K h hd hb b fun a' w' hp=>l a' w' (qv1 hp k j (Nat.le_trans hb m))
theorem q99 {w : World} {Z : Nat→Prop} {inj inj' : Inj} {nx : Nat} {v : V} {x : Value} (h : RelV w Z inj nx v x) (hi : ∀ n p,n < nx→inj n = some p→inj' n = some p) : RelV w Z inj' nx v x:=by
  induction h with
  | d h=>exact .d h
  | agg hl _ ih=>exact .agg hl ih
  | tup hl _ ih=>exact .tup hl ih
  | fn hl _ ih=>exact .fn hl ih
  | ref h1 h2=>exact .ref h1 (hi _ _ h1 h2)
  | dref h1 h2 h3=>exact .dref h1 h2 h3
  | hsnil h1=>exact .hsnil h1
  | hs h1 h2 hsp h3=>
    refine .hs h1 h2 hsp fun a=>?_
    obtain ⟨b,o,f,g,c⟩:=h3 a
    exact ⟨b,o,hi _ _ h1 f,g,c⟩
  | yld h1 h2=>exact .yld h1 (hi _ _ h1 h2)
  | mp h1 h2=>exact .mp h1 (hi _ _ h1 h2)
  | dead v=>exact .dead v
theorem qm1 {w : World} {Z : Nat→Prop} {inj inj' : Inj} {nx n : Nat} {b : Blk} (h : RelB w Z inj nx n b) (hi : ∀ n p,n < nx→inj n = some p→inj' n = some p) (q : n < nx) (f : inj n = none→inj' n = none) : RelB w Z inj' nx n b:=by
  cases b with
  | dead=>trivial
  | dat es xs=>
    obtain ⟨l,k,a⟩:=h
    refine ⟨l,k,?_⟩
    rcases a with ⟨a,g⟩ | ⟨b,o,arr,ty,a,g,r⟩
    · exact .inl ⟨a,f g⟩
    · exact .inr ⟨b,o,arr,ty,hi _ _ q a,g,r⟩
  | mp es=>
    obtain ⟨b,m,cl,l,k⟩:=h
    exact ⟨b,m,cl,hi _ _ q l,k⟩
  | cel es xs=>
    obtain ⟨l,k,a⟩:=h
    refine ⟨l,k,?_⟩
    rcases a with ⟨a,g⟩ | ⟨b,o,arr,ty,a,g,r⟩
    · exact .inl ⟨a,f g⟩
    · refine .inr ⟨b,o,arr,ty,hi _ _ q a,g,fun i x j d u hd=>?_⟩
      obtain ⟨h6,c,z,h8⟩:=r i x j d u hd
      exact ⟨h6,c,z,q99 h8 hi⟩
  | loop s ps assign body dn pe=>
    obtain ⟨b,tmps,D,fn,l,k,a,g⟩:=h
    refine ⟨b,tmps,D,fn,hi _ _ q l,k,a,fun t v y=>?_⟩
    obtain ⟨x,u,hr⟩:=g t v y
    exact ⟨x,u,q99 hr hi⟩
def qb6 (base lo hi : Nat) (w : World) (Z : Nat→Prop) (inj : Inj) (st : AS) (a : Act) (Ds : List Nat) (st' : AS) (a' : Act) (w' : World) : Prop:=
  ∃ Z' inj' Ds',RelS w' Z' inj' st' a' Ds'∧Ext w Z inj st.hp w' Z' inj' st'.hp base∧a'.tmps.size = a.tmps.size∧(∀ D∈Ds',D∈Ds∨w.heap.size≤D)∧∀ m,m < st.nx→(m < lo∨hi≤m)→inj' m = inj m
def qdj (P : Program) (base : Nat) (ops : Array Oper) (o : Oper) (st st' : AS) (lo hi : Nat) : Prop:=
  ∀ (ro : Option Nat) (Q : Exit→Act→World→Prop) (w : World) (Z : Nat→Prop) (inj : Inj) (a : Act) (Ds : List Nat) (K : Act→World→Prop),RelS w Z inj st a Ds→Zx a.tmps.size o.dst = true→base≤lo→base≤st.nx→Y8 ro w→(∀ m,lo≤m→m < hi→inj m = none)→
    (∀ a' w',qb6 base lo hi w Z inj st a Ds st' a' w'→K a' w')→Ub P (Fw ro) ops Q o K a w
theorem qjl {st' : AS} {lo hi : Nat} (h : Jd P st.nx ops o st st') : qdj P base ops o st st' lo hi:=by
  intro ro Q w Z inj a Ds K f hd _ hb c _ n
  refine h ro Q w Z inj a Ds K f hd (Nat.le_refl _) c fun a' w' hp=>n a' w' ?_
  obtain ⟨Z',inj',b,l,d,k,p,j⟩:=hp
  exact ⟨Z',inj',b,l,d.pin_le hb,k,j,fun m g _=>d.pinj m g⟩
theorem qm7 {w : World} {Z : Nat→Prop} {inj : Inj} {w' : World} {Z' : Nat→Prop} {inj' g : Inj} {N r : Nat} {v : V} {x n : Value} (h : RelV w Z inj N v x) (l : RelV w' Z' inj' r v n) (hi : ∀ m p,m < N→inj' m = some p→g m = some p) : RelV w' Z' g N v n:=by
  induction l generalizing x with
  | d l=>exact .d l
  | @agg ds cs hl _ ih=>
    cases h with | @agg _ cs0 hl0 h0=>
    refine .agg hl fun i d c hd j=>?_
    obtain ⟨y,k⟩:=Kt (xs:=cs0) (i:=i) (by rw [← hl0];exact K3 hd)
    exact ih i d c hd j (h0 i d y hd k)
  | @tup ds cs hl _ ih=>
    cases h with | @tup _ cs0 hl0 h0=>
    refine .tup hl fun i d c hd j=>?_
    obtain ⟨y,k⟩:=Kt (xs:=cs0) (i:=i) (by rw [← hl0];exact K3 hd)
    exact ih i d c hd j (h0 i d y hd k)
  | @fn f ds cs hl _ ih=>
    cases h with | @fn _ _ cs0 hl0 h0=>
    refine .fn hl fun i d c hd j=>?_
    obtain ⟨y,k⟩:=Kt (xs:=cs0) (i:=i) (by rw [← hl0];exact K3 hd)
    exact ih i d c hd j (h0 i d y hd k)
  | ref h1 h2=>
    have a:=by cases h with | ref h1 _=>exact h1
    exact .ref a (hi _ _ a h2)
  | dref h1 h2 h3=>exact .dref h1 h2 h3
  | hsnil h1=>
    have a:=by cases h with
      | hsnil h1=>exact h1
      | hs h1 _ _ _=>exact h1
    exact .hsnil a
  | hs h1 h2 hsp h3=>
    have a:=by cases h with
      | hsnil h1=>exact h1
      | hs h1 _ _ _=>exact h1
    refine .hs a h2 hsp fun j=>?_
    obtain ⟨b,o,q,t,s⟩:=h3 j
    exact ⟨b,o,hi _ _ a q,t,s⟩
  | yld h1 h2=>
    have a:=by cases h with | yld h1 _=>exact h1
    exact .yld a (hi _ _ a h2)
  | mp h1 h2=>
    have a:=by cases h with | mp h1 _=>exact h1
    exact .mp a (hi _ _ a h2)
  | dead v=>exact .dead v
theorem qw7 {w : World} {Z : Nat→Prop} {inj : Inj} {w' : World} {Z' : Nat→Prop} {inj' a : Inj} {N N' n : Nat} {b : Blk} (h : RelB w Z inj N n b) (r : RelB w' Z' inj' N' n b) (hi : ∀ m p,m < N→inj' m = some p→a m = some p) (u : a n = inj' n) : RelB w' Z' a N n b:=by
  cases b with
  | dead=>trivial
  | dat es xs=>
    obtain ⟨k,g,f⟩:=r
    refine ⟨k,g,?_⟩
    rw [u];exact f
  | mp es=>
    obtain ⟨b,q,cl,k,g⟩:=r
    exact ⟨b,q,cl,u.trans k,g⟩
  | cel es xs=>
    obtain ⟨k,g,f⟩:=r
    refine ⟨k,g,?_⟩
    rw [u]
    rcases f with f | ⟨b,o,arr,ty,f,z,h5⟩
    · exact .inl f
    · refine .inr ⟨b,o,arr,ty,f,z,fun i x j d l hd=>?_⟩
      obtain ⟨h6,c,h7,h8⟩:=h5 i x j d l hd
      obtain ⟨_,_,k3⟩:=h
      rcases k3 with ⟨rfl,_⟩ | ⟨_,_,_,_,_,_,k5⟩
      · simp at l
      · obtain ⟨_,c0,_,k8⟩:=k5 i x j d l hd
        exact ⟨h6,c,h7,qm7 k8 h8 hi⟩
  | loop s ps assign body dn pe=>
    obtain ⟨b,tmps,D,fn,k,g,f,z⟩:=r
    obtain ⟨_,_,_,_,_,_,_,k4⟩:=h
    refine ⟨b,tmps,D,fn,u.trans k,g,f,fun t v ht=>?_⟩
    obtain ⟨x,l,hr⟩:=z t v ht
    obtain ⟨x0,_,y⟩:=k4 t v ht
    exact ⟨x,l,qm7 y hr hi⟩
theorem qjk {mk : Nat→V} {es q : Nat} {xs : List (List DV)} {f : List (Nat × Blk)} (hT : Yr P T) (hg : Qo ops st o = some true) (hk : (∃ es,mk = fun n=>.ref n es 0 0)∨(∃ es l,mk = fun n=>.hs n es 0 l)∨(mk = fun n=>.mp n))
    (ho : opFn T st o.op = some (mk st.nx,⟨st.sl,(st.nx,.dat es xs)::f,st.nx + 1⟩)) (hq : q < st.nx) (ah : find st.hp q = none) (hold : ∀ m c,find f m = some c→c = .dead∨find st.hp m = some c) (ab : ∀ m,find st.hp m = none→find f m = none) :
    qdj P base ops o st (({sl:=st.sl,hp:=(q,.dat es xs)::f,nx:=st.nx} : AS).putD o.dst (mk q)) q (q + 1):=by
  intro ro Q w Z inj a Ds K h hd bm hb _ an hK
  have aw : inj q = none:=an q (Nat.le_refl _) q0
  unfold Ub
  rw [q39 h hg]
  simp only [if_true]
  refine ⟨fun _ _=>trivial,?_⟩
  rw [show (Fw ro).round = ro from rfl,Oper.semAt_eq ro _ o (ql7 ho)]
  obtain ⟨x,w',inj',hr,hv,hh,k,-,-⟩:=ql8 hT h ho
  simp only at hv hh k
  obtain ⟨d,aj⟩ : ∃ d : Inj,d = fun m=>if m = q then inj' st.nx else inj' m:=⟨_,rfl⟩
  have s : d q = inj' st.nx:=by rw [aj];simp
  have u : ∀ m,m≠q→d m = inj' m:=fun m g=>by rw [aj];simp [g]
  have hi : ∀ m p,m < st.nx→inj' m = some p→d m = some p:=fun m p g hp=>by
    by_cases j : m = q
    · subst j;rw [k.pinj m g,aw] at hp;cases hp
    · rw [u m j];exact hp
  have ad : ∀ m c,find f m = some c→m < st.nx:=fun m c g=>by
    cases hf : find st.hp m with
    | none=>rw [ab m hf] at g;cases g
    | some b=>exact (h.heap.blk m b hf).1
  have bv : ∀ m c,find f m = some c→m≠q:=fun m c g e=>by
    subst e;rw [ab m ah] at g;cases g
  have up : ∀ m c,find f m = some c→find ((st.nx,Blk.dat es xs)::f) m = some c:=fun m c g=>by
    rw [Kk,if_neg (by have:=ad m c g;omega)];exact g
  have af : find ((st.nx,Blk.dat es xs)::f) st.nx = some (.dat es xs):=by rw [Kk,if_pos rfl]
  have back : ∀ m c,find ((q,Blk.dat es xs)::f) m = some c→∃ m',find ((st.nx,Blk.dat es xs)::f) m' = some c∧d m = inj' m'∧((m = q∧m' = st.nx)∨(m≠q∧m' = m)):=by
    intro m c g
    rw [Kk] at g
    by_cases j : q = m
    · subst j
      rw [if_pos rfl] at g;cases g
      exact ⟨_,af,s,.inl ⟨rfl,rfl⟩⟩
    · rw [if_neg j] at g
      exact ⟨m,up m c g,u m (Ne.symm j),.inr ⟨Ne.symm j,rfl⟩⟩
  have hH : RelH w' Z d ((q,Blk.dat es xs)::f) st.nx:=by
    refine ⟨fun m c g=>?_,fun m n b c p r h1 z h3 h4 h5 h6 ap=>?_,fun m b p h1 z h3=>?_,hh.zs,hh.zc⟩
    · rw [Kk] at g
      by_cases j : q = m
      · subst j
        rw [if_pos rfl] at g;cases g
        refine ⟨hq,?_⟩
        obtain ⟨_,k1,k2,k3⟩:=hh.blk st.nx _ af
        exact ⟨k1,k2,by rw [s];exact k3⟩
      · rw [if_neg j] at g
        refine ⟨ad m c g,?_⟩
        rcases hold m c g with rfl | av
        · trivial
        · exact qw7 (h.heap.blk m c av).2 (hh.blk m c (up m c g)).2 hi (u m (Ne.symm j))
    · obtain ⟨m',a1,a2,a3⟩:=back m b h1
      obtain ⟨n',b1,b2,b3⟩:=back n c z
      refine hh.sep m' n' b c p r a1 b1 h3 h4 (a2 ▸ h5) (b2 ▸ h6) ?_
      rcases a3 with ⟨rfl,rfl⟩ | ⟨a3,rfl⟩ <;> rcases b3 with ⟨rfl,rfl⟩ | ⟨b3,rfl⟩
      · exact absurd rfl ap
      · intro e
        have : find f n' = some c:=by rw [Kk,if_neg (Ne.symm b3)] at z;exact z
        have:=ad _ _ this;omega
      · intro e
        have : find f m' = some b:=by rw [Kk,if_neg (Ne.symm a3)] at h1;exact h1
        have:=ad _ _ this;omega
      · exact ap
    · obtain ⟨m',a1,a2,_⟩:=back m b h1
      exact hh.out m' b p a1 z (a2 ▸ h3)
  have hE : Ext w Z inj st.hp w' Z d ((q,Blk.dat es xs)::f) base:=by
    refine ⟨k.size,k.keep,?_,k.big,k.loops,k.zin,k.zout,fun n hn=>?_,k.tape,k.os,k.output,k.frz⟩
    · rintro b ⟨m,c,off,g1,g2,g3⟩
      obtain ⟨m',a1,a2,_⟩:=back m c g1
      exact k.imm b ⟨m',c,off,a1,g2,a2 ▸ g3⟩
    · rw [u n q0];exact k.pinj n q0
  have hV : RelV w' Z d st.nx (mk q) x:=by
    rcases hk with ⟨es,rfl⟩ | ⟨es,l,rfl⟩ | rfl
    rotate_right
    · cases hv with | mp h1 z=>exact .mp hq (s.trans z)
    · cases hv with | ref h1 z=>exact .ref hq (s.trans z)
    · cases hv with
      | hsnil h1=>exact .hsnil hq
      | hs h1 z hsp h3=>
        refine .hs hq z hsp fun hc=>?_
        obtain ⟨b,o,e1,e2,e3⟩:=h3 hc
        exact ⟨b,o,s.trans e1,e2,e3⟩
  have hS : Ym w' Z d st.nx st.sl a.tmps:=fun t v ht=>by
    obtain ⟨y,hy,hr⟩:=h.slots t v ht
    exact ⟨y,hy,q99 (hr.mono (k.zkeep h.heap) k.zin k.big k.pinj (Nat.le_refl _)) hi⟩
  have ac : qb6 base q (q + 1) w Z inj st a Ds (({sl:=st.sl,hp:=(q,.dat es xs)::f,nx:=st.nx} : AS).putD o.dst (mk q)) (a.put o.dst x) w':=by
    refine ⟨Z,d,Ds,?_,by rw [Ye];exact hE,qlj _ _ _,fun _ h=>.inl h,fun m g j=>?_⟩
    · generalize bd : o.dst = dst at hd
      cases dst with
      | none=>exact ⟨hS,hH,h.defs,h.nodup,fun D hD=>k.marks h.heap (h.marks D hD)⟩
      | some t=>exact ⟨hS.put hV (qil hd),hH,h.defs,h.nodup,fun D hD=>k.marks h.heap (h.marks D hD)⟩
    · rw [u m q0];exact k.pinj m g
  rcases hr with hr | ⟨hr,rfl⟩
  · rw [hr];exact hK _ _ ac
  · rw [hr];exact hK _ _ ac
theorem qv0 {w : World} {Z : Nat→Prop} {inj : Inj} {a a' : Act} {Ds : List Nat} {w' : World} {dst : Option Tmp} {n es lo hi : Nat} {xs : List (List DV)} {hp2 : List (Nat × Blk)} (g : base≤st1.nx)
    (h : qb6 base lo hi w Z inj st a Ds (st1.putD dst (.hs n es 0 xs.length)) a' w') (t : st1.hp = (n,.dat es xs)::hp2) (s : find hp2 n = none) (u : base≤n) :
    qb6 base lo hi w Z inj st a Ds (({sl:=st1.sl,hp:=hp2,nx:=st1.nx} : AS).putD dst (.d (.sl es xs))) a' w':=by
  obtain ⟨Z',inj',b,k,o,p,l,r⟩:=h
  have hp : Kl base w Z inj st a Ds (st1.putD dst (.hs n es 0 xs.length)) a' w':=⟨Z',inj',b,k,o,p,by rw [Yf];exact g,l⟩
  obtain ⟨c,f⟩:=q1s k (qje k t s u g)
  refine ⟨_,_,b,c,o.trans f (Nat.le_refl _),p,l,fun m q j=>?_⟩
  rw [← r m q j];simp [wkI]
structure Jf (P : Program) (ops : Array Oper) (o : Oper) (x : Fp) (st st1 : AS) : Prop where
  nx : st.nx≤st1.nx
  sl : ∀ t,o.dst≠some t→st1.get t = st.get t
  hp : ∀ m,m ∉ x.2→find st1.hp m = find st.hp m
  keys : ∀ m,st1.nx≤m→find st.hp m = none→find st1.hp m = none
  fresh : ∀ m,st.nx≤m→m < st1.nx→m∈x.2
  other : ∀ st2,st1.nx≤st2.nx→Uc ops o x st st2→(∀ m,st.nx≤m→m < st1.nx→find st2.hp m = none)→∃ st3,st3.nx = st2.nx∧(∀ base,qdj P base ops o st2 st3 st.nx st1.nx)∧
    (∀ t,o.dst≠some t→st3.get t = st2.get t)∧(∀ t,o.dst = some t→st3.get t = st1.get t)∧(∀ m∈x.2,find st3.hp m = find st1.hp m)∧(∀ m,m ∉ x.2→find st3.hp m = find st2.hp m)
theorem qgk : ∀ {b : List Nat} {n : Nat},hasN b n = true→n∈b
  | a::r,n,h=>by
    simp only [hasN,Bool.or_eq_true] at h
    rcases h with h | h
    · rw [Nat.eq_of_beq_eq_true h];simp
    · exact List.mem_cons_of_mem _ (qgk h)
theorem qkn : ∀ {b : List Nat} {n : Nat},n∈b→hasN b n = true
  | a::r,n,h=>by
    simp only [hasN,Bool.or_eq_true]
    rcases List.mem_cons.1 h with rfl | h
    · left;exact Nat.beq_refl _
    · exact .inr (qkn h)
theorem qja (y : Fp) : fpLe (some [],[]) y = true:=by
  unfold fpLe
  cases y.1 <;> rfl
theorem Jf.mono {x y : Fp} (h : Jf P ops o x st st1) (l : fpLe x y = true) : Jf P ops o y st st1:=by
  simp only [fpLe,Bool.and_eq_true,subN,List.all_eq_true] at l
  obtain ⟨q,g⟩:=l
  have c : ∀ m∈x.2,m∈y.2:=fun m a=>qgk (q m a)
  refine ⟨h.nx,h.sl,fun m a=>h.hp m fun e=>a (c m e),h.keys,fun m b hb=>c m (h.fresh m b hb),fun st2 p b s=>?_⟩
  have d : Uc ops o x st st2:=by
    refine ⟨⟨fun m a=>b.blk.1 m (c m a),?_⟩,b.sl⟩
    have hb:=b.blk.2
    revert g hb
    cases y.1 with
    | none=>
      intro _ hb
      cases x.1 with
      | none=>exact hb
      | some r=>exact fun m _=>hb m
    | some r=>
      cases x.1 with
      | none=>simp
      | some r'=>
        intro g hb m a
        exact hb m (qgk (by simpa using List.all_eq_true.1 g m a))
  obtain ⟨j,n,u,t,w,v,k⟩:=h.other st2 p d s
  refine ⟨j,n,u,t,w,fun m a=>?_,fun m a=>k m fun e=>a (c m e)⟩
  by_cases f : m∈x.2
  · exact v m f
  · rw [k m f,h.hp m f];exact b.blk.1 m a
theorem qnj {v : V} {x : Fp} (c : x.2 = []) (a : ∀ st2,Uc ops o x st st2→Jd P st2.nx ops o st2 (st2.putD o.dst v)) : Jf P ops o x st (st.putD o.dst v):=by
  refine ⟨by rw [Yf];exact Nat.le_refl _,fun t h=>by rw [Yu,if_neg h],fun m _=>by rw [Ye],fun m _ h=>by rw [Ye];exact h,fun m f a=>by rw [Yf] at a;omega,fun st2 g d _=>?_⟩
  refine ⟨st2.putD o.dst v,Yf _ _ _,fun base=>qjl (a st2 d),fun t h=>by rw [Yu,if_neg h],fun t h=>by rw [Yu,Yu,if_pos h,if_pos h],fun m b=>(by rw [c] at b;cases b),fun m _=>by rw [Ye]⟩
theorem q11x (b : Qo ops st o = some false) : Jf P ops o (some [],[]) st (st.putD o.dst (.d (.tup []))):=
  qnj rfl fun _ a=>qjn (a.guard.trans b)
theorem qql {b : Blk} {n : Nat} {sl : List (Nat × V)} {hp1 : List (Nat × Blk)} {v : V} {op : Op} (c : opFn T st op = some (v,⟨sl,(st.nx,b)::hp1,n + 1⟩)) (j : st.nx = n) (h : q35 st op ⟨sl,(st.nx,b)::hp1,n + 1⟩ = true) : ∃ es xs,b = .dat es xs:=by
  by_cases d : touch op = 2
  · simp only [q35,d] at h
    cases b with
    | dat es xs=>exact ⟨es,xs,rfl⟩
    | _=>simp at h
  · have a : touch op≤1:=by
      have : touch op≤2:=by unfold touch;split <;> omega
      omega
    have g:=(qfs (st2:=st) c a (fun _=>rfl) (fun _ _=>rfl)).1
    have f:=congrArg AS.nx g
    simp only at f
    omega
theorem q11v {v : V} (w : Yr P T) (y : Qo ops st o = some true) (z : opFn T st o.op = some (v,st1)) (hd : q35 st o.op st1 = true) : Jf P ops o (fp st o.op) st (st1.putD o.dst v):=by
  cases ql3 z with
  | calm hsl hnx hhp hnone hall=>
    have g : ∀ t,st1.get t = st.get t:=fun t=>by unfold AS.get;rw [hsl]
    refine ⟨by rw [Yf];omega,fun t h=>by rw [Yu,if_neg h,g],fun m a=>by rw [Ye];exact hhp m a,fun m _ h=>by rw [Ye];exact hnone m h,fun m u l=>by rw [Yf] at l;omega,fun st2 p c _=>?_⟩
    obtain ⟨f,n,k,j⟩:=hall st2 (fun x r=>c.ev r) c.blk
    refine ⟨(⟨st2.sl,f,st2.nx⟩ : AS).putD o.dst v,Yf _ _ _,fun base=>qjl (qeu w (c.guard.trans y) n),fun t h=>by rw [Yu,if_neg h];rfl,fun t h=>by rw [Yu,Yu,if_pos h,if_pos h],fun m a=>?_,fun m a=>?_⟩
    · rw [Ye,Ye];exact k m a
    · rw [Ye];exact j m a
  | new mk b hp1 hk hv u hmem hhp hnone hall=>
    subst u
    obtain ⟨es,xs,rfl⟩:=qql z rfl hd
    refine ⟨by rw [Yf];exact Nat.le_succ _,fun t h=>by rw [Yu,if_neg h];rfl,fun m a=>?_,fun m a h=>?_,fun m u l=>?_,fun st2 p c s=>?_⟩
    · rw [Ye,Kk,if_neg (by rintro rfl;exact a hmem)];exact hhp m a
    · rw [Yf] at a
      rw [Ye,Kk,if_neg (by simp only at a;omega)];exact hnone m h
    · rw [Yf] at l
      have : m = st.nx:=by simp only at l;omega
      subst this;exact hmem
    · rw [Yf] at p s ⊢
      simp only at p s
      obtain ⟨f,n,k,j,k4⟩:=hall st2 (fun x r=>c.ev r) c.blk
      have d:=s st.nx (Nat.le_refl _) q0
      refine ⟨(⟨st2.sl,(st.nx,.dat es xs)::f,st2.nx⟩ : AS).putD o.dst (mk st.nx),Yf _ _ _,fun base=>qjk w (c.guard.trans y) hk n q0 d k4 (fun m a=>?_),fun t h=>by rw [Yu,if_neg h];rfl,fun t h=>by rw [Yu,Yu,if_pos h,if_pos h,hv],fun m a=>?_,fun m a=>?_⟩
      · by_cases q : m∈(fp st o.op).2
        · rw [k m q]
          refine hnone m ?_
          rw [← c.blk.1 m q];exact a
        · rw [j m q];exact a
      · rw [Ye,Ye,Kk,Kk]
        split
        · rfl
        · exact k m a
      · rw [Ye,Kk,if_neg (by rintro rfl;exact a hmem)];exact j m a
theorem q11w {n es : Nat} {xs : List (List DV)} {hp2 : List (Nat × Blk)} (hT : Yr P T) (hg : Qo ops st o = some true) (ho : opFn T st o.op = some (.hs n es 0 xs.length,st1)) (q : n = st.nx∧st1.nx = n + 1) (hh : st1.hp = (n,.dat es xs)::hp2) (hf : find hp2 n = none) :
    Jf P ops o (fp st o.op) st (({sl:=st1.sl,hp:=hp2,nx:=st1.nx} : AS).putD o.dst (.d (.sl es xs))):=by
  obtain ⟨rfl,ah⟩:=q
  cases ql3 ho with
  | calm hsl hnx hhp hnone hall=>omega
  | new mk b hp1 hk hv h1 hmem hhp hnone hall=>
    subst h1
    simp only [List.cons.injEq,Prod.mk.injEq,true_and] at hh
    obtain ⟨rfl,rfl⟩:=hh
    refine ⟨by rw [Yf];exact Nat.le_succ _,fun t h=>by rw [Yu,if_neg h];rfl,fun m g=>by rw [Ye];exact hhp m g,fun m g h=>by rw [Ye];exact hnone m h,fun m h1 y=>?_,fun st2 q r k=>?_⟩
    · rw [Yf] at y
      have : m = st.nx:=by simp only at y;omega
      subst this;exact hmem
    · rw [Yf] at q k ⊢
      simp only at q k
      obtain ⟨j,k1,z,v,k4⟩:=hall st2 (fun x hx=>r.ev hx) r.blk
      have f:=k st.nx (Nat.le_refl _) q0
      have c : ∀ m,find st2.hp m = none→find j m = none:=fun m g=>by
        by_cases u : m∈(fp st o.op).2
        · rw [z m u]
          refine hnone m ?_
          rw [← r.blk.1 m u];exact g
        · rw [v m u];exact g
      refine ⟨(⟨st2.sl,j,st2.nx⟩ : AS).putD o.dst (.d (.sl es xs)),Yf _ _ _,fun base=>?_,fun t h=>by rw [Yu,if_neg h];rfl,fun t h=>by rw [Yu,Yu,if_pos h,if_pos h],fun m g=>by rw [Ye,Ye];exact z m g,fun m g=>by rw [Ye];exact v m g⟩
      intro ro Q w Z inj a Ds K h hd l hb s p hK
      refine qjk (base:=base) hT (r.guard.trans hg) hk k1 q0 f k4 c ro Q w Z inj a Ds K h hd l hb s p fun a' w' hp=>hK a' w' ?_
      rw [← hv] at hp
      exact qv0 (st1:=⟨st2.sl,(st.nx,.dat es xs)::j,st2.nx⟩) hb hp rfl (c _ f) l
theorem q12p {hp hp2 : List (Nat × Blk)} (h : ∀ m,find hp2 m = find hp m) : ∀ k,toD hp2 k = toD hp k:=by
  intro k
  induction k with
  | zero=>funext v;cases v <;> rfl
  | succ k ih=>funext v;cases v <;> simp only [toD,ih,h]
theorem qh8 {hp hp2 : List (Nat × Blk)} (h : ∀ m,find hp2 m = find hp m) : ∀ {a : List V},Kg hp2 a = Kg hp a
  | []=>rfl
  | v::r=>by simp only [Kg,q12p h,qh8 h]
theorem qh9 {hp hp2 : List (Nat × Blk)} : ∀ {a : List V},a.all V.isD = true→Kg hp2 a = Kg hp a
  | [],_=>rfl
  | v::r,h=>by
    simp only [List.all_cons,Bool.and_eq_true] at h
    have e : toD hp2 8 v = toD hp 8 v:=by
      cases v <;> first | rfl | (simp [V.isD] at h;done)
    rw [Kg,Kg,e,qh9 (hp:=hp) (hp2:=hp2) h.2]
theorem q11u {c : Call} {f : FuncId} {b : List V} {ds : List DV} {v : V} {hp' : List (Nat × Blk)} {nx' : Nat} {n r : DV} (q : Qo ops st o = some true) (m : o.op = .call c) (p : callee st c = some (f,b))
    (k : Kg st.hp b = some ds) (a : Jb P f (ds.map .d) [] 0 v hp' nx') (g : toD hp' 8 v = some n) (j : DLe n r) (hs : b.all V.isD = true∨r.scalar = true) : Jf P ops o (fpC b) st (st.putD o.dst (.d r)):=by
  refine qnj (by unfold fpC;cases b.all V.isD <;> rfl) fun st2 l=>qjm (l.guard.trans q) m ((l.callee m).trans p) ?_ a g j hs
  rw [← k]
  by_cases hd : b.all V.isD = true
  · exact qh9 hd
  · have h:=l.blk.2
    simp only [fpC,hd,cond_false] at h
    exact qh8 h
theorem qrl {ops : Array Oper} {o : Oper} {c : Call} {f : FuncId} {vs bc : List V} {hp0 hp' am bb : List (Nat × Blk)} {k k' au : Nat} {v' vN : V} {ρ ρ3 : Nat→Nat} {ci an : List Nat} (hg : Qo ops st o = some true) (ho : o.op = .call c) (hc : callee st c = some (f,vs)) (co : vs.length = bc.length)
    (cd : Wk 0 ρ [] [] {sl:=Kv 0 vs,hp:=st.hp,nx:=st.nx} {sl:=Kv 0 bc,hp:=hp0,nx:=k}) (ar : Jb P f bc hp0 k v' hp' k') (bw : Wk 0 ρ3 ci an {sl:=[(0,v')],hp:=hp',nx:=k'} {sl:=[(0,vN)],hp:=am,nx:=au})
    (hb : Back ρ ρ3 an k k' st.nx au st.hp am bb) : Jd P base ops o st ({sl:=st.sl,hp:=bb,nx:=au : AS}.putD o.dst vN):=by
  intro ro Q w Z inj a Ds K h hd bi _ hK
  unfold Ub
  rw [q39 h hg]
  simp only [if_true]
  refine ⟨fun _ _=>trivial,?_⟩
  obtain ⟨xs,hr,hl⟩:=qdx h ho hc ar.1
  rw [show (Fw ro).round = ro from rfl,Oper.semAt_eq ro _ o (by rintro c' h';rw [ho] at h';cases h'),hr,Oper.uponIn_enter]
  refine ⟨fun h=>by simp [Fw] at h,?_⟩
  have bj : RelS w Z inj {sl:=Kv 0 vs,hp:=st.hp,nx:=st.nx} {a with tmps:=xs,defers:=[]} []:=by
    refine ⟨fun t v ht=>?_,h.heap,rfl,List.nodup_nil,qe⟩
    rw [qbb] at ht
    simp only [Nat.zero_le,if_true,Nat.sub_zero] at ht
    obtain ⟨y,hy⟩:=Kt (xs:=xs) (i:=t) (by rw [← hl.1];exact K3 ht)
    exact ⟨y,hy,hl.2 t v y ht hy⟩
  obtain ⟨bs,ah⟩:=q1s bj cd
  have cs : LRel w (wkZ Z inj {sl:=Kv 0 vs,hp:=st.hp,nx:=st.nx} []) (wkI inj ρ []) k bc xs:=by
    refine ⟨by rw [← co];exact hl.1,fun i d y df dc=>?_⟩
    obtain ⟨y',bv,hr⟩:=bs.slots i d (by rw [qbb];simpa using df)
    rw [dc] at bv;cases bv
    exact hr
  refine CallsIn.mono (ar.2 w _ _ xs bs.heap cs) ?_
  rintro e w' ⟨x,Z',inj',rfl,hh,bz,hv,hn⟩
  obtain ⟨s,af⟩ : ∃ s : Inj,s = fun n=>if n < k' then inj' n else none:=⟨_,rfl⟩
  have ab : ∀ n,n < k'→s n = inj' n:=fun n hn=>by rw [af];simp [hn]
  have cx : RelH w' Z' s hp' k':=by
    refine ⟨fun n b hb=>?_,fun n m b c p q l j u h4 h5 h6=>?_,fun n b p l j u=>?_,hh.zs,hh.zc⟩
    · obtain ⟨k1,k2⟩:=hh.blk n b hb
      exact ⟨k1,qm1 k2 (fun m p hm hp=>(ab m hm).trans hp) k1 (fun hp=>(ab n k1).trans hp)⟩
    · rw [ab n (hh.blk n b l).1] at h5;rw [ab m (hh.blk m c j).1] at h6
      exact hh.sep n m b c p q l j u h4 h5 h6
    · rw [ab n (hh.blk n b l).1] at u
      exact hh.out n b p l j u
  have cz : RelV w' Z' s k' v' x:=q99 hv fun n p hn hp=>(ab n hn).trans hp
  have bn : ∀ b,im hp' s b→im hp' inj' b:=by
    rintro b ⟨n,blk,o,l,j,u⟩
    exact ⟨n,blk,o,l,j,by rw [← ab n (hh.blk n blk l).1];exact u⟩
  have bm : RelS w' Z' s {sl:=[(0,v')],hp:=hp',nx:=k'} {a with tmps:=#[x],defers:=[]} []:=by
    refine ⟨fun t v ht=>?_,cx,rfl,List.nodup_nil,qe⟩
    rw [Kk] at ht
    split at ht
    · rename_i e;subst e;cases ht;exact ⟨x,rfl,cz⟩
    · simp [find] at ht
  obtain ⟨ad,aj⟩:=q1s bm bw
  generalize dq : wkZ Z' s {sl:=[(0,v')],hp:=hp',nx:=k'} ci = Z3 at ad aj
  generalize ce : wkI s ρ3 an = z at ad aj
  have cy : RelV w' Z3 z au vN x:=by
    obtain ⟨y,hy,hr⟩:=ad.slots 0 vN (by simp [find])
    simp at hy;subst hy;exact hr
  have bf : ∀ i,i < k→inj' i = inj (ρ i):=fun i hi=>by rw [bz.pinj i hi];simp [wkI]
  have cf : ∀ m,m < st.nx→∀ p,z m = some p→inj m = some p:=by
    intro m hm p hp
    have bd : m ∉ an:=fun hc=>by have:=hb.phn m hc;omega
    rw [← ce] at hp
    simp only [wkI,bd,if_false] at hp
    rcases hb.snd m hm with ⟨l,j⟩ | l
    · rw [af] at hp
      simp only [show ρ3 m < k' by omega,if_true] at hp
      rw [bf _ l,j] at hp;exact hp
    · rw [af] at hp;simp [show ¬ ρ3 m < k' by omega] at hp
  obtain ⟨r,ag⟩ : ∃ r : Inj,r = fun m=>if m < st.nx then inj m else z m:=⟨_,rfl⟩
  have aa : ∀ m,m < st.nx→r m = inj m:=fun m hm=>by rw [ag];simp [hm]
  have cm : ∀ m p,z m = some p→r m = some p:=fun m p hp=>by
    by_cases hm : m < st.nx
    · rw [aa m hm];exact cf m hm p hp
    · rw [ag];simp [hm,hp]
  have hR : ∀ m b,find am m = some b→∀ p,r m = some p→z m = some p:=by
    intro m b bk p hp
    by_cases hm : m < st.nx
    · rw [aa m hm] at hp
      have bd : m ∉ an:=fun hc=>by have:=hb.phn m hc;omega
      obtain ⟨_,j⟩:=bw.blocks m b bk
      rcases j with ⟨j,_⟩ | ⟨_,b0,u,_⟩
      · exact absurd j bd
      · have dd:=(hh.blk _ _ u).1
        rcases hb.snd m hm with ⟨k1,k2⟩ | k1
        · rw [← ce]
          simp only [wkI,bd,if_false]
          rw [ab _ q0,bf _ k1,k2];exact hp
        · omega
    · rw [ag] at hp;simpa [hm] using hp
  have hE : Ext w (wkZ Z inj {sl:=Kv 0 vs,hp:=st.hp,nx:=st.nx} []) (wkI inj ρ []) hp0 w' Z' inj' hp' 0:=bz.pin_le (Nat.zero_le _)
  have de : ∀ b,im am z b→im st.hp inj b∨w.heap.size≤b:=by
    intro b dh
    rcases aj.imm b dh with l | l
    · rcases hE.imm b (bn b l) with j | j
      · exact ah.imm b j
      · exact .inr j
    · exact .inr (Nat.le_trans hE.size l)
  have keep : ∀ b,b < w.heap.size→¬ im hp0 (wkI inj ρ []) b→w'.heap[b]? = w.heap[b]?:=fun b cw dg=>hE.keep b cw dg
  have ap : ∀ m b p,find st.hp m = some b→live b = true→inj m = some p→(∀ i,i < k→ρ i≠m)→¬ im hp0 (wkI inj ρ []) p.1:=by
    rintro m b p l j u h4 ⟨i,blk,o,g1,g2,g3⟩
    obtain ⟨j1,j2⟩:=cd.blocks i blk g1
    rcases j2 with ⟨j2,_⟩ | ⟨_,b0,j3,j4⟩
    · cases j2
    · have ct : inj (ρ i) = some (p.1,o):=by simpa [wkI] using g3
      exact h.heap.sep (ρ i) m b0 b _ p j3 l (qob j4 g2) j ct u (h4 i j1) rfl
  have hZ : ∀ b,Z b→Z3 b:=fun b hz=>aj.zin b (hE.zin b (ah.zin b hz))
  have ca : ∀ b,Z3 b→Z b∨im hp0 (wkI inj ρ []) b∨w.heap.size≤b:=by
    intro b hz
    rcases aj.zout b hz with l | l | l
    · rcases hE.zout b l with j | j | j
      · rcases ah.zout b j with u | u | u
        · exact .inl u
        · rcases j with j | ⟨n,hn,_⟩
          · exact .inl j
          · cases hn
        · exact .inr (.inr u)
      · exact .inr (.inl j)
      · exact .inr (.inr j)
    · rcases hE.imm b (bn b l) with j | j
      · exact .inr (.inl j)
      · exact .inr (.inr j)
    · exact .inr (.inr (Nat.le_trans hE.size l))
  have bg : Zk w w':=hE.big
  have ax : qb5 w w':=hE.loops
  have cb : Ext w Z inj st.hp w' Z3 r bb st.nx:=by
    refine ⟨hE.size,fun b l j=>keep b l (fun u=>(ah.imm b u).elim j (fun h4=>q0)),?_,bg,ax,hZ,?_,aa,hE.tape,hE.os,hE.output,hE.frz⟩
    · rintro b ⟨m,blk,o,g1,g2,g3⟩
      rcases hb.old m blk g1 with g4 | ⟨g4,_⟩
      · exact de b ⟨m,blk,o,g4,g2,hR m blk g4 _ g3⟩
      · exact .inl ⟨m,blk,o,g4,g2,by rw [← aa m (h.heap.blk m blk g4).1];exact g3⟩
    · intro b hz
      rcases ca b hz with l | l | l
      · exact .inl l
      · exact .inr ((ah.imm b l).imp (fun x=>x) (fun x=>x))
      · exact .inr (.inr l)
  have hH : RelH w' Z3 r bb au:=by
    refine ⟨fun m b bk=>?_,fun m n b c p q l j u h4 h5 h6 ch=>?_,fun m b p l j u hz=>?_,ad.heap.zs,ad.heap.zc⟩
    · rcases hb.old m b bk with g | ⟨g,gi⟩
      · obtain ⟨k1,k2⟩:=ad.heap.blk m b g
        refine ⟨k1,qm1 k2 (fun n p _ hp=>cm n p hp) k1 fun hp=>?_⟩
        cases hq : r m with
        | none=>rfl
        | some p=>rw [hR m b g p hq] at hp;cases hp
      · obtain ⟨k1,k2⟩:=h.heap.blk m b g
        refine ⟨Nat.lt_of_lt_of_le k1 hb.nxs,k2.mono (fun b' hz=>?_) hZ bg (fun n hn=>aa n hn) hb.nxs k1 fun p hp cc=>?_⟩
        · refine keep b' (h.heap.zs b' hz) fun hi=>?_
          rcases ah.imm b' hi with l | l
          · exact h.heap.z_im hz l
          · have:=h.heap.zs b' hz;omega
        · exact keep _ (h.heap.im_lt ⟨m,b,p.2,g,cc,hp⟩) (ap m b p g cc hp gi)
    · have aq : ∀ (m n : Nat) (b c : Blk) (p q : Nat × Nat),find am m = some b→live b = true→r m = some p→find st.hp n = some c→live c = true→r n = some q→(∀ i,i < k→ρ i≠n)→p.1≠q.1:=by
        intro m n b c p q l u h5 j h4 h6 hn e
        have hq : inj n = some q:=by rw [← aa n (h.heap.blk n c j).1];exact h6
        have dd:=h.heap.im_lt (b:=q.1) ⟨n,c,q.2,j,h4,hq⟩
        rcases aj.imm p.1 ⟨m,b,p.2,l,u,hR m b l p h5⟩ with g1 | g1
        · rcases hE.imm p.1 (bn _ g1) with g2 | g2
          · exact ap n c q j h4 hq hn (e ▸ g2)
          · omega
        · have:=hE.size;omega
      rcases hb.old m b l with g | ⟨g,gi⟩ <;> rcases hb.old n c j with g' | ⟨g',cu⟩
      · exact ad.heap.sep m n b c p q g g' u h4 (hR m b g p h5) (hR n c g' q h6) ch
      · exact aq m n b c p q g u h5 g' h4 h6 cu
      · exact fun e=>aq n m c b q p g' h4 h6 g u h5 gi e.symm
      · exact h.heap.sep m n b c p q g g' u h4 (by rw [← aa m (h.heap.blk m b g).1];exact h5) (by rw [← aa n (h.heap.blk n c g').1];exact h6) ch
    · rcases hb.old m b l with g | ⟨g,gi⟩
      · exact ad.heap.out m b p g j (hR m b g p u) hz
      · have hq : inj m = some p:=by rw [← aa m (h.heap.blk m b g).1];exact u
        rcases ca p.1 hz with h4 | h4 | h4
        · exact h.heap.out m b p g j hq h4
        · exact ap m b p g j hq gi h4
        · have:=h.heap.im_lt (b:=p.1) ⟨m,b,p.2,g,j,hq⟩;omega
  exact hK _ _ (q3i h bi cb hH hb.nxs (q99 cy fun n p _ hp=>cm n p hp) hd)
theorem q11y {c : Call} {f : FuncId} {b : List V} {v : V} {hp' : List (Nat × Blk)} {nx' : Nat} (h : Qo ops st o = some true) (g : o.op = .call c) (d : callee st c = some (f,b)) (a : Jb P f b st.hp st.nx v hp' nx') :
    Jd P base ops o st ({sl:=st.sl,hp:=hp',nx:=nx' : AS}.putD o.dst v):=qrm h g d a
inductive Zb (P : Program) (base : Nat) (ops : Array Oper) : List Oper→AS→AS→Prop
  | nil {st : AS} : Zb P base ops [] st st
  | cons {o : Oper} {l : List Oper} {st st1 st2 : AS} : Jd P base ops o st st1→Zb P base ops l st1 st2→Zb P base ops (o::l) st st2
  | wk {ρ : Nat→Nat} {fz ph : List Nat} {l : List Oper} {st st1 st2 : AS} : Wk base ρ fz ph st st1→Zb P base ops l st1 st2→Zb P base ops l st st2
inductive Jc (P : Program) (base : Nat) (ops : Array Oper) (F : List Fp) : List Oper→AS→AS→Prop
  | nil {st : AS} : Jc P base ops F [] st st
  | cons {o : Oper} {l : List Oper} {st st1 st2 : AS} : Jf P ops o (fpAt F l.length) st st1→Jc P base ops F l st1 st2→Jc P base ops F (o::l) st st2
  | piv {o : Oper} {l : List Oper} {st st1 st2 : AS} : U4 (fpAt F l.length) = true→Zb P base ops [o] st st1→Jc P base ops F l st1 st2→Jc P base ops F (o::l) st st2
def Uw (P : Program) (base : Nat) (ops : Array Oper) (dr : Dr) (l : List Oper) (st st' : AS) : Prop:=match dr with
  | none=>Zb P base ops l st st'
  | some F=>Jc P base ops F l st st'
theorem qhv {F : List Fp} : ∀ {l : List Oper} {st st' : AS},Jc P base ops F l st st'→∃ (n : Nat) (S : Nat→AS),n≤l.length∧S 0 = st∧(∀ i o,i < n→l[i]? = some o→Jf P ops o (fpAt F (l.length - (i + 1))) (S i) (S (i + 1)))∧
    ((n = l.length∧S n = st')∨∃ o st1,l[n]? = some o∧U4 (fpAt F (l.length - (n + 1))) = true∧Zb P base ops [o] (S n) st1∧Jc P base ops F (l.drop (n + 1)) st1 st')
  | [],st,st',h=>by cases h;exact ⟨0,fun _=>st,Nat.le_refl _,rfl,fun i o h=>q0,.inl ⟨rfl,rfl⟩⟩
  | o::l,st,st',h=>by
    cases h with
    | @cons _ _ _ st1 _ h1 h2=>
      obtain ⟨n,S,p,g,hs,a⟩:=qhv h2
      refine ⟨n + 1,fun i=>match i with | 0=>st | i + 1=>S i,by simp;omega,rfl,fun i f hi d=>?_,?_⟩
      · cases i with
        | zero=>simp at d;subst d;simp only [g,List.length_cons,Nat.zero_add,Nat.add_sub_cancel];exact h1
        | succ i=>
          have:=hs i f q0 (by simpa using d)
          simp only [List.length_cons]
          rw [show l.length + 1 - (i + 1 + 1) = l.length - (i + 1) by omega]
          exact this
      · rcases a with ⟨b,c⟩ | ⟨f,k,b,c,j,m⟩
        · exact .inl ⟨by simp [b],c⟩
        · refine .inr ⟨f,k,by simpa using b,?_,j,by simpa using m⟩
          rw [List.length_cons,show l.length + 1 - (n + 1 + 1) = l.length - (n + 1) by omega]
          exact c
    | @piv _ _ _ st1 _ h1 h2 b=>exact ⟨0,fun _=>st,Nat.zero_le _,rfl,fun i o h=>q0,.inr ⟨o,st1,rfl,by simpa using h1,h2,by simpa using b⟩⟩
theorem qpi {dr : Dr} {l : List Oper} {st2 : AS} (a : Qo ops st o = some false) (h : Uw P base ops dr l (st.putD o.dst (.d (.tup []))) st2) : Uw P base ops dr (o::l) st st2:=by
  cases dr with
  | none=>exact .cons (qjn a) h
  | some F=>exact .cons ((q11x a).mono (qja _)) h
theorem qpg {dr : Dr} {l : List Oper} {st2 : AS} {v : V} (b : Yr P T) (d : Qo ops st o = some true) (c : opFn T st o.op = some (v,st1)) (a : okO dr l.length st o.op st1 = true) (h : Uw P base ops dr l (st1.putD o.dst v) st2) : Uw P base ops dr (o::l) st st2:=by
  cases dr with
  | none=>exact .cons (qeu b d c) h
  | some F=>
    simp only [okO,Bool.and_eq_true] at a
    exact .cons ((q11v b d c a.2).mono a.1) h
theorem qph {dr : Dr} {l : List Oper} {st2 : AS} {n es : Nat} {xs : List (List DV)} {hp2 : List (Nat × Blk)} (a : Yr P T) (g : Qo ops st o = some true) (b : opFn T st o.op = some (.hs n es 0 xs.length,st1)) (j : n = st.nx∧st1.nx = n + 1) (f : st1.hp = (n,.dat es xs)::hp2) (c : find hp2 n = none) (k : okF dr l.length (fp st o.op) = true)
    (h : Uw P base ops dr l (({sl:=st1.sl,hp:=hp2,nx:=st1.nx} : AS).putD o.dst (.d (.sl es xs))) st2) : Uw P base ops dr (o::l) st st2:=by
  cases dr with
  | none=>exact .cons (qrn a g b (Nat.le_of_eq j.1.symm) f c) h
  | some F=>exact .cons ((q11w a g b j f c).mono k) h
theorem qpf {dr : Dr} {l : List Oper} {st2 : AS} {c : Call} {f : FuncId} {k : List V} {ds : List DV} {v : V} {hp' : List (Nat × Blk)} {nx' : Nat} {q r : DV} (n : Qo ops st o = some true) (p : o.op = .call c) (m : callee st c = some (f,k))
    (j : Kg st.hp k = some ds) (a : Jb P f (ds.map .d) [] 0 v hp' nx') (b : toD hp' 8 v = some q) (g : DLe q r) (hs : k.all V.isD = true∨r.scalar = true) (s : okF dr l.length (fpC k) = true) (h : Uw P base ops dr l (st.putD o.dst (.d r)) st2) : Uw P base ops dr (o::l) st st2:=by
  cases dr with
  | none=>exact .cons (qjm n p m j a b g hs) h
  | some F=>exact .cons ((q11u n p m j a b g hs).mono s) h
def Adm (ops : Array Oper) (S : Nat→Prop) : Prop:=∀ j o,S j→ops[j]? = some o→∀ e∈o.after,Region.binds .any e = true→S e.on
def Behind (ops : Array Oper) (o : Oper) (j : Nat) : Prop:=∀ S : Nat→Prop,Adm ops S→(∀ e∈o.after,Region.binds .any e = true→S e.on)→S j
theorem qkk (acc : List Nat) (j : Nat) : ∀ (l : List Edge) (s : Nat),(l.foldl (fun s e=>if Region.binds .any e then s ||| 2 ^ e.on ||| acc.getD e.on 0 else s) s).testBit j = true→
    s.testBit j = true∨∃ e∈l,Region.binds .any e = true∧(e.on = j∨(acc.getD e.on 0).testBit j = true)
  | [],s,h=>.inl h
  | e::l,s,h=>by
    simp only [List.foldl_cons] at h
    rcases qkk acc j l _ h with h | ⟨d,c,a,b⟩
    · by_cases hb : Region.binds .any e = true
      · simp only [hb,if_true,Nat.testBit_or,Bool.or_eq_true,Nat.testBit_two_pow] at h
        rcases h with (h | h) | h
        · exact .inl h
        · exact .inr ⟨e,qe,hb,.inl (by simpa using h)⟩
        · exact .inr ⟨e,qe,hb,.inr h⟩
      · simp only [hb] at h;exact .inl (by simpa using h)
    · exact .inr ⟨d,List.mem_cons_of_mem _ c,a,b⟩
theorem qkl : ∀ (r : List Oper) (pre : List Oper) (acc : List Nat),ops.toList = pre ++ r→acc.length = pre.length→
    (∀ (i m : Nat),acc[i]? = some m→∃ o,ops[i]? = some o∧∀ j,m.testBit j = true→Behind ops o j)→
    (masks acc r).length = ops.size∧∀ (i m : Nat),(masks acc r)[i]? = some m→∃ o,ops[i]? = some o∧∀ j,m.testBit j = true→Behind ops o j
  | [],pre,acc,h,hl,ha=>by
    refine ⟨?_,ha⟩
    have:=congrArg List.length h
    simp at this
    simp [masks,hl,this]
  | o::r,pre,acc,h,hl,ha=>by
    refine qkl r (pre ++ [o]) (acc ++ [qkj acc o]) (by rw [h];simp) (by simp [hl]) ?_
    intro i m b
    by_cases hi : i < acc.length
    · rw [List.getElem?_append_left hi] at b;exact ha i m b
    · rw [List.getElem?_append_right q0] at b
      have g : i = acc.length:=by
        have:=K3 b
        simp at this;omega
      subst g
      simp at b;subst b
      refine ⟨o,by rw [← Array.getElem?_toList,h,hl];simp,fun j t S n v=>?_⟩
      rcases qkk acc j _ _ t with q | ⟨e,u,s,a⟩
      · simp at q
      · have c:=v e (by simpa using u) s
        rcases a with a | a
        · exact a ▸ c
        · rw [List.getD_eq_getElem?_getD] at a
          cases d : acc[e.on]? with
          | none=>rw [d] at a;simp at a
          | some m'=>
            rw [d] at a
            obtain ⟨w,k,hb⟩:=ha _ _ d
            exact hb j a S n (fun p f l=>n _ _ c k p f l)
theorem qim : ∀ (l : List Oper) (n : Nat),qbl n l = true→∀ i o,l[i]? = some o→∀ e∈o.after,Region.binds .any e = true→e.on < n + i
  | [],_,_,i,o,h=>by simp at h
  | x::l,n,h,i,o,ho=>by
    simp only [qbl,Bool.and_eq_true,List.all_eq_true] at h
    cases i with
    | zero=>
      simp at ho;subst ho
      intro e a hb
      have:=h.1 e (by simpa using a)
      simp [hb] at this
      exact this
    | succ i=>
      intro e a hb
      have:=qim l (n + 1) h.2 i o (by simpa using ho) e a hb
      omega
structure q80 (x y : Fp) : Prop where
  ww : ∀ m∈x.2,m ∉ y.2
  rw : ∀ m∈y.2,match x.1 with | none=>False | some r=>m ∉ r
  wr : ∀ m∈x.2,match y.1 with | none=>False | some r=>m ∉ r
theorem qdo {a b : List Nat} (h : q83 a b = true) : ∀ m∈a,m ∉ b:=fun m c hb=>by
  simp only [q83,List.all_eq_true] at h
  have:=h m c
  rw [qkn hb] at this;cases this
theorem qoo {x y : Fp} (h : qdn x y = true) : q80 x y:=by
  simp only [qdn,Bool.and_eq_true] at h
  obtain ⟨⟨f,b⟩,c⟩:=h
  refine ⟨qdo f,fun m a=>?_,fun m a=>?_⟩
  · revert b
    cases x.1 with
    | none=>intro b;rw [List.isEmpty_iff] at b;rw [b] at a;cases a
    | some r=>intro b d;exact qdo b m d a
  · revert c
    cases y.1 with
    | none=>intro c;rw [List.isEmpty_iff] at c;rw [c] at a;cases a
    | some r=>intro c d;exact qdo c m d a
structure q81 (F : List Fp) (ops : Array Oper) : Prop where
  edges : ∀ j o,ops[j]? = some o→∀ e∈o.after,Region.binds .any e = true→e.on < j
  pairs : ∀ i j a b,i < j→ops[i]? = some a→ops[j]? = some b→Behind ops b i∨(q80 (fpAt F (ops.size - (i + 1))) (fpAt F (ops.size - (j + 1)))∧(∀ t∈reads ops a,b.dst≠some t)∧(∀ t∈reads ops b,a.dst≠some t)∧∀ t,a.dst = some t→b.dst≠some t)
  pivs : ∀ i j a b,i < j→ops[i]? = some a→ops[j]? = some b→(U4 (fpAt F (ops.size - (i + 1))) = true∨U4 (fpAt F (ops.size - (j + 1))) = true)→Behind ops b i
theorem qoh {α : Type} {l : List α} {i : Nat} {x : α} (h : l[i]? = some x) : (x,i)∈l.zipIdx:=by
  refine List.mem_of_getElem? (i:=i) ?_
  simp [h]
theorem qeg {o : Oper} {t : Tmp} : q8e o t = true↔o.dst = some t:=by
  unfold q8e
  cases o.dst with
  | none=>simp
  | some d=>simp
theorem qqo {F : List Fp} (h : q8d F ops = true) : q81 F ops:=by
  simp only [q8d,Bool.and_eq_true,List.all_eq_true] at h
  obtain ⟨p,w⟩:=h
  obtain ⟨z,v⟩:=qkl (ops:=ops) ops.toList [] [] rfl rfl qe
  have d : ∀ (i : Nat) (o : Oper),ops[i]? = some o→ops.toList[i]? = some o:=fun i o q=>by rw [Array.getElem?_toList];exact q
  have main : ∀ i j a b,i < j→ops[i]? = some a→ops[j]? = some b→Behind ops b i∨((U4 (fpAt F (ops.size - (i + 1))) = false∧U4 (fpAt F (ops.size - (j + 1))) = false)∧(q80 (fpAt F (ops.size - (i + 1))) (fpAt F (ops.size - (j + 1)))∧(∀ t∈reads ops a,b.dst≠some t)∧(∀ t∈reads ops b,a.dst≠some t)∧∀ t,a.dst = some t→b.dst≠some t)):=fun i j a b c k hb=>by
    have:=w _ (qoh (d j b hb)) _ (qoh (d i a k))
    simp only [Bool.or_eq_true] at this
    rcases this with (h | h) | h
    · have r : Nat.blt i j = true:=by rw [Nat.blt_eq];exact c
      simp only [r] at h;cases h
    · left
      obtain ⟨m,s⟩:=Z8 (xs:=masks [] ops.toList) (i:=j) (by rw [z];exact Yp hb)
      obtain ⟨o',g,n⟩:=v j m s
      rw [hb] at g;cases g
      rw [List.getD_eq_getElem?_getD,s] at h
      exact n i h
    · right
      simp only [Bool.and_eq_true,Bool.not_eq_true'] at h
      obtain ⟨⟨⟨hp1,hp2⟩,h⟩,u⟩:=h
      simp only [qhb,Bool.and_eq_true,List.all_eq_true,Bool.not_eq_true'] at h
      obtain ⟨⟨h4,h6⟩,l⟩:=h
      refine ⟨⟨hp1,hp2⟩,qoo u,fun t f hd=>?_,fun t f hd=>?_,fun t f hd=>?_⟩
      · have:=h4 t f;rw [qeg.2 hd] at this;cases this
      · have:=h6 t f;rw [qeg.2 hd] at this;cases this
      · rw [f] at l;simp only at l;rw [qeg.2 hd] at l;simp at l
  refine ⟨fun j o q e y hb=>?_,fun i j a b c k hb=>(main i j a b c k hb).imp id And.right,fun i j a b c k hb hp=>?_⟩
  · have:=qim _ 0 p j o (d j o q) e y hb
    omega
  · rcases main i j a b c k hb with h | ⟨⟨x,p⟩,_⟩
    · exact h
    · rcases hp with h | h
      · rw [x] at h;cases h
      · rw [p] at h;cases h
end
end Go.Am
